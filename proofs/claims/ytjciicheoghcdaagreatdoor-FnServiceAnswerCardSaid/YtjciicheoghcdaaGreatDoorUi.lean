/- Part of the proof of FnServiceAnswer. -/
import Derived.BigRegion
import Derived.BigRegionIn
import Derived.Deep.AppendLies
import Derived.Deep.DeepCutAuto
import Derived.Deep.RegionHeld3
import Derived.Deep.RegionLaw
import Derived.LoopIn
import Derived.LoopNIn
import Derived.Maps.AppendAt
import Derived.OwnWalkIn
import Derived.RangeFuncBound
import Derived.RangeFuncBox
import Derived.RangeFuncCalls
import Derived.RangeFuncLeaves
import Derived.RangeFuncNested
import Derived.Shelf.Abstract
import Derived.Shelf.RegionOpen
import Derived.TacticsInMore
import Derived.WalkKit
import Derived.Test.YtjciicheoghcdaaGreatDoorUa
import Derived.Test.YtjciicheoghcdaaGreatDoorUb
import Derived.Test.YtjciicheoghcdaaGreatDoorUd
import Derived.Test.YtjciicheoghcdaaGreatDoorUe
import Derived.Test.YtjciicheoghcdaaGreatDoorUf
import Derived.Test.YtjciicheoghcdaaGreatDoorUg
import Derived.Test.YtjciicheoghcdaaGreatDoorUh
namespace Go.Proofs.YtjciicheoghcdaaGreatDoor
open Go.RowKit Go.Proofs.Tryz
set_option linter.all false
set_option maxRecDepth 20000
set_option maxHeartbeats 16000000
section
attribute [local go_sem ↓] Go.wp_at_zero Go.wp_at_succ
theorem je (A:Option Addr) (n cap:Nat) (net:List (Int×List (Mx×Mx))) (F:List Nat) (w:World) (hx:RI (kE smE) w A n cap net F) (hs:GH (kS smS) net) :
  Calls prog 43 #[.slice A n cap] w (JN net w):=by
 obtain⟨i0,hi,hz0,hz1,hz2⟩:=info_parts rI;obtain⟨i2,hi2,hy0,hy1,hy2⟩:=info_parts we;have bn:n<=1048576:=by rw[<-hx.1];exact hs.1
 have HLN:=Qh hx.1;have HS:=Qh hs.2;have hcall:Calls prog 85 #[.slice A n cap] w (fun e w'=>∃ A1 c1 F1,e= .returned (.slice A1 n c1)/\RI (kE smE) w' A1 n c1 net F1/\Below w.heap.size w w'):=by
  refine(bW A n cap net F w hx bn hs.2).mono ?_;rintro e w' ⟨A1,c1,F1,he,h1,_,h3⟩;rw[hx.1] at he h1
  exact⟨A1,c1,F1,he,h1,h3⟩
 have HCALL:=Qh hcall;clear hcall hx hs
 go_enter func43,ntmps43
 go_wp2_with fail
 refine HCALL.out.mono ?_;rintro e w1 ⟨A1,c1,F1,rfl,hri,hb⟩;have H0:Hid (∃ css F',OX (kE mxE) (w1.alloc (.cells #[] 80)) w1.heap.size 80 (some ⟨w1.heap.size,0,none⟩) 0 0 css ((net.map df).take 0) F'):=⟨_,_,OX.kG w1 Ql _⟩;have HLT:Hid (∀ g,g∈F1->g<w1.heap.size):=hri.lt;have hw1:w.heap.size<=w1.heap.size:=hb.size;have HU0:w1.heap.size<=(w1.alloc (.cells #[] 80)).heap.size:=by simp
 have R0:Hid (RI (kE smE) (w1.alloc (.cells #[] 80)) A1 n c1 net F1):=hri.alloc _;have B0:Hid (Below w.heap.size w (w1.alloc (.cells #[] 80))):=hb.alloc hb.size _;clear hri hb HCALL;go_wp2
 go_loopw [4,5] (fun v i wr=>∃ (k c':Nat) (A':Option Addr),k<=n/\i= .int .i64 k/\v= .slice A' k c'/\Hid (∃ css F',OX (kE mxE) wr w1.heap.size 80 A' k c' css ((net.map df).take k) F')/\Hid (RI (kE smE) wr A1 n c1 net F1)/\Hid (Below w.heap.size w wr)/\Hid (∀ q l,q<k->net[q]?=some l->aL l.1 (l.2.map aq)=true)/\Hid (k=0\/n<=4)/\w1.heap.size<=wr.heap.size) (fun _ i _=>n-(intOf i).toNat)
 case atStart=>exact⟨0,0,_,Nat.zero_le _,rfl,rfl,H0,R0,B0,fun q l hq=>absurd hq (by omega),Or.inl rfl,HU0⟩
 case round =>
 obtain⟨k,cA,A',hk,rfl,rfl,hox,hri,hob,hval,hfour,hw1o⟩:=hrel;clear H0 R0 B0 HU0;obtain⟨wo,rfl⟩:∃ u:World,u=wr:=⟨_,rfl⟩
 by_cases hlt:k<n
 ·obtain⟨x,hxk,hmem⟩:=aH (xs:=net) (j:=k) (by have:=HLN.out;omega)
  have HXK:=Qh hxk;obtain⟨hsm,hsx⟩:=HS.out x hmem;have HSX:=Qh hsx;have hwo:w.heap.size<=wo.heap.size:=hob.out.size;obtain⟨b,off,cs,Fx,rfl,hbl,hc,_,Aw,cw,rfl,hrw⟩:=hri.out.cells hxk 2 rfl;obtain⟨m,hm⟩:∃ m,m=x.2.length:=⟨_,rfl⟩;rw[<-hm] at hc hrw hsm;have HM:=Qh hm;have d0:wo.cell? ⟨b,off+k*2,none⟩=some (.int .i64 x.1):=hc 0 (by omega)
  have d1:wo.cell? ⟨b,off+k*2+1,none⟩=some (.slice Aw m cw):=hc 1 (by omega)
  have HRW:=Qh hrw;have k0:(0:Int)<=(k:Int):=by omega
  have k1:(k:Int)<(n:Int):=by omega
  have J0:Hid (JI wo x.1 x.2 (wo.alloc (.cells #[.int .i64 x.1,.slice none 0 0] 80)) 0 none 0):=JI.start wo x.1 x.2;clear hc hxk hmem hm hrw hsx;go_wp2
  go_loopw [7] (fun i wr=>∃ (j c':Nat) (A'':Option Addr),j<=m/\i= .int .i64 j/\Hid (JI wo x.1 x.2 wr j A'' c')) (fun i _=>m-(intOf i).toNat)
  case atStart=>exact⟨0,0,none,Nat.zero_le _,rfl,J0⟩
  case round =>
  obtain⟨j,cI,AI,hj,rfl,hji⟩:=hrel;clear J0;have cl0:wr.cell? ⟨wo.heap.size,0,none⟩=some (.int .i64 x.1):=hji.out.1.cell 0;have cl1:wr.cell? ⟨wo.heap.size,1,none⟩=some (.slice AI j cI):=hji.out.1.cell 1;have zl:wo.heap.size<wr.heap.size:=hji.out.1.lt;have zb:b<wr.heap.size:=by omega
  have e1:wr.cell? ⟨b,off+k*2+1,none⟩=some (.slice Aw m cw):=(hji.out.2.2.cell (p:=⟨b,off+k*2+1,none⟩) hbl).trans d1
  by_cases hjm:j<m
  ·obtain⟨p,hpj,hpm⟩:=aH (xs:=x.2) (j:=j) (by have:=HM.out;omega)
   have HPJ:=Qh hpj;obtain⟨hs1,hs2⟩:=HSX.out p hpm;obtain⟨b2,off2,cs,Fp,rfl,hbl2,hc,_,P1,q1,P2,q2,Fa,Fb,rfl,hp1,hp2,_⟩:=(HRW.out.below hji.out.2.2).cells hpj 6 rfl;have a0:wr.cell? ⟨b2,off2+j*6,none⟩=some (.int .i64 p.1.r):=hc 0 (by omega)
   have a1:wr.cell? ⟨b2,off2+j*6+1,none⟩=some (.int .i64 p.1.c):=hc 1 (by omega)
   have a2:wr.cell? ⟨b2,off2+j*6+2,none⟩=some (.slice P1 p.1.v.length q1):=hc 2 (by omega)
   have a3:wr.cell? ⟨b2,off2+j*6+3,none⟩=some (.int .i64 p.2.r):=hc 3 (by omega)
   have a4:wr.cell? ⟨b2,off2+j*6+4,none⟩=some (.int .i64 p.2.c):=hc 4 (by omega)
   have a5:wr.cell? ⟨b2,off2+j*6+5,none⟩=some (.slice P2 p.2.v.length q2):=hc 5 (by omega)
   have j0:(0:Int)<=(j:Int):=by omega
   have j1:(j:Int)<(m:Int):=by omega
   have HJN:Hid (∀ W:World,Below wr.heap.size wr W->Calls prog 48 #[SMV p.1.r p.1.c P1 p.1.v.length q1 p.2.r p.2.c P2 p.2.v.length q2] W (bD (aq p) W)):=fun W hW=>kL p.1.r p.1.c p.2.r p.2.c p.1.v p.2.v P1 P2 _ q1 _ q2 W (hp1.1.below hW) (hp2.1.below hW) hs1 hs2
   clear hc hpj hpm hp1 hp2 hs1 hs2;obtain⟨hB1,⟨css,FI,hoxI⟩,hB3⟩:=hji.out;have HB1:=Qh hB1;have HOXI:=Qh hoxI;have HB3:=Qh hB3;have hcs:=hoxI.dC;clear hB1 hoxI hB3;obtain⟨mj,hmj⟩:∃ mj,mj=aq p:=⟨_,rfl⟩;rw[<-hmj] at HJN;have HMJ:=Qh hmj;clear hmj;have H1:Hid (∀ (Ap:Option Addr) (cp:Nat),∀ u∈[Value.int .i64 mj.r,Value.int .i64 mj.c,Value.slice Ap mj.v.length cp],u.oneCell'=true):=by
    intro Ap cp u hu;simp at hu;rcases hu with rfl|rfl|rfl <;> rfl
   have H2:Hid (j+1<=maxLen):=by unfold maxLen;show j+1<=_;omega
   have H3:Hid ((j+1)*40<=140737488355328):=by show (j+1)*40<=_;omega
   go_upto_region 10 with fail
   first
    | go_region_law (first
      | (refine step_append_lies _ (by rfl) _ _ _ (by rfl) (wo.heap.size+1) 37 i0 (.agg #[.int .i64 0,.int .i64 0,.slice none 0 0]) 3 40 underlying69 hi hz0 hz1 hz2 rfl (by omega) (.slice AI j cI) j _ (by rfl) (World.ownsRow.alloc (HOXI.out.below HBJ.out).1 _) ⟨wJ.heap.size,0,none⟩ 1 1 [.int .i64 mj.r,.int .i64 mj.c,.slice Ap mj.v.length cp] (by rfl) rfl (fun jj u h=>dz _ _ _ jj u h) (H1.out Ap cp) (by omega) H2.out H3.out (by simp;omega) (wJ.heap.size+1) (by simp) ?_;intro g cap5 w5 hown hgrow hat hlt5;rw[HMJ.out] at hown;have HA:=Qh (JI.app HB1.out HOXI.out HB3.out HBJ.out HPJ.out HOS.out hown hgrow hat);clear hown hgrow hat;have kT:w5.cell? ⟨wo.heap.size,1,none⟩=some (.slice AI j cI):=HA.out.1.cell 1;have fT:=HA.out.1.frozen 1;have zT:=HA.out.1.lt)
      | (go_simp;go_at_call 48;(with_reducible refine(HJN.out _ (by first|exact Below.refl _ _|exact Qb.drew)).mono ?_);rintro e wJ ⟨Ap,cp,rfl,hos,hb⟩;have hbJ:Below wr.heap.size wr wJ:=bp hb (by first|exact Nat.le_refl _|simp) (by first|exact Below.refl _ _|exact Qb.drew);have HBJ:=Qh hbJ;have HOS:Hid (OS wJ wr.heap.size Ap (aq p).v.length cp (aq p).v):=(by rw[<-HMJ.out];exact hos);have g1:wJ.cell? ⟨wo.heap.size,1,none⟩=some (.slice AI j cI):=(HB1.out.aa hbJ).cell 1;have gz:wo.heap.size<wJ.heap.size:=(HB1.out.aa hbJ).lt;have gs:=hbJ.size;clear hos hb hbJ)
      | fail)
    | fail
   all_goals
    go_wp2
    go_roundw
    case rel=>exact⟨j+1,cap5,some ⟨g,0,none⟩,by omega,by go_num,Qh (JA.next HA.out)⟩
    case measure=>simp[intOf];omega
  ·obtain rfl:j=m:=by omega
   obtain⟨hB1,⟨css,FI,hoxI⟩,hB3⟩:=hji.out;rw[List.take_of_length_le (by rw[List.length_map,HM.out];exact Nat.le_refl _)] at hoxI
   obtain⟨F2,hr2,hf2⟩:=hoxI.ri;have HB1:=Qh hB1;have HB3:=Qh hB3;have HR2:=Qh hr2;have HF2:=Qh hf2;clear hB1 hoxI hB3 hr2 hf2 hji
   go_wp2_with fail
   refine(dx x.1 AI j cI (x.2.map aq) F2 wr HR2.out jJ hsm).mono ?_;rintro e w5 ⟨rfl,hb5⟩;have HB5:=Qh hb5;have p0:w5.cell? ⟨wo.heap.size,0,none⟩=some (.int .i64 x.1):=(HB1.out.aa hb5).cell 0;have p1:w5.cell? ⟨wo.heap.size,1,none⟩=some (.slice AI j cI):=(HB1.out.aa hb5).cell 1;have z5:wo.heap.size<w5.heap.size:=(HB1.out.aa hb5).lt;have HBo:Hid (Below wo.heap.size wo w5):=HB3.out.trans (hb5.mono (by omega))
   have HBW:Hid (Below w.heap.size w w5):=hob.out.trans (HBo.out.mono hwo);clear hb5
   cases hl:aL x.1 (x.2.map aq)
   ·have HNO:Hid (bu net=false):=wH HXK.out hl;have HFIN:Hid (Below w.heap.size w (w5.alloc (.cells #[] 80))):=HBW.out.alloc HBW.out.size _;clear hl;go_wp2
    go_ret2
    have:=JN.no (A:=some ⟨w5.heap.size,0,none⟩) HNO.out HFIN.out;rw[HNO.out] at this
    exact this
   ·by_cases n4:4<n
    ·have HNO:Hid (bu net=false):=Eo (by rw[HLN.out];exact n4)
     have HFIN:Hid (Below w.heap.size w (w5.alloc (.cells #[] 80))):=HBW.out.alloc HBW.out.size _;have t4:(4:Int)<(n:Int):=by omega
     clear hl;go_wp2
     go_ret2
     have:=JN.no (A:=some ⟨w5.heap.size,0,none⟩) HNO.out HFIN.out;rw[HNO.out] at this
     exact this
    ·have HV:Hid (∀ q l,q<k+1->net[q]?=some l->aL l.1 (l.2.map aq)=true):=by
      intro q l hq hl'
      by_cases hqk:q<k
      ·exact hval.out q l hqk hl'
      ·obtain rfl:q=k:=by omega
       rw[HXK.out] at hl';injection hl' with hl';subst hl'
       exact hl
     have t4:(n:Int)<=4:=by omega
     obtain⟨cssO,FO,hoxO⟩:=hox.out;have HOXO:=Qh (hoxO.below HBo.out);have HQ:Hid ((kE mxE).P w5 [.int .i64 x.1,.slice AI j cI] (df x) F2):=⟨AI,cI,by simp[df,HM.out],by have:=HR2.out.below HB5.out;simpa [df,HM.out] using this⟩
     have HG:Hid (Fr w5 w1.heap.size F2):=(HF2.out.below HB5.out).mono (by omega)
     have HD:Hid (∀ g,g∈F2->g∉FO/\blk A'≠some g):=fun g hg=>⟨fun h=>by have:=hoxO.lt g h;have:=(HF2.out.2 g hg).1;omega,fun h=>by have:=(hoxO.aj g h).2;have:=(HF2.out.2 g hg).1;omega⟩
     clear hl hoxO hox hval
     go_wp2_with (at_builtin;refine wpList_append_lies _ rfl _ _ 32 rfl w1.heap.size 80 i2 (.agg #[.int .i64 0,.slice none 0 0]) 2 32 underlying32 hi2 hy0 hy1 hy2 rfl (by decide) (.slice A' k cA) k _ rfl (World.ownsRow.alloc HOXO.out.1 _) ⟨w5.heap.size,0,none⟩ 1 1 [.int .i64 x.1,.slice AI j cI] rfl rfl ?c1 ?c2 ?c3 ?c4 ?c5 ?c6 (w5.heap.size+1) ?c7 ?_)
     case c1=>exact dz w5 _ _
     case c2=>intro u hu;simp at hu;rcases hu with rfl|rfl <;> rfl
     case c3=>omega
     case c4=>unfold maxLen;omega
     case c5=>omega
     case c6=>simp;omega
     case c7=>simp
     intro g cap6 w6 hown hgrow hat hlt6;obtain⟨r1,r2,r3⟩:=OX.push HOXO.out HQ.out HG.out HD.out HBW.out hw1 (by omega) hown hgrow hat
     rw[<-aW (GI HXK.out)] at r1;have K1:Hid (∃ css F',OX (kE mxE) w6 w1.heap.size 80 (some ⟨g,0,none⟩) (k+1) cap6 css ((net.map df).take (k+1)) F'):=⟨_,_,r1⟩;have K2:=Qh r2;have K3:Hid (RI (kE smE) w6 (some ⟨b,off,none⟩) n c1 net F1):=(hri.out.below HBo.out).au fun g' hg'=>r3.block g' ((hri.out.below HBo.out).lt g' hg') (fun e=>by have:=(HOXO.out.aj g' e.symm).1;have:=HLT.out g' hg';omega)
     have hw6:w1.heap.size<=w6.heap.size:=by have:=r3.size;have:=HBo.out.size;omega
     clear r1 r2 r3 hown hgrow hat HOXO HQ HG HD HBW;go_wp2
     go_roundw
     case rel=>exact⟨k+1,cap6,_,by omega,by go_num,rfl,K1,K3,K2,HV,Qh (Or.inr (by omega)),hw6⟩
     case measure=>simp[intOf];omega
 ·obtain rfl:k=n:=by omega
  have HYES:Hid (k<=4->bu net=true):=fun h4=>uj (by rw[HLN.out];exact h4) (fun q l hq hl=>hval.out q l (by rw[<-HLN.out];exact hq) hl)
  have h4:k<=4:=by rcases hfour.out with h|h <;> omega
  obtain⟨css,F',hox'⟩:=hox.out;have HB:=Qh hob.out;have HJN:Hid (JN net w (.returned (.tuple #[.slice A' k cA,.bool true])) wo):=by
   have hy:=HYES.out h4;rw[List.take_of_length_le (by rw[List.length_map,HLN.out];exact Nat.le_refl _)] at hox'
   obtain⟨F2,hr2,hf2⟩:=hox'.ri
   exact⟨A',k,cA,F2,by rw[hy],by rw[eL hy];exact hr2,hf2.mono hw1,hob.out⟩
  clear hox' hox;go_wp2
  go_ret2
  exact HJN.out
end
def tB:Elt (List (Int×List (Mx×Mx))×Int) where
 s:=2
 P:=fun w cs x F=>∃ A c,cs=[.slice A x.1.length c,.int .i64 x.2]/\RI (kE smE) w A x.1.length c x.1 F
 len:=by rintro w cs x F ⟨A,c,rfl,_⟩;rfl
 au:=by rintro w w' cs x F ⟨A,c,rfl,h⟩ hk;exact⟨A,c,rfl,h.au hk⟩
 lt:=by rintro w cs x F ⟨A,c,rfl,h⟩;exact h.lt
def svS (x:List (Int×List (Mx×Mx))×Int):Prop:=GH (kS smS) x.1
def sdB (n:Int):Bool:=decide (1<=n/\n<=2147483646)
def svB (x:List (Int×List (Mx×Mx))×Int):Bool:=bu x.1 && sdB x.2
theorem xP (n:Int) (w:World):Calls prog 70 #[.int .i64 n] w fun e w'=>e= .returned (.bool (sdB n))/\w=w':=by
 by_cases h1:1<=n
 ·by_cases h2:n<=2147483646
  ·have e:sdB n=true:=decide_eq_true ⟨h1,h2⟩;rw[e];clear e
   go_enter func70,ntmps70
   go_wp2
   go_ret
   exact⟨rfl,rfl⟩
  ·have e:sdB n=false:=decide_eq_false (fun h=>h2 h.2)
   rw[e];clear e
   go_enter func70,ntmps70
   go_wp2
   go_ret
   exact⟨rfl,rfl⟩
 ·have e:sdB n=false:=decide_eq_false (fun h=>h1 h.1)
  rw[e];clear e
  go_enter func70,ntmps70
  go_wp2
  go_ret
  exact⟨rfl,rfl⟩
theorem pJ (n:Int) (w:World):Calls prog 53 #[.int .i64 n,.int .i64 1,.int .i64 2147483646] w fun e w'=>e= .returned (.bool (sdB n))/\w=w':=by
 by_cases h1:1<=n
 ·by_cases h2:n<=2147483646
  ·have e:sdB n=true:=decide_eq_true ⟨h1,h2⟩;rw[e];clear e
   go_enter func53,ntmps53
   go_wp2
   go_ret
   exact⟨rfl,rfl⟩
  ·have e:sdB n=false:=decide_eq_false (fun h=>h2 h.2)
   rw[e];clear e
   go_enter func53,ntmps53
   go_wp2
   go_ret
   exact⟨rfl,rfl⟩
 ·have e:sdB n=false:=decide_eq_false (fun h=>h1 h.1)
  rw[e];clear e
  go_enter func53,ntmps53
  go_wp2
  go_ret
  exact⟨rfl,rfl⟩
theorem iM (W:World) (cs:List Value) (x:List (Int×List (Mx×Mx))×Int) (F:List Nat) (h:tB.P W cs x F) (hs:svS x):Calls prog 29 #[.agg cs.toArray] W fun e w'=>e= .returned (.bool (svB x))/\Below W.heap.size W w':=by
 obtain⟨A,c,rfl,h1⟩:=h;have HX:=Qh h1;have HS:Hid (GH (kS smS) x.1):=hs;clear h1 hs
 go_enter func29,ntmps29
 go_wp2_with fail
 obtain⟨u1,hu1⟩:∃ u,u=(W.alloc (.cells #[.slice A x.1.length c,.int .i64 x.2] 25)):=⟨_,rfl⟩;rw[<-hu1];have hzu1:u1.heap.size<=W.heap.size+1:=by rw[hu1];simp
 have hyu1:W.heap.size+1<=u1.heap.size:=by rw[hu1];simp
 have B1_1:Blk u1 (W.heap.size) 25 #[.slice A x.1.length c,.int .i64 x.2]:=by rw[hu1];have h:=(Blk.new W 25 #[.slice A x.1.length c,.int .i64 x.2]);simpa using h
 have xb1:W.heap.size<=W.heap.size:=by omega
 have O1:Below W.heap.size W u1:=by rw[hu1];exact((Below.refl W.heap.size W).alloc (by first|omega|(simp;done)|(simp;omega)) _)
 have m1:W.heap.size<=u1.heap.size:=by omega
 clear hu1;have hjn:=FV A _ c x.1 F u1 (HX.out.below O1) HS.out;refine hjn.mono ?_;clear hjn;rintro e w2 ⟨A',n',c',F',rfl,-,-,hb⟩;have B2_1:=(B1_1.aa hb);have O2:=O1.trans (hb.mono (by omega))
 have m2:W.heap.size<=w2.heap.size:=by have:=hb.size;omega
 clear B1_1 O1 hb;have z2_1:W.heap.size<w2.heap.size:=B2_1.lt;have c2_1_0:w2.cell? ⟨W.heap.size,0,none⟩=some (.slice A x.1.length c):=B2_1.cell 0;have f2_1_0:w2.frozen? ⟨W.heap.size,0,none⟩=false:=B2_1.frozen 0;have c2_1_1:w2.cell? ⟨W.heap.size,1,none⟩=some (.int .i64 x.2):=B2_1.cell 1;have f2_1_1:w2.frozen? ⟨W.heap.size,1,none⟩=false:=B2_1.frozen 1
 cases hk:bu x.1
 ·have HE:Hid (svB x=false):=(show svB x=false by unfold svB;rw[hk];rfl)
  clear hk;go_wp2
  go_ret
  exact⟨by first|exact HE.out|(rw[HE.out];rfl),O2⟩
 ·have HE:Hid (svB x=sdB x.2):=(show svB x=sdB x.2 by unfold svB;rw[hk];rfl)
  clear hk
  go_wp2_with fail
  refine Qc (xP x.2 w2) ?_;go_wp2
  go_ret
  exact⟨by first|exact HE.out|(rw[HE.out];rfl)|rw[HE.out],O2⟩
theorem iS (W:World) (cs:List Value) (x:List (Int×List (Mx×Mx))×Int) (F:List Nat) (h:tB.P W cs x F) (hs:svS x):Calls prog 12 #[.agg cs.toArray] W fun e w'=>e= .returned (.bool (svB x))/\Below W.heap.size W w':=by
 obtain⟨A,c,rfl,h1⟩:=h;have HX:=Qh h1;have HS:Hid (GH (kS smS) x.1):=hs;clear h1 hs
 go_enter func12,ntmps12
 go_wp2_with fail
 obtain⟨u1,hu1⟩:∃ u,u=(W.alloc (.cells #[.slice A x.1.length c,.int .i64 x.2] 25)):=⟨_,rfl⟩;rw[<-hu1];have hzu1:u1.heap.size<=W.heap.size+1:=by rw[hu1];simp
 have hyu1:W.heap.size+1<=u1.heap.size:=by rw[hu1];simp
 have B1_1:Blk u1 (W.heap.size) 25 #[.slice A x.1.length c,.int .i64 x.2]:=by rw[hu1];have h:=(Blk.new W 25 #[.slice A x.1.length c,.int .i64 x.2]);simpa using h
 have xb1:W.heap.size<=W.heap.size:=by omega
 have O1:Below W.heap.size W u1:=by rw[hu1];exact((Below.refl W.heap.size W).alloc (by first|omega|(simp;done)|(simp;omega)) _)
 have m1:W.heap.size<=u1.heap.size:=by omega
 clear hu1;have hjn:=je A _ c x.1 F u1 (HX.out.below O1) HS.out;refine hjn.mono ?_;clear hjn;rintro e w2 ⟨A',n',c',F',rfl,-,-,hb⟩;have B2_1:=(B1_1.aa hb);have O2:=O1.trans (hb.mono (by omega))
 have m2:W.heap.size<=w2.heap.size:=by have:=hb.size;omega
 clear B1_1 O1 hb;have z2_1:W.heap.size<w2.heap.size:=B2_1.lt;have c2_1_0:w2.cell? ⟨W.heap.size,0,none⟩=some (.slice A x.1.length c):=B2_1.cell 0;have f2_1_0:w2.frozen? ⟨W.heap.size,0,none⟩=false:=B2_1.frozen 0;have c2_1_1:w2.cell? ⟨W.heap.size,1,none⟩=some (.int .i64 x.2):=B2_1.cell 1;have f2_1_1:w2.frozen? ⟨W.heap.size,1,none⟩=false:=B2_1.frozen 1
 cases hk:bu x.1
 ·have HE:Hid (svB x=false):=(show svB x=false by unfold svB;rw[hk];rfl)
  clear hk;go_wp2
  go_ret
  exact⟨by first|exact HE.out|(rw[HE.out];rfl),O2⟩
 ·have HE:Hid (svB x=sdB x.2):=(show svB x=sdB x.2 by unfold svB;rw[hk];rfl)
  clear hk
  go_wp2_with fail
  refine Qc (pJ x.2 w2) ?_;go_wp2
  go_ret
  exact⟨by first|exact HE.out|(rw[HE.out];rfl)|rw[HE.out],O2⟩
section
attribute [local go_sem] af ah ae
def nm (r c:Int):Nat:=(r*c).toNat
def gB (r c s:Int):Mx:=⟨r,c,fl (rn s) (nm r c)⟩
def cH (m:Mx) (s:Int):(Mx×Mx)×Int:=if (mvB m && sdB s)=true then ((gB m.r m.c s,aE bC m (gB m.r m.c s)),sds s (nm m.r m.c)) else ((Mx.z,Mx.z),0)
theorem lS {m:Mx} {s:Int} (h1:mvB m=true) (h2:sdB s=true):cH m s=((gB m.r m.c s,aE bC m (gB m.r m.c s)),sds s (nm m.r m.c)):=by unfold cH;rw[h1,h2];rfl
theorem xk {m:Mx} {s:Int} (h:(mvB m && sdB s)=false):cH m s=((Mx.z,Mx.z),0):=by unfold cH;rw[h];rfl
theorem dH {s:Int} (h:sdB s=true):1<=s/\s<=2147483646:=of_decide_eq_true h
theorem zh {r c:Int} (h1:side r=true) (h2:side c=true):r*c=(nm r c:Int)/\1<=nm r c/\nm r c<=25:=by
 have:=e6 h1 h2;unfold nm
 omega
theorem kn (n:Int) {b:Bool} (h:sdB n=b) (w:World):Calls prog 53 #[.int .i64 n,.int .i64 1,.int .i64 2147483646] w fun e w'=>e= .returned (.bool b)/\w=w':=by
 subst h
 exact pJ n w
def ij (m:Mx) (k:Int) (w:World) (e:Ending) (w':World):Prop:=∃ (A:Option Addr) (c:Nat),e= .returned (.tuple #[MV m.r m.c A m.v.length c,.int .i64 k])/\OS w' w.heap.size A m.v.length c m.v/\Below w.heap.size w w'
def Fh {α:Type} (E:Elt α) (x:α) (k:Int) (w:World) (e:Ending) (w':World):Prop:=∃ cs F,e= .returned (.tuple #[.agg cs.toArray,.int .i64 k])/\E.P w' cs x F/\Fr w' w.heap.size F/\Below w.heap.size w w'
def vB (p:Mx×Mx) (k:Int) (w:World) (e:Ending) (w':World):Prop:=∃ (A B:Option Addr) (c d:Nat),e= .returned (.tuple #[SMV p.1.r p.1.c A p.1.v.length c p.2.r p.2.c B p.2.v.length d,.int .i64 k])/\OS w' w.heap.size A p.1.v.length c p.1.v/\OS w' w.heap.size B p.2.v.length d p.2.v/\eJ A B/\Below w.heap.size w w'
theorem b9 {r c s:Int} (hr:side r=true) (hc:side c=true) (hs:sdB s=true) (w:World):Calls prog 93 #[.int .i64 r,.int .i64 c,.int .i64 s] w (ij (gB r c s) (sds s (nm r c)) w):=by
 have hsd:=dH hs;obtain⟨h1,h2,h3⟩:=zh hr hc;obtain⟨n,hnm⟩:∃ n,n=nm r c:=⟨_,rfl⟩;rw[<-hnm] at h1 h2 h3;have HNM:=Qh hnm;have hn:n<=4096:=by omega
 have hwN:IntKind.i64.wrap (r*c)=(n:Int):=by rw[h1];exact IntWalk.i64_in _ (by omega)
 clear hnm h1;refine zE ?_;intro u1 H;refine zP (kn s hs u1) ?_;clear H;intro u2 H;refine zP (aT r hr u2) ?_;clear H;intro u3 H;refine zP (aT c hc u3) ?_;clear H;intro u4 H;refine zO (kQ hsd n hn u4) ?_;clear H;intro w5 A ca u5 H;refine zS_ ?_;clear H;intro u6 H
 exact⟨A,ca,by rw[HNM.out];simp[gB,aD,<-HNM.out],by simp only[gB,aD];rw[<-HNM.out];exact(H.o 0),H.O⟩
theorem e_ (W:World) (cs:List Value) (m:Mx) (F:List Nat) (h:mxE.P W cs m F) (hb:mS m) (s:Int):Calls prog 45 #[.agg cs.toArray,.int .i64 s] W (vB (cH m s).1 (cH m s).2 W):=by
 obtain⟨A,c,rfl,h1⟩:=h;have HX:=Qh h1.1;clear h1;unfold mS at hb;have hmS:=hb;obtain⟨w,rfl⟩:∃ w:World,w=W:=⟨_,rfl⟩;refine zE ?_;intro u1 H;refine zG (aQ m.r m.c m.v A _ c u1 (SI.below HX.out H.O) hmS) ?_;rintro e w2 ⟨Aa,ca,rfl,hos,hb⟩;replace H:=H.os hb hos;clear hos
 dsimp only at H ⊢
 refine zN ?_;clear H;intro u3 H;refine zG (aM m.r m.c m.v Aa _ ca u3 (OS.si (H.o 0)) (by omega)) ?_
 rintro e w4 ⟨rfl,hb⟩;replace H:=H.b hb
 cases g1:mvB ⟨m.r,m.c,m.v⟩
 ·have HE:Hid (cH m s=((Mx.z,Mx.z),0)):=xk (by have:mvB m=false:=g1;rw[this];rfl)
  refine zS_ ?_;clear H;intro u5 H
  exact(by rw[HE.out];exact⟨none,none,0,0,rfl,OS.nil _ _,OS.nil _ _,fun g h=>by(cases h),H.O⟩)
 ·cases g2:sdB s
  ·refine zN ?_;clear H;intro u5 H;refine zP (kn s g2 u5) ?_;clear H;intro u6 H;have HE:Hid (cH m s=((Mx.z,Mx.z),0)):=xk (by rw[g2,Bool.and_false])
   refine zS_ ?_;clear H;intro u7 H
   exact(by rw[HE.out];exact⟨none,none,0,0,rfl,OS.nil _ _,OS.nil _ _,fun g h=>by(cases h),H.O⟩)
  ·refine zN ?_;clear H;intro u5 H;refine zP (kn s g2 u5) ?_;clear H;intro u6 H;obtain⟨hsr,hsc⟩:side m.r=true/\side m.c=true:=⟨(cZ (m:=m) g1).2.1,(cZ (m:=m) g1).2.2.1⟩;have HE:Hid (cH m s=((gB m.r m.c s,aE bC m (gB m.r m.c s)),sds s (nm m.r m.c))):=lS (m:=m) g1 g2;obtain⟨R,hR⟩:∃ R,R=gB m.r m.c s:=⟨_,rfl⟩;obtain⟨k,hk⟩:∃ k,k=sds s (nm m.r m.c):=⟨_,rfl⟩;have HRM:Hid (∀ u:World,Calls prog 93 #[.int .i64 m.r,.int .i64 m.c,.int .i64 s] u (fun e w'=>∃ (A:Option Addr) (c:Nat),e= .returned (.tuple #[MV m.r m.c A R.v.length c,.int .i64 k])/\OS w' u.heap.size A R.v.length c R.v/\Below u.heap.size u w')):=by rw[hR,hk];exact fun u=>b9 hsr hsc g2 u
   have hRr:R.r=m.r/\R.c=m.c/\R.v.length<=25:=by rw[hR];exact⟨rfl,rfl,by simp only[gB,aD];exact(zh hsr hsc).2.2⟩
   obtain⟨hRr,hRc,hRl⟩:=hRr;rw[<-hR,<-hk] at HE;obtain⟨D,hD⟩:∃ D,D=aE bC m R:=⟨_,rfl⟩;rw[<-hD] at HE;have HSB:Hid (∀ (u:World) (Ax:Option Addr) (cx:Nat) (Ay:Option Addr) (cy:Nat),SI u Ax m.v.length m.v->SI u Ay R.v.length R.v->Calls prog 94 #[MV m.r m.c Ax m.v.length cx,MV m.r m.c Ay R.v.length cy] u (bD D u)):=fun u Ax cx Ay cy h1 h2=>by
    have h:=GJ m.r m.c m.r m.c m.v R.v Ax Ay _ cx _ cy u h1 h2 hmS (by omega)
    rw[hD];have e:(⟨m.r,m.c,R.v⟩:Mx)=R:=by rw[<-hRr,<-hRc]
    rw[e] at h
    exact h
   clear hR hk hsr hsc g1 g2 hD;refine zO (HRM.out u6) ?_;clear H;intro w7 Ar cr u7 H;refine zX (tg [w7.heap.size,w.heap.size]) ?_;clear H;intro S w8 hne H;refine zD ((And.intro (H.c 0) (H.c 4))) ?_;intro G;refine yO (HSB.out w8 Aa ca Ar cr (OS.si (H.o 2)) (OS.si (H.o 1))) ?_;clear H;intro w9 Ad cd H;refine yS ?_;clear H;intro w10 H;refine yN ?_;clear H G;intro u11 H;refine zS_ ?_;clear H;intro u12 H
   exact(by rw[HE.out];exact⟨Ar,Ad,cr,cd,by first|(rw[hRr,hRc];done)|(rw[hRr,hRc];rfl),(H.o 2),(H.o 0),fun g h1 h2=>H.noo 0 2 g h2 h1,H.O⟩)
theorem D9 (W:World) (cs:List Value) (m:Mx) (F:List Nat) (h:mxE.P W cs m F) (hb:mS m) (s:Int):Calls prog 45 #[.agg cs.toArray,.int .i64 s] W (Fh smE (cH m s).1 (cH m s).2 W) :=
 (e_ W cs m F h hb s).mono fun e w' ⟨A,B,c,d,he,h1,h2,h3,hb⟩=>⟨[.int .i64 (cH m s).1.1.r,.int .i64 (cH m s).1.1.c,.slice A (cH m s).1.1.v.length c,.int .i64 (cH m s).1.2.r,.int .i64 (cH m s).1.2.c,.slice B (cH m s).1.2.v.length d],_,he,⟨A,c,B,d,_,_,rfl,MF.aB h1,MF.aB h2,rfl⟩,Fr.app (ek h1) (ek h2) (fun g a b=>h3 g (bz a).2 (bz b).2),hb⟩
end
@[reducible] def T2 (a b:Int):Value:= .agg #[.int .i64 a,.int .i64 b]
def sv (a b:Int):Bool:=rv a && rv b
theorem fY {a b:Int} (h:sv a b=true):(0<=a/\a<=4095)/\0<=b/\b<=4095:=by
 simp only[sv,Bool.and_eq_true] at h
 exact⟨kJ h.1,kJ h.2⟩
theorem fX {a b:Int} (h1:0<=a/\a<=4095) (h2:0<=b/\b<=4095):sv a b=true:=by simp[sv,aR h1,aR h2]
theorem dX {x y:Int} (h1:0<=x/\x<=4095) (h2:0<=y/\y<=4095):aJ x y=(x+y)%4096:=by simp[aJ,aR h1,aR h2]
theorem qL {x y:Int} (h1:0<=x/\x<=4095) (h2:0<=y/\y<=4095):bC x y=(x-y)%4096:=by simp[bC,aR h1,aR h2]
def bd (v:Bool) (x:Int):Int:=if v=true then x else -1
theorem oO (a b:Int) (w:World):Calls prog 285 #[T2 a b] w fun e w'=>e= .returned (.bool (sv a b))/\Below w.heap.size w w':=by
 cases h1:rv a <;> cases h2:rv b
 all_goals
  go_enter func285,ntmps285
  go_wp2_with (go_at_call 54;refine Qc (iL _ _) ?_)
  go_ret
  exact⟨by simp[sv,h1,h2],(by repeat (first|assumption|exact Below.refl _ _|apply Below.drew|(refine Below.setCell ?_ (by(first|omega|(simp <;> omega))) _)|(refine Below.alloc ?_ (by(first|omega|(simp <;> omega))) _)|(refine bp (by assumption) (by(first|omega|(simp <;> omega))) ?_)))⟩
theorem bQ {a b:Int} (h:sv a b=true) (w:World):Calls prog 285 #[T2 a b] w fun e w'=>e= .returned (.bool true)/\Below w.heap.size w w':=by
 have:=oO a b w
 rwa [h] at this
theorem DZ (a b:Int) (w:World):Calls prog 230 #[T2 a b] w fun e w'=>e= .returned (.bool (sv a b))/\Below w.heap.size w w':=by
 cases h1:rv a <;> cases h2:rv b
 all_goals
  go_enter func230,ntmps230
  go_wp2_with (go_at_call 133;refine Qc (iQ _ _) ?_)
  go_ret
  exact⟨by simp[sv,h1,h2],(by repeat (first|assumption|exact Below.refl _ _|apply Below.drew|(refine Below.setCell ?_ (by(first|omega|(simp <;> omega))) _)|(refine Below.alloc ?_ (by(first|omega|(simp <;> omega))) _)|(refine bp (by assumption) (by(first|omega|(simp <;> omega))) ?_)))⟩
theorem a8 {a b:Int} (h:sv a b=true) (w:World):Calls prog 230 #[T2 a b] w fun e w'=>e= .returned (.bool true)/\Below w.heap.size w w':=by
 have:=DZ a b w
 rwa [h] at this
theorem oV {a b c d:Int} (h:sv a b=true) (h2:sv c d=true) (w:World):Calls prog 233 #[T2 a b,T2 c d] w fun e w'=>e= .returned (T2 ((a+c)%4096) ((b+d)%4096))/\Below w.heap.size w w':=by
 obtain⟨ha,hb⟩:=fY h;obtain⟨hc,hd⟩:=fY h2
 go_enter func233,ntmps233
 go_wp2_with fail
 refine(a8 h _).mono ?_;rintro e w1 ⟨rfl,hb1⟩;obtain⟨hc1,hf1⟩:=Ha hb1;have hs1:=hb1.size
 try simp at hs1
 have z1:w.heap.size<w1.heap.size:=by omega
 have z1':w.heap.size+1<w1.heap.size:=by omega
 have z1'':w.heap.size+1+1<w1.heap.size:=by omega
 clear hs1
 go_wp2_with fail
 refine(a8 h2 _).mono ?_;rintro e w2 ⟨rfl,hb2⟩;obtain⟨hc2,hf2⟩:=Ha hb2;have hs2:=hb2.size
 try simp at hs2
 have z2:w.heap.size<w2.heap.size:=by omega
 have z2':w.heap.size+1<w2.heap.size:=by omega
 have z2'':w.heap.size+1+1<w2.heap.size:=by omega
 clear hs2;have e1:IntKind.i64.wrap (a+c)=a+c:=IntWalk.i64_in _ (by omega)
 have e2:IntKind.i64.wrap (b+d)=b+d:=IntWalk.i64_in _ (by omega)
 have q0:w2.cell? ⟨w.heap.size,0,none⟩=some (.int .i64 a):=by
  rw[hc2 _ _ (by first|omega|assumption),hc1 _ _ (by simp <;> omega)]
  simp[go_sem,World.cell?_alloc_past]
 have q1:w2.cell? ⟨w.heap.size,1,none⟩=some (.int .i64 b):=by
  rw[hc2 _ _ (by first|omega|assumption),hc1 _ _ (by simp <;> omega)]
  simp[go_sem,World.cell?_alloc_past]
 have q2:w2.cell? ⟨w.heap.size+1,0,none⟩=some (.int .i64 c):=by
  rw[hc2 _ _ (by first|omega|assumption),hc1 _ _ (by simp <;> omega)]
  simp[go_sem,World.cell?_alloc_past]
 have q3:w2.cell? ⟨w.heap.size+1,1,none⟩=some (.int .i64 d):=by
  rw[hc2 _ _ (by first|omega|assumption),hc1 _ _ (by simp <;> omega)]
  simp[go_sem,World.cell?_alloc_past]
 go_wp2_with fail
 go_region_held3 (fun w'=>w'.cell? ⟨w.heap.size,0,none⟩=some (.int .i64 a)/\w'.cell? ⟨w.heap.size,1,none⟩=some (.int .i64 b)/\w'.cell? ⟨w.heap.size+1,0,none⟩=some (.int .i64 c)/\w'.cell? ⟨w.heap.size+1,1,none⟩=some (.int .i64 d)) (first|(simp[go_sem,q0,q1,q2,q3];done)|exact⟨q0,q1,q2,q3⟩)
  ((go_at_call 132;refine Qc (bG _ _) ?_))
 all_goals
  go_wp2
  exact bodyPost_ret (v:=T2 ((a+c)%4096) ((b+d)%4096)) (by simp[results,results233,go_sem,T2,hc1,hf1,z1,z1',z1'',hc2,hf2,z2,z2',z2'']) rfl ⟨rfl,(by repeat (first|assumption|exact Below.refl _ _|apply Below.drew|(refine Below.setCell ?_ (by(first|omega|(simp <;> omega))) _)|(refine Below.alloc ?_ (by(first|omega|(simp <;> omega))) _)|(refine bp (by assumption) (by(first|omega|(simp <;> omega))) ?_)))⟩
theorem GK {a b c d:Int} (h:sv a b=true) (h2:sv c d=true) (w:World):Calls prog 267 #[T2 a b,T2 c d] w fun e w'=>e= .returned (T2 ((a-c)%4096) ((b-d)%4096))/\Below w.heap.size w w':=by
 obtain⟨ha,hb⟩:=fY h;obtain⟨hc,hd⟩:=fY h2
 go_enter func267,ntmps267
 go_wp2_with fail
 refine(a8 h _).mono ?_;rintro e w1 ⟨rfl,hb1⟩;obtain⟨hc1,hf1⟩:=Ha hb1;have hs1:=hb1.size
 try simp at hs1
 have z1:w.heap.size<w1.heap.size:=by omega
 have z1':w.heap.size+1<w1.heap.size:=by omega
 have z1'':w.heap.size+1+1<w1.heap.size:=by omega
 clear hs1
 go_wp2_with fail
 refine(a8 h2 _).mono ?_;rintro e w2 ⟨rfl,hb2⟩;obtain⟨hc2,hf2⟩:=Ha hb2;have hs2:=hb2.size
 try simp at hs2
 have z2:w.heap.size<w2.heap.size:=by omega
 have z2':w.heap.size+1<w2.heap.size:=by omega
 have z2'':w.heap.size+1+1<w2.heap.size:=by omega
 clear hs2;have e1:IntKind.i64.wrap (a-c)=a-c:=IntWalk.i64_in _ (by omega)
 have e2:IntKind.i64.wrap (b-d)=b-d:=IntWalk.i64_in _ (by omega)
 have q0:w2.cell? ⟨w.heap.size,0,none⟩=some (.int .i64 a):=by
  rw[hc2 _ _ (by first|omega|assumption),hc1 _ _ (by simp <;> omega)]
  simp[go_sem,World.cell?_alloc_past]
 have q1:w2.cell? ⟨w.heap.size,1,none⟩=some (.int .i64 b):=by
  rw[hc2 _ _ (by first|omega|assumption),hc1 _ _ (by simp <;> omega)]
  simp[go_sem,World.cell?_alloc_past]
 have q2:w2.cell? ⟨w.heap.size+1,0,none⟩=some (.int .i64 c):=by
  rw[hc2 _ _ (by first|omega|assumption),hc1 _ _ (by simp <;> omega)]
  simp[go_sem,World.cell?_alloc_past]
 have q3:w2.cell? ⟨w.heap.size+1,1,none⟩=some (.int .i64 d):=by
  rw[hc2 _ _ (by first|omega|assumption),hc1 _ _ (by simp <;> omega)]
  simp[go_sem,World.cell?_alloc_past]
 go_wp2_with fail
 go_region_held3 (fun w'=>w'.cell? ⟨w.heap.size,0,none⟩=some (.int .i64 a)/\w'.cell? ⟨w.heap.size,1,none⟩=some (.int .i64 b)/\w'.cell? ⟨w.heap.size+1,0,none⟩=some (.int .i64 c)/\w'.cell? ⟨w.heap.size+1,1,none⟩=some (.int .i64 d)) (first|(simp[go_sem,q0,q1,q2,q3];done)|exact⟨q0,q1,q2,q3⟩)
  ((go_at_call 132;refine Qc (bG _ _) ?_))
 all_goals
  go_wp2
  exact bodyPost_ret (v:=T2 ((a-c)%4096) ((b-d)%4096)) (by simp[results,results267,go_sem,T2,hc1,hf1,z1,z1',z1'',hc2,hf2,z2,z2',z2'']) rfl ⟨rfl,(by repeat (first|assumption|exact Below.refl _ _|apply Below.drew|(refine Below.setCell ?_ (by(first|omega|(simp <;> omega))) _)|(refine Below.alloc ?_ (by(first|omega|(simp <;> omega))) _)|(refine bp (by assumption) (by(first|omega|(simp <;> omega))) ?_)))⟩
theorem bL (a b:Int) (w:World):Calls prog 284 #[T2 a b] w fun e w'=>e= .returned (.int .i64 (aJ a b))/\Below w.heap.size w w':=by
 go_enter func284,ntmps284
 go_wp2_with fail
 refine Qc (iX a b _) ?_;go_wp2
 go_ret
 exact⟨rfl,(by repeat (first|assumption|exact Below.refl _ _|apply Below.drew|(refine Below.setCell ?_ (by(first|omega|(simp <;> omega))) _)|(refine Below.alloc ?_ (by(first|omega|(simp <;> omega))) _)|(refine bp (by assumption) (by(first|omega|(simp <;> omega))) ?_)))⟩
theorem bV (a b:Int) (w:World):Calls prog 229 #[T2 a b] w fun e w'=>e= .returned (.int .i64 (aJ a b))/\Below w.heap.size w w':=by
 go_enter func229,ntmps229
 go_wp2_with fail
 refine Qc (pG a b _) ?_;go_wp2
 go_ret
 exact⟨rfl,(by repeat (first|assumption|exact Below.refl _ _|apply Below.drew|(refine Below.setCell ?_ (by(first|omega|(simp <;> omega))) _)|(refine Below.alloc ?_ (by(first|omega|(simp <;> omega))) _)|(refine bp (by assumption) (by(first|omega|(simp <;> omega))) ?_)))⟩
@[reducible] def T6 (a b c d e f:Int):Value:= .agg #[.int .i64 a,.int .i64 b,.int .i64 c,.int .i64 d,.int .i64 e,.int .i64 f]
theorem pj (a b c d e f:Int) (w:World):Calls prog 299 #[T6 a b c d e f] w fun x w'=>x= .returned (.int .i64 (mulR (aJ a b) (aJ c d)))/\Below w.heap.size w w':=by
 refine zE ?_;intro u1 H;refine zX (tg [w.heap.size]) ?_;clear H;intro S w2 hne H;refine zD (H.c 0) ?_;intro G;refine yB (bL _ _ w2) ?_;clear H;intro w3 H;refine yB (bL _ _ w3) ?_;clear H;intro w4 H;refine yP (uN _ _ w4) ?_;refine yN ?_;clear H G;intro u5 H;refine zR ?_;clear H;intro u6 H
 exact⟨rfl,H.O⟩
theorem oP {x r:Int} (hx:0<=x/\x<=4095) (hr:0<=r/\r<=4095) (w:World):Calls prog 298 #[.int .i64 x,.int .i64 r] w fun e w'=>e= .returned (T2 r ((x-r)%4096))/\Below w.heap.size w w':=by
 have H9:=gD x r;rw[show bC x r=(x-r)%4096 from qL hx hr] at H9
 refine zE ?_;intro u1 H;refine zP (an _ hx u1) ?_;clear H;intro u2 H;refine zP (an _ hr u2) ?_;clear H;intro u3 H;refine zP (H9 u3) ?_;clear H;intro u4 H;refine zS_ ?_;clear H;intro u5 H
 exact⟨rfl,H.O⟩
theorem o7 {x r:Int} (hx:0<=x/\x<=4095) (hr:0<=r/\r<=4095) (w:World):Calls prog 264 #[.int .i64 x,.int .i64 r] w fun e w'=>e= .returned (T2 r ((x-r)%4096))/\Below w.heap.size w w':=by
 have q1:=IntWalk.i64_in (x-r) (by omega)
 refine zE ?_;intro u1 H;refine zP (ak _ hx u1) ?_;clear H;intro u2 H;refine zP (ak _ hr u2) ?_;clear H;intro u3 H;refine zP (bG _ u3) ?_;clear H;intro u4 H;refine zS_ ?_;clear H;intro u5 H
 exact⟨rfl,H.O⟩
theorem oR {a b c d e f:Int} (h1:sv a b=true) (h2:sv c d=true) (h3:sv e f=true) (h4:aJ e f=mulR (aJ a b) (aJ c d)) (w:World):Calls prog 300 #[T6 a b c d e f] w fun x w'=>x= .returned (.bool true)/\Below w.heap.size w w':=by
 refine zE ?_;intro u1 H;refine zB (bQ h1 u1) ?_;clear H;intro w2 u2 H;refine zB (bQ h2 u2) ?_;clear H;intro w3 u3 H;refine zB (bQ h3 u3) ?_;clear H;intro w4 u4 H;refine zX (tg [w.heap.size]) ?_;clear H;intro S w5 hne H;refine zD (H.c 0) ?_;intro G;refine yB (bL _ _ w5) ?_;clear H;intro w6 H;refine yB (pj _ _ _ _ _ _ w6) ?_;clear H;intro w7 H;refine yN ?_;clear H G;intro u8 H;refine zR ?_;clear H;intro u9 H
 exact⟨by simp[h4],H.O⟩
theorem o8 {a b c d e f:Int} (h1:sv a b=true) (h2:sv c d=true) (h3:sv e f=true) (h4:aJ e f=mulR (aJ a b) (aJ c d)) (w:World):Calls prog 266 #[T6 a b c d e f] w fun x w'=>x= .returned (.bool true)/\Below w.heap.size w w':=by
 refine zE ?_;intro u1 H;refine zX (tg [w.heap.size]) ?_;clear H;intro S w2 hne H;refine zD (H.c 0) ?_;intro G;refine yB (a8 h1 w2) ?_;clear H;intro w3 H;refine yB (a8 h2 w3) ?_;clear H;intro w4 H;refine yL ?_;refine yB (a8 h3 w4) ?_;clear H;intro w5 H;refine yL ?_;refine yB (bV _ _ w5) ?_;clear H;intro w6 H;refine yB (bV _ _ w6) ?_;clear H;intro w7 H;refine yB (bV _ _ w7) ?_;clear H;intro w8 H;refine yP (pH _ _ w8) ?_;refine yL ?_;refine yN ?_;clear H G;intro u9 H;refine zR ?_;clear H;intro u10 H
 exact⟨by simp[h4],H.O⟩
section
open Go.RowKit Go.Shelf
attribute [local go_sem] Oper.semAt_some
theorem kl (s:Int) (w:World):CallsIn Fence.wide 2 prog 246 #[.int .i64 s] w fun e w'=>e= .returned (.func (.func 278) #[] #[.pointer (some ⟨w.heap.size,0,none⟩)])/\w'=w.alloc (.cells #[.int .i64 s] 3):=by
 refine callsIn_of_wp func246 rfl trivial ?_ rfl;simp only[ntmps246,List.size_toArray,List.length_cons,List.length_nil,Nat.reduceAdd,Nat.reduceSub,Array.replicate_succ,Array.replicate_zero,List.push_toArray,List.append_toArray,List.nil_append,List.cons_append]
 gi_wp2
 go_ret
 exact⟨rfl,rfl⟩
set_option maxRecDepth 100000 in
theorem rH (l bs:Nat) (s:Int) (hs:1<=s/\s<=2147483646) (N:Nat) (J Jx:Nat->World->Prop) (lenOf:World->Nat)
  (hJ:∀ k W,J k W->k<=N/\lenOf W=k) (hJc:∀ k W v,J k W->J k (W.setCell ⟨bs,0,none⟩ v))
  (hY:∀ k W,J k W->YieldAt Fence.wide 1 prog l #[.int .i64 (rn s k),.int .i64 (sds s (k+1))] W fun e W'=>(e= .returned (.bool true)/\J (k+1) W'/\W'.heap[bs]?=W.heap[bs]?)\/(e= .returned (.bool false)/\Jx k W'))
  (W:World) (hb:Boxed W bs 3 (.int .i64 s)) (h0:J 0 W) :
  CallsIn Fence.wide 2 prog 278 #[.func (.yield l) #[] #[],.pointer (some ⟨bs,0,none⟩)] W fun e W'=>(∃ v,e= .returned v)/\∃ k,Jx k W':=by
 refine callsIn_of_wp func278 rfl trivial ?_ rfl;simp only[ntmps278,List.size_toArray,List.length_cons,List.length_nil,Nat.reduceAdd,Nat.reduceSub,Array.replicate_succ,Array.replicate_zero,List.push_toArray,List.append_toArray,List.nil_append,List.cons_append]
 gi_wp2
 gi_loopw [3,4] (fun _ _ wr=>∃ (k:Nat),Boxed wr bs 3 (.int .i64 (sds s k))/\J k wr) (fun _ _ wr=>N+1-lenOf wr)
 case atStart=>exact⟨0,hb,h0⟩
 case round =>
  obtain⟨k,hbx,hk⟩:=hrel;obtain⟨fn,tmps,assign,body,hy,hR⟩:=hY k _ hk;obtain⟨q,hq⟩:∃ q,q=sds s k:=⟨_,rfl⟩;have hqok:1<=q/\q<=2147483646:=by rw[hq];exact lO hs k
  have e1:rn s k=nxt q/8%4096:=by rw[hq];rfl
  have e2:sds s (k+1)=nxt q:=by rw[hq];rfl
  have e3:∀ W':World,Boxed (W'.setCell ⟨bs,0,none⟩ (.int .i64 (nxt q))) bs 3 (.int .i64 (nxt q))->Boxed (W'.setCell ⟨bs,0,none⟩ (.int .i64 (nxt q))) bs 3 (.int .i64 (sds s (k+1))):=fun W' h=>by rw[e2];exact h
  rw[<-hq] at hbx;rw[e1,e2] at hy;clear hq e1 e2;have hc:=hbx.cell
  gi_wp2
  refine⟨trivial,(callsIn_wide.2 (qf hqok _)).mono ?_⟩;rintro e w' ⟨rfl,rfl⟩
  gi_wp2
  refine hR.mono ?_;rintro e W3 (⟨rfl,hJ3,hk3⟩|⟨rfl,hJx3⟩)
  ·have hb3:Boxed W3 bs 3 (.int .i64 q):=hk3.trans hbx;have hc3:=hb3.cell;have hf3:=hb3.frozen
   gi_wp2
   go_roundw
   case rel=>exact⟨k+1,e3 _ (hb3.set _),hJc _ _ _ hJ3⟩
   case measure =>
    have h1:=hJ _ _ hk;have h2:=hJ _ _ (hJc _ _ (.int .i64 (nxt q)) hJ3)
    omega
  ·gi_wp2
   refine bodyPost_ret (results_none rfl _ _ _) rfl ?_
   exact⟨⟨_,rfl⟩,k,hJx3⟩
def yu (bs:Nat) (I:Nat->World->Prop) (Ix:Nat->World->Prop) (cx:Code) (k:Nat) (W:World):Exit->Act->World->Prop
 | .normal,_,W'=>KeepsOthers W W'/\W'.heap[bs]?=W.heap[bs]?/\I (k+1) W'
 | .exit id,_,W'=>cx= .exit id/\KeepsOthers W W'/\Ix k W'
 | _,_,_=>False
set_option maxRecDepth 100000 in
theorem sI {g:Operand} {ps:Array Tmp} {assign body:Code} {Q:Exit->Act->World->Prop} {a:Act} {w:World} (bs:Nat) (s:Int) (hs:1<=s/\s<=2147483646) (N:Nat) (I Ix:Nat->World->Prop) (lenOf:World->Nat) (cx:Code)
  (hg:a.eval g= .func (.func 278) #[] #[.pointer (some ⟨bs,0,none⟩)]) (hps:ps.size=2) (hbx:Boxed w bs 3 (.int .i64 s))
  (hI:∀ k W,I k W->k<=N/\lenOf W=k) (hIc:∀ k W v,I k W->I k (W.setCell ⟨bs,0,none⟩ v)) (hIo:OwnFrom w.heap.size I) (hIxo:OwnFrom w.heap.size Ix) (h0:I 0 w) (a₁:Nat->Act)
  (hassign:∀ (l k:Nat) (W:World) (K:Act->World->Prop),K (a₁ k) W ->
   assign.wpIn (Fence.wide.inRound l) 1 prog (Exit.then K (fun _ _ _=>False)) { tmps:=(ps.zip #[.int .i64 (rn s k),.int .i64 (sds s (k+1))]).foldl (fun t (p,v)=>t.setIfInBounds p v) a.tmps,defers:=[] } W)
  (hbody:∀ (l k:Nat) (W:World),I k W->body.wpIn (Fence.wide.inRound l) 1 prog (yu bs I Ix cx k W) (a₁ k) W)
  (hstop:∀ (D k:Nat) (W:World),w.heap.size<=D->Ix k W->W.heap[D]?=some (.deferred (some []))->cx.wpIn Fence.wide 3 prog Q { a with defers:= { target:= .collected D,args:=#[] }::a.defers } W) :
  (Code.rangeFunc g ps assign body).wpIn Fence.wide 3 prog Q a w:=by
 have hbl:=hbx.lt;refine wpIn_rangeFunc ?_;intro fn hfn;obtain⟨rec,hrec⟩:∃ rec:LoopState->Option Code->Loop,rec=fun st pe=> { state:=st,pending:=pe,fn,tmps:=a.tmps,params:=ps,assign,body,defers:=w.heap.size }:=⟨_,rfl⟩
 obtain⟨l,hl⟩:∃ l,l=w.heap.size+1:=⟨_,rfl⟩;obtain⟨W1,hW1⟩:∃ W1,(w.alloc (.deferred (some []))).alloc (.loop (rec .ready none))=W1:=⟨_,rfl⟩;have hL1:W1.heap[l]?=some (.loop (rec .ready none)):=by
  rw[<-hW1,hl];have:=World.alloc_heap_new (w.alloc (.deferred (some []))) (.loop (rec .ready none))
  rwa [World.size_alloc] at this
 have hK1:W1.heap[w.heap.size]?=some (.deferred (some [])):=by
  rw[<-hW1]
  exact(Below.heap_alloc _ _ _ (by simp)).trans (World.alloc_heap_new w _)
 have hb1:Boxed W1 bs 3 (.int .i64 s):=by rw[<-hW1];exact(hbx.alloc _).alloc _
 have hI1:I 0 W1:=by rw[<-hW1];exact hIo.alloc _ (hIo.alloc _ h0)
 refine⟨l,[{ target:= .collected w.heap.size,args:=#[] }],W1,{ target:= .fn (.func 278) #[.pointer (some ⟨bs,0,none⟩)],args:=#[.func (.yield l) #[] #[]] },W1,278,
  #[.func (.yield l) #[] #[],.pointer (some ⟨bs,0,none⟩)],W1,?_,?_,?_,?_,fun _=>by omega,?_⟩
 ·rw[<-hW1,hrec,hl];exact run_enterLoop_outer _ _ _ _ _
 ·simp only[resolve,hg]
  simp[go_sem]
 ·intro f' hf';trivial
 ·simp[invoke,go_sem]
 ·refine(rH l bs s hs N
   (fun k W=>I k W/\W.heap[l]?=some (.loop (rec .ready none))/\W.heap[w.heap.size]?=some (.deferred (some [])))
   (fun k W=>Ix k W/\W.heap[l]?=some (.loop (rec .done (some cx)))/\W.heap[w.heap.size]?=some (.deferred (some [])))
   lenOf (fun k W h=>hI k W h.1)
   (fun k W v h=>⟨hIc k W v h.1,(Below.heap_setCell W ⟨bs,0,none⟩ v l (by show l≠bs;omega)).trans h.2.1,(Below.heap_setCell W ⟨bs,0,none⟩ v w.heap.size (by show w.heap.size≠bs;omega)).trans h.2.2⟩)
   ?_ W1 hb1 ⟨hI1,hL1,hK1⟩).mono ?_
  ·rintro k W ⟨hi,hlW,hk⟩;have hlt:l<W.heap.size:=(Array.getElem?_eq_some_iff.1 hlW).1;have hy:=run_yield (P:=prog) (args:=#[.int .i64 (rn s k),.int .i64 (sds s (k+1))]) hlW (by rw[hrec];exact hps.symm)
   rw[hrec] at hy;refine⟨fn,_,assign,body,hy,roundIn_of_wpIn hfn (hassign _ k W _ ⟨_,run_beginRound hlW (by rw[hrec]),?_⟩)⟩
   obtain⟨W2,hW2⟩:∃ W2,W.putObj l (.loop { rec .ready none with state:= .busy })=W2:=⟨_,rfl⟩;rw[hW2];have hl2:W2.heap[l]?=some (.loop { rec .ready none with state:= .busy }):=by rw[<-hW2];exact World.putObj_heap_same hlt
   have hk2:W2.heap[w.heap.size]?=some (.deferred (some [])):=by rw[<-hW2];exact(World.putObj_heap_other (by omega)).trans hk
   have hs2:W2.heap[bs]?=W.heap[bs]?:=by rw[<-hW2];exact World.putObj_heap_other (by omega)
   have hi2:I k W2:=by rw[<-hW2];exact hIo.putObj _ hi (by omega) hlW rfl
   clear hW2;refine wpIn_mono (hbody _ k W2 hi2) ?_;have fin:∀ (jump:Option Code) (W3:World),KeepsOthers W2 W3->(Instr.endRound l jump).run prog W3= .ok (.bool jump.isNone) (W3.putObj l (.loop (rec (if jump.isNone then .ready else .done) jump)))/\W3.heap[l]?=some (.loop { rec .ready none with state:= .busy })/\W3.heap[w.heap.size]?=some (.deferred (some []))/\l<W3.heap.size:=fun jump W3 hk3=>by
    have hl3:=hk3.same _ _ hl2 rfl;have h:=run_endRound (P:=prog) jump hl3;rw[hrec] at h hl3 ⊢
    exact⟨h,hl3,hk3.same _ _ hk2 rfl,(Array.getElem?_eq_some_iff.1 hl3).1⟩
   rintro e a3 W3 hp
   cases e with
   | normal =>
    obtain⟨hk3,hb3,hi3⟩:=hp;obtain⟨hr,hl3,hd3,hs3⟩:=fin none W3 hk3
    exact⟨_,_,hr,.inl ⟨rfl,⟨hIo.putObj _ hi3 (by omega) hl3 rfl,World.putObj_heap_same hs3,(World.putObj_heap_other (by omega)).trans hd3⟩,((World.putObj_heap_other (by omega)).trans hb3).trans hs2⟩⟩
   | exit id =>
    obtain⟨rfl,hk3,hi3⟩:=hp;obtain⟨hr,hl3,hd3,hs3⟩:=fin (some (.exit id)) W3 hk3
    exact⟨_,_,hr,.inr ⟨rfl,hIxo.putObj _ hi3 (by omega) hl3 rfl,World.putObj_heap_same hs3,(World.putObj_heap_other (by omega)).trans hd3⟩⟩
   | ret=>exact hp.elim
   | goto t=>exact hp.elim
   | panic ch=>exact hp.elim
   | outgrown=>exact hp.elim
  ·rintro e W2 ⟨⟨v,rfl⟩,k,hi,hl2,hk2⟩;have hend:=run_endLoop (P:=prog) hl2 (by rw[hrec];simp)
   rw[hrec] at hend
   exact⟨some cx,_,hend,hstop _ k _ Ql (hIxo.putObj _ hi (by omega) hl2 rfl) ((World.putObj_heap_other (by omega)).trans hk2)⟩
end
section
open Go.RowKit Go.Shelf
attribute [local go_sem] Oper.semAt_some
def RLI (w:World) (s:Int) (n:Nat) (k:Nat) (W:World):Prop :=
 k<=n/\w.heap.size+5<=W.heap.size/\Boxed W w.heap.size 3 (.int .i64 (n:Int))/\Boxed W (w.heap.size+1+1) 35 (.slice (some ⟨w.heap.size+1,0,none⟩) k n)/\Boxed W (w.heap.size+1+1+1) 3 (.int .i64 (sds s k))/\OS W w.heap.size (some ⟨w.heap.size+1,0,none⟩) k n (fl (rn s) k)/\Below w.heap.size w W
theorem RLI.own (w:World) (s:Int) (n B:Nat) (hB:w.heap.size+4<=B):OwnFrom B (RLI w s n):=by
 rintro k W W' row ⟨h1,h0,h2,h3,h4,h5,h6⟩ hg hr;refine⟨h1,Nat.le_trans h0 hg.size,h2.kept hg ?_,h3.kept hg ?_,h4.kept hg ?_,h5.kept hg (.inr ?_),h6.grown hg h6.size (fun j e=>by have:=(hr j e).1;omega)⟩
 all_goals
  intro e;have:=(hr _ e.symm).1
  try simp at this
  omega
theorem RLI.set (w:World) (s:Int) (n:Nat) (k:Nat) (W:World) (v:Value) (h:RLI w s n k W):RLI w s n k (W.setCell ⟨w.heap.size+1+1+1+1,0,none⟩ v):=by
 obtain⟨h1,h0,h2,h3,h4,h5,h6⟩:=h
 exact⟨h1,Nat.le_trans h0 (KeepsOthers.setCell _ _ _).size,h2.other (by omega) _,h3.other (by omega) _,h4.other (by omega) _,h5.kept (grownBy_setCell' _ _ _) (.inr (by simp[Value.ownBlock])),h6.setCell (p:=⟨w.heap.size+1+1+1+1,0,none⟩) (by show w.heap.size<=w.heap.size+1+1+1+1;omega) _⟩
theorem wE (n:Nat) (hn:n<=35184372088832) (w:World):(Instr.makeSlice 35 (.int .i64 0) (.int .i64 (n:Int))).run prog w= .ok (.slice (some ⟨w.heap.size,0,none⟩) 0 n) (w.alloc (ZB n)):=by
 obtain⟨i,hi,hz,h1,h8⟩:=info_parts eU;have h:=run_make (P:=prog) w 35 3 i _ underlying35 hi hz .i64 .i64 0 (n:Int) (Int.le_refl _) (by omega) (by rw[h8];omega) (by omega)
 rw[h,h1];simp only[Int.toNat_natCast,Nat.mul_one]
 rfl
theorem OS.empty (w:World) (n base:Nat) (hn:n<=35184372088832) (hb:base<=w.heap.size):OS (w.alloc (ZB n)) base (some ⟨w.heap.size,0,none⟩) 0 n [] :=
 ⟨rfl,.inr ⟨w.heap.size,n,madeCells #[.int .i64 0] n,rfl,hb,World.alloc_heap_new w _,Nat.zero_le _,by unfold maxLen;omega,by simp[size_madeCells],by simp⟩⟩
theorem OS.isCells {W:World} {base g k c:Nat} {xs:List Int} {o:Obj} (h:OS W base (some ⟨g,0,none⟩) k c xs) (hj:W.heap[g]?=some o):o.isCells=true:=by
 rcases h.2 with⟨h1,_⟩|⟨g',cap,cur,hv,hb,hg,_⟩
 ·cases h1
 ·injection hv with hv;injection hv with hv;injection hv with hv;subst hv;rw[hg] at hj
  cases hj
  rfl
def wS (w W:World):Nat:=match W.cell? ⟨w.heap.size+1+1,0,none⟩ with|some (.slice _ k _)=>k|_=>0
theorem RLI.len {w:World} {s:Int} {n k:Nat} {W:World} (h:RLI w s n k W):k<=n/\wS w W=k:=⟨h.1,by unfold wS;rw[h.2.2.2.1.cell]⟩
set_option maxRecDepth 100000 in
theorem ff {s:Int} (hs:1<=s/\s<=2147483646) (n:Nat) (hn:n<=4096) (w:World):Calls prog 208 #[.int .i64 s,.int .i64 (n:Int)] w (Rls s n w):=by
 refine(callsIn_wide (n:=3)).1 ?_;obtain⟨i0,hi,hz0,hz1,hz2⟩:=info_parts eU;have hn0:¬(n:Int)<0:=by omega
 have hn1:¬(4096:Int)<(n:Int):=by omega
 have hbN:=Boxed.new w 3 (.int .i64 (n:Int));have hcN:=hbN.cell;have hmk:∀ W:World,(Instr.makeSlice 35 (.int .i64 0) (.int .i64 (n:Int))).run prog W= .ok (.slice (some ⟨W.heap.size,0,none⟩) 0 n) (W.alloc (ZB n)):=fun W=>wE n (by omega) W
 refine callsIn_of_wp_marks func208 rfl trivial ?_ rfl;simp only[ntmps208,List.size_toArray,List.length_cons,List.length_nil,Nat.reduceAdd,Nat.reduceSub,Array.replicate_succ,Array.replicate_zero,List.push_toArray,List.append_toArray,List.nil_append,List.cons_append]
 gi_wp2
 refine⟨trivial,(callsIn_wide.2 (aU hs _)).mono ?_⟩;rintro e w' ⟨rfl,rfl⟩
 gi_wp2
 refine⟨trivial,(callsIn_wide.2 (callsIn_wide.1 (kl s _))).mono ?_⟩;rintro e w' ⟨rfl,rfl⟩
 gi_wp2
 obtain⟨W0,hW0⟩:∃ W0,(((((w.alloc (.cells #[.int .i64 (n:Int)] 3)).alloc (ZB n)).alloc (.cells #[.slice (some ⟨w.heap.size+1,0,none⟩) 0 n] 35)).alloc (.cells #[.int .i64 s] 3)).alloc (.cells #[.int .i64 s] 3))=W0:=⟨_,rfl⟩;have hs0:W0.heap.size=w.heap.size+1+1+1+1+1:=by rw[<-hW0];simp only[World.size_alloc]
 have hbS:Boxed W0 (w.heap.size+1+1+1+1) 3 (.int .i64 s):=by
  rw[<-hW0];have:=Boxed.new ((((w.alloc (.cells #[.int .i64 (n:Int)] 3)).alloc (ZB n)).alloc (.cells #[.slice (some ⟨w.heap.size+1,0,none⟩) 0 n] 35)).alloc (.cells #[.int .i64 s] 3)) 3 (.int .i64 s)
  simpa only[World.size_alloc] using this
 have hI0:RLI w s n 0 W0:=by
  rw[<-hW0];refine⟨Nat.zero_le _,by simp only[World.size_alloc];omega,(((hbN.alloc _).alloc _).alloc _).alloc _,?_,?_,?_,?_⟩
  ·have:=Boxed.new ((w.alloc (.cells #[.int .i64 (n:Int)] 3)).alloc (ZB n)) 35 (.slice (some ⟨w.heap.size+1,0,none⟩) 0 n);simp only[World.size_alloc] at this
   exact(this.alloc _).alloc _
  ·have:=Boxed.new (((w.alloc (.cells #[.int .i64 (n:Int)] 3)).alloc (ZB n)).alloc (.cells #[.slice (some ⟨w.heap.size+1,0,none⟩) 0 n] 35)) 3 (.int .i64 s);simp only[World.size_alloc] at this
   exact this.alloc _
  ·have:=OS.empty (w.alloc (.cells #[.int .i64 (n:Int)] 3)) n w.heap.size (by omega) (by simp)
   simp only[World.size_alloc] at this
   exact World.ownsRow.alloc (World.ownsRow.alloc (World.ownsRow.alloc this _) _) _
  ·exact(((((Below.refl _ w).alloc Ql _).alloc (by simp) _).alloc (by simp;omega) _).alloc (by simp;omega) _).alloc (by simp;omega) _
 rw[hW0];clear hW0 hbN hcN hmk;have hIo:OwnFrom W0.heap.size (RLI w s n):=RLI.own w s n _ (by omega)
 refine sI (cx:= .exit 0) (w.heap.size+1+1+1+1) s hs n (RLI w s n) (fun k W=>k=n/\RLI w s n k W) (wS w) rfl rfl hbS (fun k W h=>h.len) (fun k W v h=>h.set w s n k W v) hIo (fun k A B row h hg hr=>⟨h.1,hIo k A B row h.2 hg hr⟩) hI0 (fun k=> { tmps:=#[.int .i64 s,.int .i64 (n:Int),undef,.pointer (some ⟨w.heap.size,0,none⟩),.slice none 0 0,.int .i64 0,.pointer (some ⟨w.heap.size+1+1,0,none⟩),.pointer (some ⟨w.heap.size+1+1+1,0,none⟩),.int .i64 (rn s k),.int .i64 (sds s (k+1)),.int .i64 s,.bool true,.bool false,.bool false,.int .i64 (n:Int),.bool (decide ((n:Int)<0)),.bool (decide ((n:Int)<0)),.bool (decide ((n:Int)<0)),.int .i64 (n:Int),.bool (decide (4096<(n:Int))),.bool (decide ((n:Int)<0) || decide (4096<(n:Int))),.int .i64 (n:Int),.slice (some ⟨w.heap.size+1,0,none⟩) 0 n,.int .i64 s,.int .i64 s,.func (.func 278) #[] #[.pointer (some ⟨w.heap.size+1+1+1+1,0,none⟩)],.int .i64 (rn s k),.int .i64 (sds s (k+1)),undef,undef,undef,undef,undef,undef,undef,undef,undef,undef,undef],defers:=[] }) ?assign ?body ?stop
 case assign =>
  intro l k W K hK
  gi_wp2
  exact hK
 case body =>
  intro l k W hI;have hI':=hI;obtain⟨hkn,hsz5,hb1,hb2,hb3,hos,hbel⟩:=hI';have hc1:=hb1.cell;have hc2:=hb2.cell
  dsimp only
  by_cases hk:k=n
  ·subst hk
   gi_wp2
   exact⟨rfl,KeepsOthers.refl _,rfl,hI⟩
  ·have hkI:¬(k:Int)=(n:Int):=by omega
   have hszr:w.heap.size+1<W.heap.size:=(hos.aj _ rfl).2
   gi_wp2_with (gi_at_builtin;refine wpListIn_append_fits _ rfl _ _ 35 rfl w.heap.size 3 i0 1 underlying35 hi hz1 (w.heap.size+1) k n _ rfl (World.ownsRow.alloc hos _) ⟨W.heap.size,0,none⟩ 1 1 [.int .i64 (rn s k)] rfl rfl (cell_one_new _ _ _) (by simp[Value.oneCell']) (by omega) ?_;intro w1 hown1 hgrow1;have hk1:Boxed w1 (w.heap.size+1+1) _ _:=(hb2.alloc _).kept hgrow1 (fun e=>by injection e with e;omega);have hk2:Boxed w1 (w.heap.size+1+1+1) _ _:=(hb3.alloc _).kept hgrow1 (fun e=>by injection e with e;omega);have hk3:Boxed (w1.setCell ⟨w.heap.size+1+1,0,none⟩ (.slice (some ⟨w.heap.size+1,0,none⟩) (k+1) n)) (w.heap.size+1+1+1) _ _:=hk2.other (by omega) _;have c1:=hk1.cell;have f1:=hk1.frozen;have c2:=hk2.cell;have f2:=hk2.frozen;have c3:=hk3.cell;have f3:=hk3.frozen)
   have hos1:OS w1 w.heap.size (some ⟨w.heap.size+1,0,none⟩) (k+1) n (fl (rn s) (k+1)):=by
    rw[dd];have h:=hown1;rw[show List.map (Value.int .i64) (fl (rn s) k)++[Value.int .i64 (rn s k)]=(fl (rn s) k++[rn s k]).map (Value.int .i64) by simp] at h
    exact h
   refine⟨((KeepsOthers.alloc W _).trans (KeepsOthers.of_grownBy hgrow1 fun j o ej hj=>?_)).trans ((KeepsOthers.setCell _ _ _).trans (KeepsOthers.setCell _ _ _)),?_,?_⟩
   ·cases ej
    exact OS.isCells (World.ownsRow.alloc hos _) hj
   ·rw[Below.heap_setCell _ _ _ _ (by show w.heap.size+1+1+1+1≠w.heap.size+1+1+1;omega),Below.heap_setCell _ _ _ _ (by show w.heap.size+1+1+1+1≠w.heap.size+1+1;omega)]
    exact(hgrow1.block _ (by simp;omega) (fun e=>by injection e with e;omega)).trans (Below.heap_alloc _ _ _ (by omega))
   ·refine⟨by omega,?_,?_,?_,?_,?_,?_⟩
    ·exact Nat.le_trans (by have:=hgrow1.size;simp at this;omega) (Nat.le_trans (KeepsOthers.setCell _ _ _).size (KeepsOthers.setCell _ _ _).size)
    ·exact(((hb1.alloc _).kept hgrow1 (fun e=>by injection e with e;omega)).other (by omega) _).other (by omega) _
    ·exact(hk1.set _).other (by omega) _
    ·exact hk3.set _
    ·exact(hos1.kept (grownBy_setCell' _ _ _) (.inr (by simp[Value.ownBlock]))).kept (grownBy_setCell' _ _ _) (.inr (by simp[Value.ownBlock]))
    ·exact(((hbel.alloc (by omega) _).grown hgrow1 (by simp;omega) (fun j e=>by cases e;omega)).setCell (p:=⟨w.heap.size+1+1,0,none⟩) (by show w.heap.size<=w.heap.size+1+1;omega) _).setCell (p:=⟨w.heap.size+1+1+1,0,none⟩) (by show w.heap.size<=w.heap.size+1+1+1;omega) _
 case stop =>
  rintro D k W hD ⟨rfl,hI⟩ hK;obtain⟨_,_,hb1,hb2,hb3,hos,hbel⟩:=hI;have hc2:=hb2.cell;have hc3:=hb3.cell
  gi_wp2
  gi_region
  gi_wp2
  refine⟨by simp,.inl ⟨_,_,rfl,run_takeDeferred hK,?_⟩⟩
  refine⟨.tuple #[.slice (some ⟨w.heap.size+1,0,none⟩) k k,.int .i64 (sds s k)],by simp[results,results208,go_sem],_,_,rfl,?_,?_⟩
  ·exact ownsRow_putObj hos.drew _ hK rfl
  ·exact hbel.drew.trans (belowK_b (w:=w) Ql _ D _ _ (by omega) hK rfl rfl)
end
section
def Rw (w:World) (g:Nat) (cs:Array Value):Prop:=g<w.heap.size/\∀ i,i<cs.size->w.cell? ⟨g,i,none⟩=cs[i]?/\w.frozen? ⟨g,i,none⟩=false
section
variable {w w':World} {g:Nat} {cs:Array Value}
theorem Rw.lt (h:Rw w g cs):g<w.heap.size:=h.1
theorem Rw.cell (h:Rw w g cs) (i:Nat) (hi:i<cs.size:=by simp):w.cell? ⟨g,i,none⟩=cs[i]?:=(h.2 i hi).1
theorem Rw.frozen (h:Rw w g cs) (i:Nat) (hi:i<cs.size:=by simp):w.frozen? ⟨g,i,none⟩=false:=(h.2 i hi).2
theorem Rw.aB {base n c:Nat} {xs:List Int} (h:OS w base (some ⟨g,0,none⟩) n c xs) (he:(xs.map (Value.int .i64)).toArray=cs):Rw w g cs:=by
 subst he;refine⟨(h.aj g rfl).2,fun i hi=>?_⟩
 simp at hi
 refine⟨?_,h.frozen i g rfl⟩;have:=World.ownsRow.cellAt h i (by have:=h.len;omega)
 rw[this]
 simp
end
def tC (s:Int):Int:=((rn s 0+rn s 1)*(rn s 2+rn s 3))%4096
theorem xn (s:Int):0<=tC s/\tC s<=4095:=by unfold tC;omega
theorem tD (s:Int):mulR (aJ (rn s 0) (rn s 1)) (aJ (rn s 2) (rn s 3))=tC s:=by
 have h:∀ k,0<=rn s k/\rn s k<=4095:=dB s;rw[dX (h 0) (h 1),dX (h 2) (h 3)];have e1:rv ((rn s 0+rn s 1)%4096)=true:=aR (by omega)
 have e2:rv ((rn s 2+rn s 3)%4096)=true:=aR (by omega)
 simp only[mulR,e1,e2,Bool.and_self];unfold tC;rw[Int.mul_emod (rn s 0+rn s 1)]
 simp
theorem kX (s:Int):aJ (rn s 4) ((tC s-rn s 4)%4096)=mulR (aJ (rn s 0) (rn s 1)) (aJ (rn s 2) (rn s 3)):=by
 rw[tD,dX (dB s 4) (by omega)]
 have:=xn s
 omega
def Tr (s:Int) (w:World) (e:Ending) (w':World):Prop:=e= .returned (.tuple #[T6 (rn s 0) (rn s 1) (rn s 2) (rn s 3) (rn s 4) ((tC s-rn s 4)%4096),.int .i64 (sds s 5)])/\Below w.heap.size w w'
theorem qd {s:Int} (hs:1<=s/\s<=2147483646) (w:World):Calls prog 288 #[.int .i64 s] w (Tr s w):=by
 have ht:=tD s;refine zE ?_;intro u1 H;refine zP (aU hs u1) ?_;clear H;intro u2 H;refine zO (ff hs 5 (by omega) u2) ?_;clear H;intro w3 A c u3 H
 obtain⟨gA,rfl,gA0,gA1⟩:=OS.pos (H.o 0) (by omega)
 have E:=H.el;refine zXF (tgF [gA] 15 6 (.cells #[.int .i64 0,.int .i64 0,.int .i64 0,.int .i64 0,.int .i64 0,.int .i64 0] 255)) ?_;clear H;intro S w4 hne H;have hA:=Rw.aB (cs:=#[.int .i64 (rn s 0),.int .i64 (rn s 1),.int .i64 (rn s 2),.int .i64 (rn s 3),.int .i64 (rn s 4)]) (H.o 0) rfl;have r0:=H.row (hA.cell 0);have r1:=H.row (hA.cell 1);have r2:=H.row (hA.cell 2);have r3:=H.row (hA.cell 3);have r4:=H.row (hA.cell 4);refine yG ?_;clear H;intro w5 g5 hg5 H;refine yS ?_;clear H;intro w6 H;refine yN ?_;clear H;intro u7 H;have gA2:=(OS.aj (H.o 1) gA rfl).2;refine zXZ (tg [g5,gA]) ?_;clear H;intro S w8 hne H;refine zD (H.c 0) ?_;intro G;have hA:=Rw.aB (cs:=#[.int .i64 (rn s 0),.int .i64 (rn s 1),.int .i64 (rn s 2),.int .i64 (rn s 3),.int .i64 (rn s 4)]) (H.o 1) rfl;have r0:=H.row (hA.cell 0);have r1:=H.row (hA.cell 1);have r2:=H.row (hA.cell 2);have r3:=H.row (hA.cell 3);have r4:=H.row (hA.cell 4);refine yB (pj _ _ _ _ _ _ w8) ?_;clear H;intro w9 H;refine yB (oP (xn s) (dB s 4) w9) ?_;clear H;intro w10 H;intros;refine zCr ?_;intro C;intros
 repeat (first|(refine lc' ?_;intro K hK;go_big_quiet_op;go_big_quiet_on)|refine lk' ?_)
 refine aV rfl (by rfl) (by rfl) (fun K hK=>?_)
 unfold Oper.gives
 go_simp
 refine hK _ _ ?_;replace H:=H.H;refine aI ?_;clear C G;refine zS_ ?_;clear H;intro u11 H
 exact⟨rfl,H.O⟩
theorem qx {s:Int} (hs:1<=s/\s<=2147483646) (w:World):Calls prog 235 #[.int .i64 s] w (Tr s w):=by
 have hin:inB s 1 2147483646=true:=by simp[inB];omega
 have ht:=tD s;refine zE ?_;intro u1 H;refine zP (lL s 1 2147483646 u1) ?_;clear H;intro u2 H;refine zO (kQ hs 5 (by omega) u2) ?_;clear H;intro w3 A c u3 H
 obtain⟨gA,rfl,gA0,gA1⟩:=OS.pos (H.o 0) (by omega)
 have E:=H.el;refine zXF (tgF [gA] 15 6 (.cells #[.int .i64 0,.int .i64 0,.int .i64 0,.int .i64 0,.int .i64 0,.int .i64 0] 255)) ?_;clear H;intro S w4 hne H;have hA:=Rw.aB (cs:=#[.int .i64 (rn s 0),.int .i64 (rn s 1),.int .i64 (rn s 2),.int .i64 (rn s 3),.int .i64 (rn s 4)]) (H.o 0) rfl;have r0:=H.row (hA.cell 0);have r1:=H.row (hA.cell 1);have r2:=H.row (hA.cell 2);have r3:=H.row (hA.cell 3);have r4:=H.row (hA.cell 4);refine yG ?_;clear H;intro w5 g5 hg5 H;refine yS ?_;clear H;intro w6 H;refine yN ?_;clear H;intro u7 H;have gA2:=(OS.aj (H.o 1) gA rfl).2;refine zXZ (tg [g5,gA]) ?_;clear H;intro S w8 hne H;refine zD (H.c 0) ?_;intro G;have hA:=Rw.aB (cs:=#[.int .i64 (rn s 0),.int .i64 (rn s 1),.int .i64 (rn s 2),.int .i64 (rn s 3),.int .i64 (rn s 4)]) (H.o 1) rfl;have r0:=H.row (hA.cell 0);have r1:=H.row (hA.cell 1);have r2:=H.row (hA.cell 2);have r3:=H.row (hA.cell 3);have r4:=H.row (hA.cell 4);refine yB (bV _ _ w8) ?_;clear H;intro w9 H;refine yB (bV _ _ w9) ?_;clear H;intro w10 H;refine yP (pH _ _ w10) ?_;refine yB (o7 (xn s) (dB s 4) w10) ?_;clear H;intro w11 H;intros;refine zCr ?_;intro C;intros
 repeat (first|(refine lc' ?_;intro K hK;go_big_quiet_op;go_big_quiet_on)|refine lk' ?_)
 refine aV rfl (by rfl) (by rfl) (fun K hK=>?_)
 unfold Oper.gives
 go_simp
 refine hK _ _ ?_;replace H:=H.H;refine aI ?_;clear C G;refine zS_ ?_;clear H;intro u12 H
 exact⟨rfl,H.O⟩
end
def lv (k:Nat):Int:=if 2048<=k then 1 else 0
theorem BL (k:Nat):0<=lv k/\lv k<=1:=by unfold lv;split <;> omega
theorem qJ (k:Nat) (h:k<4096):sgn (k:Int)=if 2048<=k then (k:Int)-4096 else (k:Int):=by
 by_cases h2:2048<=k
 ·rw[xf (by omega) (by omega),if_pos h2]
 ·rw[xg (by omega) (by omega),if_neg h2]
def shf (s:Int):Int:=(rn s 0+rn s 1)%4096
def sec (f:Nat->Int) (s:Int) (i:Nat):Int:=(f (((i:Int)-shf s)%4096).toNat-rn (sds s 2) i)%4096
theorem xh (s:Int):0<=shf s/\shf s<=4095:=by unfold shf;omega
theorem w_ (f:Nat->Int) (s:Int) (i:Nat):0<=sec f s i/\sec f s i<=4095:=by unfold sec;omega
theorem uu (s:Int):aJ (rn s 0) (rn s 1)=shf s:=dX (dB s 0) (dB s 1)
theorem GO (f:Nat->Int) (n:Nat) (h:∀ k,k<n->0<=f k/\f k<=4095):(fl f n).all rv=true:=by
 rw[List.all_eq_true];intro x hx;simp only[fl,List.mem_map,List.mem_range] at hx;obtain⟨k,hk,rfl⟩:=hx
 exact aR (h k hk)
def Tb (f:Nat->Int) (s:Int) (w:World) (e:Ending) (w':World):Prop:=∃ (A B:Option Addr) (c d:Nat),e= .returned (.tuple #[.agg #[.int .i64 (rn s 0),.int .i64 (rn s 1),.slice A 4096 c,.slice B 4096 d],.int .i64 (sds (sds s 2) 4096)]) /\
 OS w' w.heap.size A 4096 c (fl (rn (sds s 2)) 4096)/\OS w' w.heap.size B 4096 d (fl (sec f s) 4096)/\Below w.heap.size w w'
theorem Bl (f:Nat->Int) (n:Nat):fl f 0++List.replicate (n-0) 0=List.replicate n 0:=by
 have e0:fl f 0=[]:=rfl;rw[e0,List.nil_append,Nat.sub_zero]
theorem B_ {f:Nat->Int} (s:Int) (j:Nat):(f (((j:Int)-shf s)%4096).toNat-rn (sds s 2) j)%4096=sec f s j:=rfl
theorem rh (j:Nat) (s:Int):((((j:Int)-s)%4096).toNat:Int)=((j:Int)-s)%4096:=by omega
theorem Dy {f:Nat->Int} (hf:∀ j,j<4096->0<=f j/\f j<=4095) (s:Int) (j:Nat):bC (f (((j:Int)-shf s)%4096).toNat) (rn (sds s 2) j)=sec f s j:=qL (hf _ (by omega)) (dB _ _)
end Go.Proofs.YtjciicheoghcdaaGreatDoor

/- Part of the proof that the law FnServiceLine of the given program returns true for every input. -/
import Derived.BigRegion
import Derived.Deep.AppendLies
import Derived.Deep.DeepCutAuto
import Derived.Deep.RegionLaw
import Derived.Test.YtjciicheoghcdaaGreatDoorXe
import Derived.Test.YtjciicheoghcdaaGreatDoorXf
import Derived.Test.YtjciicheoghcdaaGreatDoorXg
import Derived.Test.YtjciicheoghcdaaGreatDoorXj
import Derived.Test.YtjciicheoghcdaaGreatDoorXk
namespace Go.Proofs.YtjciicheoghcdaaGreatDoor
open Go.RowKit
set_option linter.unusedSimpArgs false
set_option linter.unusedVariables false
set_option maxRecDepth 20000
set_option maxHeartbeats 16000000
section
attribute [local go_sem ↓] Go.wp_at_zero Go.wp_at_succ
theorem aZ.ofS {g:Nat} {A:Option Addr} {a b c:World} (h:aZ g a b) (k:bJ A b c) (hA:∀ g',blk A=some g'->a.heap.size<=g'):aZ g a c :=
 ⟨k.os.trans h.os,k.tape.trans h.tape,k.output.trans h.output,Nat.le_trans h.size k.size,fun i hi hne=>(k.block i (Nat.lt_of_lt_of_le hi h.size) (fun e=>by have:=hA i e.symm;omega)).trans (h.block i hi hne)⟩
def KI (wo:World) (base gj n:Nat) (kd:Int) (pre rest:List Value) (ps:List (Mx×Mx)) (wi:World) (j:Nat) (A:Option Addr) (c:Nat):Prop :=
 VO wi base 80 2 (some ⟨gj,0,none⟩) n n (pre++([.int .i64 kd] ++ .slice A j c::rest))/\(∃ css F,OX mxE wi wo.heap.size 37 A j c css ((ps.map aq).take j) F)/\aZ gj wo wi
def KA (wo:World) (base gj n:Nat) (kd:Int) (pre rest:List Value) (ps:List (Mx×Mx)) (wi:World) (j:Nat) (A:Option Addr) (c g cap:Nat):Prop :=
 VO wi base 80 2 (some ⟨gj,0,none⟩) n n (pre++([.int .i64 kd] ++ .slice A j c::rest))/\(∃ css F,OX mxE wi wo.heap.size 37 (some ⟨g,0,none⟩) (j+1) cap css ((ps.map aq).take (j+1)) F)/\aZ gj wo wi
section
variable {wo wi wJ w1:World} {kd:Int} {ps:List (Mx×Mx)} {j c g cap cp base gj n:Nat} {A Ap:Option Addr} {p:Mx×Mx} {o:Obj} {css:List (List Value)} {F:List Nat} {pre rest:List Value}
theorem KI.start {u:Value} (h:VO wo base 80 2 (some ⟨gj,0,none⟩) n n (pre++(u :: .slice none 0 0::rest))) (o:Obj) (hi:n+n=n*2) {i:Nat} (hpre:i=pre.length) :
  KI wo base gj n kd pre rest ps ((wo.setCell ⟨gj,i,none⟩ (.int .i64 kd)).alloc o) 0 none 0:=by
 refine ⟨?_,⟨[],[],OX.nil _ _ _⟩,((aZ.refl gj wo).setCell (.inl rfl) _).alloc o⟩;have:=FX.put (E:=kE mxE) (a:=[]) (pre:=pre) (u:=u) (b:= .slice none 0 0::rest) h (j:=i) (by simp [hpre]) (.int .i64 kd)
 exact this.alloc o
theorem KI.app (hv:VO wi base 80 2 (some ⟨gj,0,none⟩) n n (pre++([.int .i64 kd] ++ .slice A j c::rest))) (hox:OX mxE wi wo.heap.size 37 A j c css ((ps.map aq).take j) F) (h3:aZ gj wo wi) (hgj:gj<wo.heap.size) (hb:Below wi.heap.size wi wJ)
  (hp:ps[j]?=some p) (hos:OS wJ wi.heap.size Ap (aq p).v.length cp (aq p).v)
  (hown:w1.ownsRow wo.heap.size 37 mxE.s (.slice (some ⟨g,0,none⟩) (j+1) cap) (j+1) (css.flatten++[.int .i64 (aq p).r,.int .i64 (aq p).c,.slice Ap (aq p).v.length cp]))
  (hg:(wJ.alloc o).grownBy w1 (Value.slice A j c).ownBlock) (hat:(Value.slice A j c).ownBlock=some g\/g=wJ.heap.size+1):KA wo base gj n kd pre rest ps w1 j A c g cap:=by
 have hwi:=h3.size;have hsz:=hb.size;have hf:Fr wJ wo.heap.size (fpI Ap (aq p).v.length):=(ek hos).mono (by omega)
 have hd:∀ g',g'∈fpI Ap (aq p).v.length->g'∉F/\blk A≠some g':=fun g' hg'=>by
  have:=((ek hos).2 g' hg').1
  exact ⟨fun h=>by have:=hox.lt g' h;omega,fun h=>by have:=(hox.aj g' h).2;omega⟩
 obtain ⟨k1,_,k3⟩:=OX.push (hox.below hb) (x:=aq p) ⟨Ap,cp,rfl,MF.aB hos⟩ hf hd (Below.refl wo.heap.size wJ) (Nat.le_refl _) (by omega) hown hg hat
 rw [<- aW (jb hp)] at k1;refine ⟨(hv.below hb).bR k3 (fun g' hg' hA=> ?_),⟨_,_,k1⟩,(h3.below hb).ofS k3 (fun g' hg'=>(hox.aj g' hg').1)⟩
 have e:gj=g':=by simpa [blk] using hg'
 have:=(hox.aj g' hA).1
 omega
theorem KA.next (h:KA wo base gj n kd pre rest ps wi j A c g cap) (hgj:gj<wo.heap.size) {i:Nat} (hi:i=pre.length+1):KI wo base gj n kd pre rest ps (wi.setCell ⟨gj,i,none⟩ (.slice (some ⟨g,0,none⟩) (j+1) cap)) (j+1) (some ⟨g,0,none⟩) cap:=by
 obtain ⟨h1,⟨css,F,h2⟩,h3⟩:=h
 exact ⟨FX.put (E:=kE mxE) h1 (by simpa using hi) _,⟨css,F,h2.lX (by dsimp only;omega) _⟩,h3.setCell (.inl rfl) _⟩
end
theorem gB (A:Option Addr) (n cap:Nat) (net:List (Int×List (Mx×Mx))) (F:List Nat) (w:World) (hx:RI (kE smE) w A n cap net F) (hs:gG (kS smS) net) :
  Calls Tryz.prog 14 #[.slice A n cap] w (JN net w):=by
 obtain ⟨i0,hi,hz0,hz1,hz2⟩:=info_parts rI;have HLN:=Lib.hid hx.1;have HS:=Lib.hid hs.2;have HX:=Lib.hid hx;clear hx hs
 by_cases n4:4<n
 ·have HNO:Hid (bu net=false):=Eo (by rw [HLN.out];exact n4)
  have t4:(4:Int)<(n:Int):=by omega
  go_enter Tryz.func14,Tryz.ntmps14
  go_wp2
  go_ret2
  have:=JN.no (w':=w) (A:=none) HNO.out (Below.refl w.heap.size w);rw [HNO.out] at this
  exact this
 have t4:(n:Int)<=4:=by omega
 have hmk:=fun W:World=>CG n (by omega) W
 have H0:Hid (∃ css F',FX (kE mxE) (w.alloc (.cells (madeCells ZL (n*ZL.size)) 80)) w.heap.size 80 w.heap.size n css (List.replicate (n-0) ZL.toList).flatten ((net.map df).take 0) F'):=⟨_,_,FX.made w _ ZL (by decide) rfl n (by unfold maxLen;omega)⟩
 have B0:Hid (Below w.heap.size w (w.alloc (.cells (madeCells ZL (n*ZL.size)) 80))):=(Below.refl _ _).alloc (Nat.le_refl _) _;obtain ⟨O,hO⟩:∃ O,O=(Obj.cells (madeCells ZL (n*ZL.size)) 80):=⟨_,rfl⟩;rw [<- hO] at H0 B0 hmk;clear hO
 go_enter Tryz.func14,Tryz.ntmps14
 go_wp2
 go_loopw [17] (fun i wr=>∃ k:Nat,k<=n/\i= .int .i64 k/\Hid (∃ css F',FX (kE mxE) wr w.heap.size 80 w.heap.size n css (List.replicate (n-k) ZL.toList).flatten ((net.map df).take k) F')/\Hid (Below w.heap.size w wr)/\Hid (∀ q l,q<k->net[q]?=some l->aL l.1 (l.2.map aq)=true)) (fun i _=>n-(intOf i).toNat)
 case atStart=>exact ⟨0,Nat.zero_le _,rfl,H0,B0,fun q l hq=>absurd hq (by omega)⟩
 case round =>
 obtain ⟨k,hk,rfl,hfx,hob,hval⟩:=hrel;clear H0 B0 hmk;obtain ⟨wo,rfl⟩:∃ u:World,u=wr:=⟨_,rfl⟩
 by_cases hlt:k<n
 ·obtain ⟨x,hxk,hmem⟩:=aH (xs:=net) (j:=k) (by have:=HLN.out;omega)
  have HXK:=Lib.hid hxk;obtain ⟨hsm,hsx⟩:=HS.out x hmem;have HSX:=Lib.hid hsx;have hwo:w.heap.size<=wo.heap.size:=hob.out.size;obtain ⟨b,off,cs,Fx,rfl,hbl,hc,_,Aw,cw,rfl,hrw⟩:=HX.out.cells hxk 2 rfl;obtain ⟨m,hm⟩:∃ m,m=x.2.length:=⟨_,rfl⟩;rw [<- hm] at hc hrw hsm;have HM:=Lib.hid hm;have d0:wo.cell? ⟨b,off+k*2,none⟩=some (.int .i64 x.1):=(hob.out.cell (p:=⟨b,off+k*2,none⟩) hbl).trans (hc 0 (by omega))
  have d1:wo.cell? ⟨b,off+k*2+1,none⟩=some (.slice Aw m cw):=(hob.out.cell (p:=⟨b,off+k*2+1,none⟩) hbl).trans (hc 1 (by omega))
  have HRW:=Lib.hid hrw;have k0:(0:Int)<=(k:Int):=by omega
  have k1:(k:Int)<(n:Int):=by omega
  obtain ⟨css,FO,hF⟩:=hfx.out;have hgl:w.heap.size<wo.heap.size:=hF.glt.2;have hnk:(List.replicate (n-k) ZL.toList).flatten= .int .i64 0 :: .slice none 0 0::(List.replicate (n-(k+1)) ZL.toList).flatten:=by
   rw [show n-k=(n-(k+1))+1 by omega,List.replicate_succ,List.flatten_cons]
   rfl
  rw [hnk] at hF;have hpl:css.flatten.length=k*2:=by
   rw [dS hF.2.1,List.length_take,List.length_map,HLN.out,Nat.min_eq_left (by omega)]
   rfl
  have HPL:=Lib.hid hpl;have HFO:=Lib.hid hF;obtain ⟨pre,hpre⟩:∃ pre,pre=css.flatten:=⟨_,rfl⟩;obtain ⟨rest,hrest⟩:∃ rest,rest=(List.replicate (n-(k+1)) ZL.toList).flatten:=⟨_,rfl⟩;have hv:=hF.1;rw [<- hpre,<- hrest] at hv;rw [<- hpre] at HPL;have HPRE:=Lib.hid hpre;have HREST:=Lib.hid hrest;have hv0:wo.cell? ⟨w.heap.size,k*2,none⟩=some (.int .i64 0):=eG (a:=[]) hv (by rw [HPL.out];rfl)
  have hf0:wo.frozen? ⟨w.heap.size,k*2,none⟩=false:=hv.frozen _;have J0:Hid (KI wo w.heap.size w.heap.size n x.1 pre rest x.2 ((wo.setCell ⟨w.heap.size,k*2,none⟩ (.int .i64 x.1)).alloc (.cells #[.int .i64 x.1,.slice Aw m cw] 99)) 0 none 0):=KI.start hv _ (by omega) (by rw [HPL.out])
  clear hc hxk hmem hm hrw hsx hF hnk hpl hpre hrest hv hfx;go_wp2;clear hv0 hf0
  go_loopw [31] (fun i wr=>∃ (j c':Nat) (A'':Option Addr),j<=m/\i= .int .i64 j/\Hid (KI wo w.heap.size w.heap.size n x.1 pre rest x.2 wr j A'' c')) (fun i _=>m-(intOf i).toNat)
  case atStart=>exact ⟨0,0,none,Nat.zero_le _,rfl,J0⟩
  case round =>
  obtain ⟨j,cI,AI,hj,rfl,hji⟩:=hrel;clear J0;have hsz:wo.heap.size<=wr.heap.size:=hji.out.2.2.size;have zl:w.heap.size<wr.heap.size:=by omega
  have HBW:Hid (Below w.heap.size w wr):=hob.out.trans (hji.out.2.2.toBelow (Nat.le_refl _) (by omega))
  by_cases hjm:j<m
  ·obtain ⟨p,hpj,hpm⟩:=aH (xs:=x.2) (j:=j) (by have:=HM.out;omega)
   have HPJ:=Lib.hid hpj;obtain ⟨hs1,hs2⟩:=HSX.out p hpm;obtain ⟨b2,off2,cs,Fp,rfl,hbl2,hc,_,P1,q1,P2,q2,Fa,Fb,rfl,hp1,hp2,_⟩:=(HRW.out.below HBW.out).cells hpj 6 rfl;have a0:wr.cell? ⟨b2,off2+j*6,none⟩=some (.int .i64 p.1.r):=hc 0 (by omega)
   have a1:wr.cell? ⟨b2,off2+j*6+1,none⟩=some (.int .i64 p.1.c):=hc 1 (by omega)
   have a2:wr.cell? ⟨b2,off2+j*6+2,none⟩=some (.slice P1 p.1.v.length q1):=hc 2 (by omega)
   have a3:wr.cell? ⟨b2,off2+j*6+3,none⟩=some (.int .i64 p.2.r):=hc 3 (by omega)
   have a4:wr.cell? ⟨b2,off2+j*6+4,none⟩=some (.int .i64 p.2.c):=hc 4 (by omega)
   have a5:wr.cell? ⟨b2,off2+j*6+5,none⟩=some (.slice P2 p.2.v.length q2):=hc 5 (by omega)
   have j0:(0:Int)<=(j:Int):=by omega
   have j1:(j:Int)<(m:Int):=by omega
   have HJN:Hid (∀ W:World,Below wr.heap.size wr W->Calls Tryz.prog 55 #[SMV p.1.r p.1.c P1 p.1.v.length q1 p.2.r p.2.c P2 p.2.v.length q2] W (bD (aq p) W)):=fun W hW=>j_ p.1.r p.1.c p.2.r p.2.c p.1.v p.2.v P1 P2 _ q1 _ q2 W (hp1.1.below hW) (hp2.1.below hW) hs1 hs2
   clear hc hpj hpm hp1 hp2 hs1 hs2;obtain ⟨hV,⟨cssI,FI,hoxI⟩,hOn⟩:=hji.out;have cj:wr.cell? ⟨w.heap.size,k*2+1,none⟩=some (.slice AI j cI):=eG (a:=[.int .i64 x.1]) hV (by rw [HPL.out];rfl)
   have HV:=Lib.hid hV;have HOXI:=Lib.hid hoxI;have HON:=Lib.hid hOn;have hcs:=hoxI.dC;clear hV hoxI hOn;obtain ⟨mj,hmj⟩:∃ mj,mj=aq p:=⟨_,rfl⟩;rw [<- hmj] at HJN;have HMJ:=Lib.hid hmj;clear hmj;have H1:Hid (∀ (Ap:Option Addr) (cp:Nat),∀ u∈[Value.int .i64 mj.r,Value.int .i64 mj.c,Value.slice Ap mj.v.length cp],u.oneCell'=true):=by
    intro Ap cp u hu;simp at hu;rcases hu with rfl | rfl | rfl <;> rfl
   have H2:Hid (j+1<=maxLen):=by unfold maxLen;show j+1<=_;omega
   have H3:Hid ((j+1)*40<=140737488355328):=by show (j+1)*40<=_;omega
   go_wp2_with fail
   obtain ⟨wm,hwm⟩:∃ u,u=(wr.alloc (.cells #[.int .i64 p.1.r,.int .i64 p.1.c,.slice P1 p.1.v.length q1,.int .i64 p.2.r,.int .i64 p.2.c,.slice P2 p.2.v.length q2] 82)):=⟨_,rfl⟩;rw [<- hwm];have hbm:Below wr.heap.size wr wm:=by rw [hwm];exact (Below.refl _ _).alloc (Nat.le_refl _) _
   have hkm:Blk wm wr.heap.size 82 #[.int .i64 p.1.r,.int .i64 p.1.c,.slice P1 p.1.v.length q1,.int .i64 p.2.r,.int .i64 p.2.c,.slice P2 p.2.v.length q2]:=by rw [hwm];exact Blk.new _ _ _
   clear hwm a0 a1 a2 a3 a4 a5;have b0:wm.cell? ⟨wr.heap.size,0,none⟩=some (.int .i64 p.1.r):=hkm.cell 0;have b1:wm.cell? ⟨wr.heap.size,1,none⟩=some (.int .i64 p.1.c):=hkm.cell 1;have b2':wm.cell? ⟨wr.heap.size,2,none⟩=some (.slice P1 p.1.v.length q1):=hkm.cell 2;have b3:wm.cell? ⟨wr.heap.size,3,none⟩=some (.int .i64 p.2.r):=hkm.cell 3;have b4:wm.cell? ⟨wr.heap.size,4,none⟩=some (.int .i64 p.2.c):=hkm.cell 4;have b5:wm.cell? ⟨wr.heap.size,5,none⟩=some (.slice P2 p.2.v.length q2):=hkm.cell 5;have zm:wr.heap.size<wm.heap.size:=hkm.lt;have cjm:wm.cell? ⟨w.heap.size,k*2+1,none⟩=some (.slice AI j cI):=(hbm.cell (p:=⟨w.heap.size,k*2+1,none⟩) zl).trans cj;have HBM:=Lib.hid hbm;clear hkm cj hbm
   first
    | go_region_law (first
      | (refine step_append_lies _ (by rfl) _ _ _ (by rfl) wo.heap.size 37 i0 (.agg #[.int .i64 0,.int .i64 0,.slice none 0 0]) 3 40 Tryz.underlying69 hi hz0 hz1 hz2 rfl (by omega) (.slice AI j cI) j _ (by rfl) (World.ownsRow.alloc (HOXI.out.below HBJ.out).1 _) ⟨wJ.heap.size,0,none⟩ 1 1 [.int .i64 mj.r,.int .i64 mj.c,.slice Ap mj.v.length cp] (by rfl) rfl (fun jj u h=>dz _ _ _ jj u h) (H1.out Ap cp) (by omega) H2.out H3.out (by simp;omega) (wJ.heap.size+1) (by simp) ?_;intro g cap5 w5 hown hgrow hat hlt5;rw [HMJ.out] at hown;have HA:=Lib.hid (KI.app HV.out HOXI.out HON.out hgl HBJ.out HPJ.out HOS.out hown hgrow hat);clear hown hgrow hat;have kT:w5.cell? ⟨w.heap.size,k*2+1,none⟩=some (.slice AI j cI):=eG (a:=[.int .i64 x.1]) HA.out.1 (by rw [HPL.out];rfl);have fT:w5.frozen? ⟨w.heap.size,k*2+1,none⟩=false:=HA.out.1.frozen _)
      | (go_simp;go_at_call 55;(with_reducible refine (HJN.out _ (by first | exact HBM.out | exact HBM.out.drew)).mono ?_);rintro e wJ ⟨Ap,cp,rfl,hos,hb⟩;have hbm':Below wm.heap.size wm wJ:=bp hb (by first | exact Nat.le_refl _ | simp) (by first | exact Below.refl _ _ | exact (Below.refl _ _).drew);have hbJ:Below wr.heap.size wr wJ:=HBM.out.trans (hbm'.mono HBM.out.size);have HBJ:=Lib.hid hbJ;have HOS:Hid (OS wJ wr.heap.size Ap (aq p).v.length cp (aq p).v):=(by rw [<- HMJ.out];exact hos.mono (by first | exact HBM.out.size | (simp;exact HBM.out.size)));have g1:wJ.cell? ⟨w.heap.size,k*2+1,none⟩=some (.slice AI j cI):=(hbJ.cell (p:=⟨w.heap.size,k*2+1,none⟩) zl).trans (eG (a:=[.int .i64 x.1]) HV.out (by rw [HPL.out];rfl));have gs:=hbJ.size;have gz:w.heap.size<wJ.heap.size:=(by omega);clear hos hb hbJ hbm')
      | fail)
    | fail
   all_goals
    go_wp2
    go_roundw
    case rel=>exact ⟨j+1,cap5,some ⟨g,0,none⟩,by omega,by go_num,Lib.hid (KA.next HA.out hgl (by rw [HPL.out]))⟩
    case measure=>simp [intOf];omega
  ·obtain rfl:j=m:=by omega
   obtain ⟨hV,⟨cssI,FI,hoxI⟩,hOn⟩:=hji.out;rw [List.take_of_length_le (by rw [List.length_map,HM.out];exact Nat.le_refl _)] at hoxI
   obtain ⟨F2,hr2,hf2⟩:=hoxI.ri;have q0:wr.cell? ⟨w.heap.size,k*2,none⟩=some (.int .i64 x.1):=eG (a:=[]) hV (by rw [HPL.out];rfl)
   have q1:wr.cell? ⟨w.heap.size,k*2+1,none⟩=some (.slice AI j cI):=eG (a:=[.int .i64 x.1]) hV (by rw [HPL.out];rfl)
   have HV:=Lib.hid hV;have HON:=Lib.hid hOn;have HR2:=Lib.hid hr2;have HF2:=Lib.hid hf2;clear hV hoxI hOn hr2 hf2 hji
   go_wp2_with fail
   refine (Ec x.1 AI j cI (x.2.map aq) F2 wr HR2.out jJ hsm).mono ?_;rintro e w5 ⟨rfl,hb5⟩;have HB5:=Lib.hid hb5;have HBW5:Hid (Below w.heap.size w w5):=HBW.out.trans (hb5.mono (by omega))
   clear hb5
   cases hl:aL x.1 (x.2.map aq)
   ·have HNO:Hid (bu net=false):=wH HXK.out hl;clear hl;go_wp2
    go_ret2
    have:=JN.no (A:=none) HNO.out HBW5.out;rw [HNO.out] at this
    exact this
   ·have HVV:Hid (∀ q l,q<k+1->net[q]?=some l->aL l.1 (l.2.map aq)=true):=by
     intro q l hq hl'
     by_cases hqk:q<k
     ·exact hval.out q l hqk hl'
     ·obtain rfl:q=k:=by omega
      rw [HXK.out] at hl';injection hl' with hl';subst hl'
      exact hl
    have hQ:(kE mxE).P w5 [.int .i64 x.1,.slice AI j cI] (df x) F2:=⟨AI,cI,by simp [df,HM.out],by have:=HR2.out.below HB5.out;simpa [df,HM.out] using this⟩
    have K1:Hid (∃ css F',FX (kE mxE) w5 w.heap.size 80 w.heap.size n css (List.replicate (n-(k+1)) ZL.toList).flatten ((net.map df).take (k+1)) F'):=by
     have hF:=HFO.out;have hfO:∀ g',g'∈FO->w5.heap[g']?=wo.heap[g']?:=fun g' hg'=>(HB5.out.block g' (by have:=hF.2.1.lt g' hg';omega)).trans (HON.out.block g' (hF.2.1.lt g' hg') (fun e=>hF.2.2.2 (by injection e with e;rw [<- e];exact hg')))
     have hv5:=HV.out.below HB5.out;rw [HPRE.out,HREST.out] at hv5;have:=FX.step (E:=kE mxE) (css:=css) (g:=w.heap.size) (ys:=[.int .i64 x.1,.slice AI j cI]) hv5 hF.2.1 hF.2.2.1 hF.2.2.2 hfO hQ ((HF2.out.below HB5.out).mono hwo)
      (fun g' hg'=>⟨fun h=>by have:=hF.2.1.lt g' h;have:=(HF2.out.2 g' hg').1;omega,fun h=>by have:=(HF2.out.2 g' hg').1;omega⟩)
     rw [<- aW (jb HXK.out)] at this
     exact ⟨_,_,this⟩
    clear hl hQ hval;go_wp2
    go_roundw
    case rel=>exact ⟨k+1,by omega,by go_num,K1,HBW5,HVV⟩
    case measure=>simp [intOf];omega
 ·obtain rfl:k=n:=by omega
  have hy:bu net=true:=uj (by rw [HLN.out];omega) (fun q l hq hl=>hval.out q l (by rw [<- HLN.out];exact hq) hl)
  have HJN:Hid (JN net w (.returned (.tuple #[.slice (some ⟨w.heap.size,0,none⟩) k k,.bool true])) wo):=by
   obtain ⟨css,F',hF⟩:=hfx.out;rw [Nat.sub_self,List.take_of_length_le (by rw [List.length_map,HLN.out];exact Nat.le_refl _)] at hF
   obtain ⟨F2,hr2,hf2⟩:=FX.ri hF (by rw [List.length_map,HLN.out])
   exact ⟨some ⟨w.heap.size,0,none⟩,k,k,F2,by rw [hy],by rw [eL hy];exact hr2,hf2,hob.out⟩
  clear hy hfx;go_wp2
  go_ret2
  exact HJN.out
end
section
attribute [local go_sem ↓] Go.wp_at_zero Go.wp_at_succ
theorem je (A:Option Addr) (n cap:Nat) (net:List (Int×List (Mx×Mx))) (F:List Nat) (w:World) (hx:RI (kE smE) w A n cap net F) (hs:gG (kS smS) net) :
  Calls Tryz.prog 43 #[.slice A n cap] w (JN net w):=by
 obtain ⟨i0,hi,hz0,hz1,hz2⟩:=info_parts rI;obtain ⟨i2,hi2,hy0,hy1,hy2⟩:=info_parts we;have bn:n<=1048576:=by rw [<- hx.1];exact hs.1
 have HLN:=Lib.hid hx.1;have HS:=Lib.hid hs.2;have hcall:Calls Tryz.prog 85 #[.slice A n cap] w (fun e w'=>∃ A1 c1 F1,e= .returned (.slice A1 n c1)/\RI (kE smE) w' A1 n c1 net F1/\Below w.heap.size w w'):=by
  refine (bW A n cap net F w hx bn hs.2).mono ?_;rintro e w' ⟨A1,c1,F1,he,h1,_,h3⟩;rw [hx.1] at he h1
  exact ⟨A1,c1,F1,he,h1,h3⟩
 have HCALL:=Lib.hid hcall;clear hcall hx hs
 go_enter Tryz.func43,Tryz.ntmps43
 go_wp2_with fail
 refine HCALL.out.mono ?_;rintro e w1 ⟨A1,c1,F1,rfl,hri,hb⟩;have H0:Hid (∃ css F',OX (kE mxE) (w1.alloc (.cells #[] 80)) w1.heap.size 80 (some ⟨w1.heap.size,0,none⟩) 0 0 css ((net.map df).take 0) F'):=⟨_,_,OX.kG w1 (Nat.le_refl _) _⟩;have HLT:Hid (∀ g,g∈F1->g<w1.heap.size):=hri.lt;have hw1:w.heap.size<=w1.heap.size:=hb.size;have HU0:w1.heap.size<=(w1.alloc (.cells #[] 80)).heap.size:=by simp
 have R0:Hid (RI (kE smE) (w1.alloc (.cells #[] 80)) A1 n c1 net F1):=hri.alloc _;have B0:Hid (Below w.heap.size w (w1.alloc (.cells #[] 80))):=hb.alloc hb.size _;clear hri hb HCALL;go_wp2
 go_loopw [4,5] (fun v i wr=>∃ (k c':Nat) (A':Option Addr),k<=n/\i= .int .i64 k/\v= .slice A' k c'/\Hid (∃ css F',OX (kE mxE) wr w1.heap.size 80 A' k c' css ((net.map df).take k) F')/\Hid (RI (kE smE) wr A1 n c1 net F1)/\Hid (Below w.heap.size w wr)/\Hid (∀ q l,q<k->net[q]?=some l->aL l.1 (l.2.map aq)=true)/\Hid (k=0\/n<=4)/\w1.heap.size<=wr.heap.size) (fun _ i _=>n-(intOf i).toNat)
 case atStart=>exact ⟨0,0,_,Nat.zero_le _,rfl,rfl,H0,R0,B0,fun q l hq=>absurd hq (by omega),Or.inl rfl,HU0⟩
 case round =>
 obtain ⟨k,cA,A',hk,rfl,rfl,hox,hri,hob,hval,hfour,hw1o⟩:=hrel;clear H0 R0 B0 HU0;obtain ⟨wo,rfl⟩:∃ u:World,u=wr:=⟨_,rfl⟩
 by_cases hlt:k<n
 ·obtain ⟨x,hxk,hmem⟩:=aH (xs:=net) (j:=k) (by have:=HLN.out;omega)
  have HXK:=Lib.hid hxk;obtain ⟨hsm,hsx⟩:=HS.out x hmem;have HSX:=Lib.hid hsx;have hwo:w.heap.size<=wo.heap.size:=hob.out.size;obtain ⟨b,off,cs,Fx,rfl,hbl,hc,_,Aw,cw,rfl,hrw⟩:=hri.out.cells hxk 2 rfl;obtain ⟨m,hm⟩:∃ m,m=x.2.length:=⟨_,rfl⟩;rw [<- hm] at hc hrw hsm;have HM:=Lib.hid hm;have d0:wo.cell? ⟨b,off+k*2,none⟩=some (.int .i64 x.1):=hc 0 (by omega)
  have d1:wo.cell? ⟨b,off+k*2+1,none⟩=some (.slice Aw m cw):=hc 1 (by omega)
  have HRW:=Lib.hid hrw;have k0:(0:Int)<=(k:Int):=by omega
  have k1:(k:Int)<(n:Int):=by omega
  have J0:Hid (JI wo x.1 x.2 (wo.alloc (.cells #[.int .i64 x.1,.slice none 0 0] 80)) 0 none 0):=JI.start wo x.1 x.2;clear hc hxk hmem hm hrw hsx;go_wp2
  go_loopw [7] (fun i wr=>∃ (j c':Nat) (A'':Option Addr),j<=m/\i= .int .i64 j/\Hid (JI wo x.1 x.2 wr j A'' c')) (fun i _=>m-(intOf i).toNat)
  case atStart=>exact ⟨0,0,none,Nat.zero_le _,rfl,J0⟩
  case round =>
  obtain ⟨j,cI,AI,hj,rfl,hji⟩:=hrel;clear J0;have cl0:wr.cell? ⟨wo.heap.size,0,none⟩=some (.int .i64 x.1):=hji.out.1.cell 0;have cl1:wr.cell? ⟨wo.heap.size,1,none⟩=some (.slice AI j cI):=hji.out.1.cell 1;have zl:wo.heap.size<wr.heap.size:=hji.out.1.lt;have zb:b<wr.heap.size:=by omega
  have e1:wr.cell? ⟨b,off+k*2+1,none⟩=some (.slice Aw m cw):=(hji.out.2.2.cell (p:=⟨b,off+k*2+1,none⟩) hbl).trans d1
  by_cases hjm:j<m
  ·obtain ⟨p,hpj,hpm⟩:=aH (xs:=x.2) (j:=j) (by have:=HM.out;omega)
   have HPJ:=Lib.hid hpj;obtain ⟨hs1,hs2⟩:=HSX.out p hpm;obtain ⟨b2,off2,cs,Fp,rfl,hbl2,hc,_,P1,q1,P2,q2,Fa,Fb,rfl,hp1,hp2,_⟩:=(HRW.out.below hji.out.2.2).cells hpj 6 rfl;have a0:wr.cell? ⟨b2,off2+j*6,none⟩=some (.int .i64 p.1.r):=hc 0 (by omega)
   have a1:wr.cell? ⟨b2,off2+j*6+1,none⟩=some (.int .i64 p.1.c):=hc 1 (by omega)
   have a2:wr.cell? ⟨b2,off2+j*6+2,none⟩=some (.slice P1 p.1.v.length q1):=hc 2 (by omega)
   have a3:wr.cell? ⟨b2,off2+j*6+3,none⟩=some (.int .i64 p.2.r):=hc 3 (by omega)
   have a4:wr.cell? ⟨b2,off2+j*6+4,none⟩=some (.int .i64 p.2.c):=hc 4 (by omega)
   have a5:wr.cell? ⟨b2,off2+j*6+5,none⟩=some (.slice P2 p.2.v.length q2):=hc 5 (by omega)
   have j0:(0:Int)<=(j:Int):=by omega
   have j1:(j:Int)<(m:Int):=by omega
   have HJN:Hid (∀ W:World,Below wr.heap.size wr W->Calls Tryz.prog 48 #[SMV p.1.r p.1.c P1 p.1.v.length q1 p.2.r p.2.c P2 p.2.v.length q2] W (bD (aq p) W)):=fun W hW=>kL p.1.r p.1.c p.2.r p.2.c p.1.v p.2.v P1 P2 _ q1 _ q2 W (hp1.1.below hW) (hp2.1.below hW) hs1 hs2
   clear hc hpj hpm hp1 hp2 hs1 hs2;obtain ⟨hB1,⟨css,FI,hoxI⟩,hB3⟩:=hji.out;have HB1:=Lib.hid hB1;have HOXI:=Lib.hid hoxI;have HB3:=Lib.hid hB3;have hcs:=hoxI.dC;clear hB1 hoxI hB3;obtain ⟨mj,hmj⟩:∃ mj,mj=aq p:=⟨_,rfl⟩;rw [<- hmj] at HJN;have HMJ:=Lib.hid hmj;clear hmj;have H1:Hid (∀ (Ap:Option Addr) (cp:Nat),∀ u∈[Value.int .i64 mj.r,Value.int .i64 mj.c,Value.slice Ap mj.v.length cp],u.oneCell'=true):=by
    intro Ap cp u hu;simp at hu;rcases hu with rfl | rfl | rfl <;> rfl
   have H2:Hid (j+1<=maxLen):=by unfold maxLen;show j+1<=_;omega
   have H3:Hid ((j+1)*40<=140737488355328):=by show (j+1)*40<=_;omega
   go_upto_region 10 with fail
   first
    | go_region_law (first
      | (refine step_append_lies _ (by rfl) _ _ _ (by rfl) (wo.heap.size+1) 37 i0 (.agg #[.int .i64 0,.int .i64 0,.slice none 0 0]) 3 40 Tryz.underlying69 hi hz0 hz1 hz2 rfl (by omega) (.slice AI j cI) j _ (by rfl) (World.ownsRow.alloc (HOXI.out.below HBJ.out).1 _) ⟨wJ.heap.size,0,none⟩ 1 1 [.int .i64 mj.r,.int .i64 mj.c,.slice Ap mj.v.length cp] (by rfl) rfl (fun jj u h=>dz _ _ _ jj u h) (H1.out Ap cp) (by omega) H2.out H3.out (by simp;omega) (wJ.heap.size+1) (by simp) ?_;intro g cap5 w5 hown hgrow hat hlt5;rw [HMJ.out] at hown;have HA:=Lib.hid (JI.app HB1.out HOXI.out HB3.out HBJ.out HPJ.out HOS.out hown hgrow hat);clear hown hgrow hat;have kT:w5.cell? ⟨wo.heap.size,1,none⟩=some (.slice AI j cI):=HA.out.1.cell 1;have fT:=HA.out.1.frozen 1;have zT:=HA.out.1.lt)
      | (go_simp;go_at_call 48;(with_reducible refine (HJN.out _ (by first | exact Below.refl _ _ | exact (Below.refl _ _).drew)).mono ?_);rintro e wJ ⟨Ap,cp,rfl,hos,hb⟩;have hbJ:Below wr.heap.size wr wJ:=bp hb (by first | exact Nat.le_refl _ | simp) (by first | exact Below.refl _ _ | exact (Below.refl _ _).drew);have HBJ:=Lib.hid hbJ;have HOS:Hid (OS wJ wr.heap.size Ap (aq p).v.length cp (aq p).v):=(by rw [<- HMJ.out];exact hos);have g1:wJ.cell? ⟨wo.heap.size,1,none⟩=some (.slice AI j cI):=(HB1.out.aa hbJ).cell 1;have gz:wo.heap.size<wJ.heap.size:=(HB1.out.aa hbJ).lt;have gs:=hbJ.size;clear hos hb hbJ)
      | fail)
    | fail
   all_goals
    go_wp2
    go_roundw
    case rel=>exact ⟨j+1,cap5,some ⟨g,0,none⟩,by omega,by go_num,Lib.hid (JA.next HA.out)⟩
    case measure=>simp [intOf];omega
  ·obtain rfl:j=m:=by omega
   obtain ⟨hB1,⟨css,FI,hoxI⟩,hB3⟩:=hji.out;rw [List.take_of_length_le (by rw [List.length_map,HM.out];exact Nat.le_refl _)] at hoxI
   obtain ⟨F2,hr2,hf2⟩:=hoxI.ri;have HB1:=Lib.hid hB1;have HB3:=Lib.hid hB3;have HR2:=Lib.hid hr2;have HF2:=Lib.hid hf2;clear hB1 hoxI hB3 hr2 hf2 hji
   go_wp2_with fail
   refine (dx x.1 AI j cI (x.2.map aq) F2 wr HR2.out jJ hsm).mono ?_;rintro e w5 ⟨rfl,hb5⟩;have HB5:=Lib.hid hb5;have p0:w5.cell? ⟨wo.heap.size,0,none⟩=some (.int .i64 x.1):=(HB1.out.aa hb5).cell 0;have p1:w5.cell? ⟨wo.heap.size,1,none⟩=some (.slice AI j cI):=(HB1.out.aa hb5).cell 1;have z5:wo.heap.size<w5.heap.size:=(HB1.out.aa hb5).lt;have HBo:Hid (Below wo.heap.size wo w5):=HB3.out.trans (hb5.mono (by omega))
   have HBW:Hid (Below w.heap.size w w5):=hob.out.trans (HBo.out.mono hwo);clear hb5
   cases hl:aL x.1 (x.2.map aq)
   ·have HNO:Hid (bu net=false):=wH HXK.out hl;have HFIN:Hid (Below w.heap.size w (w5.alloc (.cells #[] 80))):=HBW.out.alloc HBW.out.size _;clear hl;go_wp2
    go_ret2
    have:=JN.no (A:=some ⟨w5.heap.size,0,none⟩) HNO.out HFIN.out;rw [HNO.out] at this
    exact this
   ·by_cases n4:4<n
    ·have HNO:Hid (bu net=false):=Eo (by rw [HLN.out];exact n4)
     have HFIN:Hid (Below w.heap.size w (w5.alloc (.cells #[] 80))):=HBW.out.alloc HBW.out.size _;have t4:(4:Int)<(n:Int):=by omega
     clear hl;go_wp2
     go_ret2
     have:=JN.no (A:=some ⟨w5.heap.size,0,none⟩) HNO.out HFIN.out;rw [HNO.out] at this
     exact this
    ·have HV:Hid (∀ q l,q<k+1->net[q]?=some l->aL l.1 (l.2.map aq)=true):=by
      intro q l hq hl'
      by_cases hqk:q<k
      ·exact hval.out q l hqk hl'
      ·obtain rfl:q=k:=by omega
       rw [HXK.out] at hl';injection hl' with hl';subst hl'
       exact hl
     have t4:(n:Int)<=4:=by omega
     obtain ⟨cssO,FO,hoxO⟩:=hox.out;have HOXO:=Lib.hid (hoxO.below HBo.out);have HQ:Hid ((kE mxE).P w5 [.int .i64 x.1,.slice AI j cI] (df x) F2):=⟨AI,cI,by simp [df,HM.out],by have:=HR2.out.below HB5.out;simpa [df,HM.out] using this⟩
     have HG:Hid (Fr w5 w1.heap.size F2):=(HF2.out.below HB5.out).mono (by omega)
     have HD:Hid (∀ g,g∈F2->g∉FO/\blk A'≠some g):=fun g hg=>⟨fun h=>by have:=hoxO.lt g h;have:=(HF2.out.2 g hg).1;omega,fun h=>by have:=(hoxO.aj g h).2;have:=(HF2.out.2 g hg).1;omega⟩
     clear hl hoxO hox hval
     go_wp2_with (at_builtin;refine wpList_append_lies _ rfl _ _ 32 rfl w1.heap.size 80 i2 (.agg #[.int .i64 0,.slice none 0 0]) 2 32 Tryz.underlying32 hi2 hy0 hy1 hy2 rfl (by decide) (.slice A' k cA) k _ rfl (World.ownsRow.alloc HOXO.out.1 _) ⟨w5.heap.size,0,none⟩ 1 1 [.int .i64 x.1,.slice AI j cI] rfl rfl ?c1 ?c2 ?c3 ?c4 ?c5 ?c6 (w5.heap.size+1) ?c7 ?_)
     case c1=>exact dz w5 _ _
     case c2=>intro u hu;simp at hu;rcases hu with rfl | rfl <;> rfl
     case c3=>omega
     case c4=>unfold maxLen;omega
     case c5=>omega
     case c6=>simp;omega
     case c7=>simp
     intro g cap6 w6 hown hgrow hat hlt6;obtain ⟨r1,r2,r3⟩:=OX.push HOXO.out HQ.out HG.out HD.out HBW.out hw1 (by omega) hown hgrow hat
     rw [<- aW (jb HXK.out)] at r1;have K1:Hid (∃ css F',OX (kE mxE) w6 w1.heap.size 80 (some ⟨g,0,none⟩) (k+1) cap6 css ((net.map df).take (k+1)) F'):=⟨_,_,r1⟩;have K2:=Lib.hid r2;have K3:Hid (RI (kE smE) w6 (some ⟨b,off,none⟩) n c1 net F1):=(hri.out.below HBo.out).au fun g' hg'=>r3.block g' ((hri.out.below HBo.out).lt g' hg') (fun e=>by have:=(HOXO.out.aj g' e.symm).1;have:=HLT.out g' hg';omega)
     have hw6:w1.heap.size<=w6.heap.size:=by have:=r3.size;have:=HBo.out.size;omega
     clear r1 r2 r3 hown hgrow hat HOXO HQ HG HD HBW;go_wp2
     go_roundw
     case rel=>exact ⟨k+1,cap6,_,by omega,by go_num,rfl,K1,K3,K2,HV,Lib.hid (Or.inr (by omega)),hw6⟩
     case measure=>simp [intOf];omega
 ·obtain rfl:k=n:=by omega
  have HYES:Hid (k<=4->bu net=true):=fun h4=>uj (by rw [HLN.out];exact h4) (fun q l hq hl=>hval.out q l (by rw [<- HLN.out];exact hq) hl)
  have h4:k<=4:=by rcases hfour.out with h | h <;> omega
  obtain ⟨css,F',hox'⟩:=hox.out;have HB:=Lib.hid hob.out;have HJN:Hid (JN net w (.returned (.tuple #[.slice A' k cA,.bool true])) wo):=by
   have hy:=HYES.out h4;rw [List.take_of_length_le (by rw [List.length_map,HLN.out];exact Nat.le_refl _)] at hox'
   obtain ⟨F2,hr2,hf2⟩:=hox'.ri
   exact ⟨A',k,cA,F2,by rw [hy],by rw [eL hy];exact hr2,hf2.mono hw1,hob.out⟩
  clear hox' hox;go_wp2
  go_ret2
  exact HJN.out
end
def tB:Elt (List (Int×List (Mx×Mx))×Int) where
 s:=2
 P:=fun w cs x F=>∃ A c,cs=[.slice A x.1.length c,.int .i64 x.2]/\RI (kE smE) w A x.1.length c x.1 F
 len:=by rintro w cs x F ⟨A,c,rfl,_⟩;rfl
 au:=by rintro w w' cs x F ⟨A,c,rfl,h⟩ hk;exact ⟨A,c,rfl,h.au hk⟩
 lt:=by rintro w cs x F ⟨A,c,rfl,h⟩;exact h.lt
def svS (x:List (Int×List (Mx×Mx))×Int):Prop:=gG (kS smS) x.1
def sdB (n:Int):Bool:=decide (1<=n/\n<=2147483646)
def svB (x:List (Int×List (Mx×Mx))×Int):Bool:=bu x.1 && sdB x.2
theorem xP (n:Int) (w:World):Calls Tryz.prog 70 #[.int .i64 n] w fun e w'=>e= .returned (.bool (sdB n))/\w=w':=by
 by_cases h1:1<=n
 ·by_cases h2:n<=2147483646
  ·have e:sdB n=true:=decide_eq_true ⟨h1,h2⟩;rw [e];clear e
   go_enter Tryz.func70,Tryz.ntmps70
   go_wp2
   go_ret
   exact ⟨rfl,rfl⟩
  ·have e:sdB n=false:=decide_eq_false (fun h=>h2 h.2)
   rw [e];clear e
   go_enter Tryz.func70,Tryz.ntmps70
   go_wp2
   go_ret
   exact ⟨rfl,rfl⟩
 ·have e:sdB n=false:=decide_eq_false (fun h=>h1 h.1)
  rw [e];clear e
  go_enter Tryz.func70,Tryz.ntmps70
  go_wp2
  go_ret
  exact ⟨rfl,rfl⟩
theorem pJ (n:Int) (w:World):Calls Tryz.prog 53 #[.int .i64 n,.int .i64 1,.int .i64 2147483646] w fun e w'=>e= .returned (.bool (sdB n))/\w=w':=by
 by_cases h1:1<=n
 ·by_cases h2:n<=2147483646
  ·have e:sdB n=true:=decide_eq_true ⟨h1,h2⟩;rw [e];clear e
   go_enter Tryz.func53,Tryz.ntmps53
   go_wp2
   go_ret
   exact ⟨rfl,rfl⟩
  ·have e:sdB n=false:=decide_eq_false (fun h=>h2 h.2)
   rw [e];clear e
   go_enter Tryz.func53,Tryz.ntmps53
   go_wp2
   go_ret
   exact ⟨rfl,rfl⟩
 ·have e:sdB n=false:=decide_eq_false (fun h=>h1 h.1)
  rw [e];clear e
  go_enter Tryz.func53,Tryz.ntmps53
  go_wp2
  go_ret
  exact ⟨rfl,rfl⟩
theorem iM (W:World) (cs:List Value) (x:List (Int×List (Mx×Mx))×Int) (F:List Nat) (h:tB.P W cs x F) (hs:svS x):Calls Tryz.prog 29 #[.agg cs.toArray] W fun e w'=>e= .returned (.bool (svB x))/\Below W.heap.size W w':=by
 obtain ⟨A,c,rfl,h1⟩:=h;have HX:=Lib.hid h1;have HS:Hid (gG (kS smS) x.1):=hs;clear h1 hs
 go_enter Tryz.func29,Tryz.ntmps29
 go_wp2_with fail
 obtain ⟨u1,hu1⟩:∃ u,u=(W.alloc (.cells #[.slice A x.1.length c,.int .i64 x.2] 25)):=⟨_,rfl⟩;rw [<- hu1];have hzu1:u1.heap.size<=W.heap.size+1:=by rw [hu1];simp
 have hyu1:W.heap.size+1<=u1.heap.size:=by rw [hu1];simp
 have B1_1:Blk u1 (W.heap.size) 25 #[.slice A x.1.length c,.int .i64 x.2]:=by rw [hu1];have h:=(Blk.new W 25 #[.slice A x.1.length c,.int .i64 x.2]);simpa using h
 have xb1:W.heap.size<=W.heap.size:=by omega
 have O1:Below W.heap.size W u1:=by rw [hu1];exact ((Below.refl W.heap.size W).alloc (by first | omega | (simp;done) | (simp;omega)) _)
 have m1:W.heap.size<=u1.heap.size:=by omega
 clear hu1;have hjn:=gB A _ c x.1 F u1 (HX.out.below O1) HS.out;refine hjn.mono ?_;clear hjn;rintro e w2 ⟨A',n',c',F',rfl,-,-,hb⟩;have B2_1:=(B1_1.aa hb);have O2:=O1.trans (hb.mono (by omega))
 have m2:W.heap.size<=w2.heap.size:=by have:=hb.size;omega
 clear B1_1 O1 hb;have z2_1:W.heap.size<w2.heap.size:=B2_1.lt;have c2_1_0:w2.cell? ⟨W.heap.size,0,none⟩=some (.slice A x.1.length c):=B2_1.cell 0;have f2_1_0:w2.frozen? ⟨W.heap.size,0,none⟩=false:=B2_1.frozen 0;have c2_1_1:w2.cell? ⟨W.heap.size,1,none⟩=some (.int .i64 x.2):=B2_1.cell 1;have f2_1_1:w2.frozen? ⟨W.heap.size,1,none⟩=false:=B2_1.frozen 1
 cases hk:bu x.1
 ·have HE:Hid (svB x=false):=(show svB x=false by unfold svB;rw [hk];rfl)
  clear hk;go_wp2
  go_ret
  exact ⟨by first | exact HE.out | (rw [HE.out];rfl),O2⟩
 ·have HE:Hid (svB x=sdB x.2):=(show svB x=sdB x.2 by unfold svB;rw [hk];rfl)
  clear hk
  go_wp2_with fail
  refine (xP x.2 w2).mono ?_;rintro e w' ⟨rfl,rfl⟩;go_wp2
  go_ret
  exact ⟨by first | exact HE.out | (rw [HE.out];rfl) | rw [HE.out],O2⟩
theorem iS (W:World) (cs:List Value) (x:List (Int×List (Mx×Mx))×Int) (F:List Nat) (h:tB.P W cs x F) (hs:svS x):Calls Tryz.prog 12 #[.agg cs.toArray] W fun e w'=>e= .returned (.bool (svB x))/\Below W.heap.size W w':=by
 obtain ⟨A,c,rfl,h1⟩:=h;have HX:=Lib.hid h1;have HS:Hid (gG (kS smS) x.1):=hs;clear h1 hs
 go_enter Tryz.func12,Tryz.ntmps12
 go_wp2_with fail
 obtain ⟨u1,hu1⟩:∃ u,u=(W.alloc (.cells #[.slice A x.1.length c,.int .i64 x.2] 25)):=⟨_,rfl⟩;rw [<- hu1];have hzu1:u1.heap.size<=W.heap.size+1:=by rw [hu1];simp
 have hyu1:W.heap.size+1<=u1.heap.size:=by rw [hu1];simp
 have B1_1:Blk u1 (W.heap.size) 25 #[.slice A x.1.length c,.int .i64 x.2]:=by rw [hu1];have h:=(Blk.new W 25 #[.slice A x.1.length c,.int .i64 x.2]);simpa using h
 have xb1:W.heap.size<=W.heap.size:=by omega
 have O1:Below W.heap.size W u1:=by rw [hu1];exact ((Below.refl W.heap.size W).alloc (by first | omega | (simp;done) | (simp;omega)) _)
 have m1:W.heap.size<=u1.heap.size:=by omega
 clear hu1;have hjn:=je A _ c x.1 F u1 (HX.out.below O1) HS.out;refine hjn.mono ?_;clear hjn;rintro e w2 ⟨A',n',c',F',rfl,-,-,hb⟩;have B2_1:=(B1_1.aa hb);have O2:=O1.trans (hb.mono (by omega))
 have m2:W.heap.size<=w2.heap.size:=by have:=hb.size;omega
 clear B1_1 O1 hb;have z2_1:W.heap.size<w2.heap.size:=B2_1.lt;have c2_1_0:w2.cell? ⟨W.heap.size,0,none⟩=some (.slice A x.1.length c):=B2_1.cell 0;have f2_1_0:w2.frozen? ⟨W.heap.size,0,none⟩=false:=B2_1.frozen 0;have c2_1_1:w2.cell? ⟨W.heap.size,1,none⟩=some (.int .i64 x.2):=B2_1.cell 1;have f2_1_1:w2.frozen? ⟨W.heap.size,1,none⟩=false:=B2_1.frozen 1
 cases hk:bu x.1
 ·have HE:Hid (svB x=false):=(show svB x=false by unfold svB;rw [hk];rfl)
  clear hk;go_wp2
  go_ret
  exact ⟨by first | exact HE.out | (rw [HE.out];rfl),O2⟩
 ·have HE:Hid (svB x=sdB x.2):=(show svB x=sdB x.2 by unfold svB;rw [hk];rfl)
  clear hk
  go_wp2_with fail
  refine (pJ x.2 w2).mono ?_;rintro e w' ⟨rfl,rfl⟩;go_wp2
  go_ret
  exact ⟨by first | exact HE.out | (rw [HE.out];rfl) | rw [HE.out],O2⟩
section
attribute [local go_sem] af ah ae
def nm (r c:Int):Nat:=(r*c).toNat
def cT (r c s:Int):Mx:=⟨r,c,fl (rn s) (nm r c)⟩
def cH (m:Mx) (s:Int):(Mx×Mx)×Int:=if (mvB m && sdB s)=true then ((cT m.r m.c s,aE bC m (cT m.r m.c s)),sds s (nm m.r m.c)) else ((Mx.z,Mx.z),0)
theorem lS {m:Mx} {s:Int} (h1:mvB m=true) (h2:sdB s=true):cH m s=((cT m.r m.c s,aE bC m (cT m.r m.c s)),sds s (nm m.r m.c)):=by unfold cH;rw [h1,h2];rfl
theorem xk {m:Mx} {s:Int} (h:(mvB m && sdB s)=false):cH m s=((Mx.z,Mx.z),0):=by unfold cH;rw [h];rfl
theorem dH {s:Int} (h:sdB s=true):1<=s/\s<=2147483646:=of_decide_eq_true h
theorem zh {r c:Int} (h1:side r=true) (h2:side c=true):r*c=(nm r c:Int)/\1<=nm r c/\nm r c<=25:=by
 have:=e6 h1 h2;unfold nm
 omega
theorem cz (n:Int) {b:Bool} (h:sdB n=b) (w:World):Calls Tryz.prog 53 #[.int .i64 n,.int .i64 1,.int .i64 2147483646] w fun e w'=>e= .returned (.bool b)/\w=w':=by
 subst h
 exact pJ n w
def ij (m:Mx) (k:Int) (w:World) (e:Ending) (w':World):Prop:=∃ (A:Option Addr) (c:Nat),e= .returned (.tuple #[MV m.r m.c A m.v.length c,.int .i64 k])/\OS w' w.heap.size A m.v.length c m.v/\Below w.heap.size w w'
def Fh {α:Type} (E:Elt α) (x:α) (k:Int) (w:World) (e:Ending) (w':World):Prop:=∃ cs F,e= .returned (.tuple #[.agg cs.toArray,.int .i64 k])/\E.P w' cs x F/\Fr w' w.heap.size F/\Below w.heap.size w w'
def vB (p:Mx×Mx) (k:Int) (w:World) (e:Ending) (w':World):Prop:=∃ (A B:Option Addr) (c d:Nat),e= .returned (.tuple #[SMV p.1.r p.1.c A p.1.v.length c p.2.r p.2.c B p.2.v.length d,.int .i64 k])/\OS w' w.heap.size A p.1.v.length c p.1.v/\OS w' w.heap.size B p.2.v.length d p.2.v/\eJ A B/\Below w.heap.size w w'
theorem b9 {r c s:Int} (hr:side r=true) (hc:side c=true) (hs:sdB s=true) (w:World):Calls Tryz.prog 93 #[.int .i64 r,.int .i64 c,.int .i64 s] w (ij (cT r c s) (sds s (nm r c)) w):=by
 have hsd:=dH hs;obtain ⟨h1,h2,h3⟩:=zh hr hc;obtain ⟨n,hnm⟩:∃ n,n=nm r c:=⟨_,rfl⟩;rw [<- hnm] at h1 h2 h3;have HNM:=Lib.hid hnm;have hn:n<=4096:=by omega
 have hwN:IntKind.i64.wrap (r*c)=(n:Int):=by rw [h1];exact IntWalk.i64_in _ (by omega)
 clear hnm h1;refine zE ?_;intro u1 H;refine zP (cz s hs u1) ?_;clear H;intro u2 H;refine zP (aT r hr u2) ?_;clear H;intro u3 H;refine zP (aT c hc u3) ?_;clear H;intro u4 H;refine zO (kQ hsd n hn u4) ?_;clear H;intro w5 A ca u5 H;refine zS_ ?_;clear H;intro u6 H
 exact ⟨A,ca,by rw [HNM.out];simp [cT,aD,<- HNM.out],by simp only [cT,aD];rw [<- HNM.out];exact (H.o 0),H.O⟩
theorem e_ (W:World) (cs:List Value) (m:Mx) (F:List Nat) (h:mxE.P W cs m F) (hb:mS m) (s:Int):Calls Tryz.prog 45 #[.agg cs.toArray,.int .i64 s] W (vB (cH m s).1 (cH m s).2 W):=by
 obtain ⟨A,c,rfl,h1⟩:=h;have HX:=Lib.hid h1.1;clear h1;unfold mS at hb;have hmS:=hb;obtain ⟨w,rfl⟩:∃ w:World,w=W:=⟨_,rfl⟩;refine zE ?_;intro u1 H;refine zG (aQ m.r m.c m.v A _ c u1 (SI.below HX.out H.O) hmS) ?_;rintro e w2 ⟨Aa,ca,rfl,hos,hb⟩;replace H:=H.os hb hos;clear hos
 dsimp only at H ⊢
 refine zN ?_;clear H;intro u3 H;refine zG (aM m.r m.c m.v Aa _ ca u3 (OS.si (H.o 0)) (by omega)) ?_
 rintro e w4 ⟨rfl,hb⟩;replace H:=H.b hb
 cases g1:mvB ⟨m.r,m.c,m.v⟩
 ·have HE:Hid (cH m s=((Mx.z,Mx.z),0)):=xk (by have:mvB m=false:=g1;rw [this];rfl)
  refine zS_ ?_;clear H;intro u5 H
  exact (by rw [HE.out];exact ⟨none,none,0,0,rfl,OS.nil _ _,OS.nil _ _,fun g h=>by (cases h),H.O⟩)
 ·cases g2:sdB s
  ·refine zN ?_;clear H;intro u5 H;refine zP (cz s g2 u5) ?_;clear H;intro u6 H;have HE:Hid (cH m s=((Mx.z,Mx.z),0)):=xk (by rw [g2,Bool.and_false])
   refine zS_ ?_;clear H;intro u7 H
   exact (by rw [HE.out];exact ⟨none,none,0,0,rfl,OS.nil _ _,OS.nil _ _,fun g h=>by (cases h),H.O⟩)
  ·refine zN ?_;clear H;intro u5 H;refine zP (cz s g2 u5) ?_;clear H;intro u6 H;obtain ⟨hsr,hsc⟩:side m.r=true/\side m.c=true:=⟨(cZ (m:=m) g1).2.1,(cZ (m:=m) g1).2.2.1⟩;have HE:Hid (cH m s=((cT m.r m.c s,aE bC m (cT m.r m.c s)),sds s (nm m.r m.c))):=lS (m:=m) g1 g2;obtain ⟨R,hR⟩:∃ R,R=cT m.r m.c s:=⟨_,rfl⟩;obtain ⟨k,hk⟩:∃ k,k=sds s (nm m.r m.c):=⟨_,rfl⟩;have HRM:Hid (∀ u:World,Calls Tryz.prog 93 #[.int .i64 m.r,.int .i64 m.c,.int .i64 s] u (fun e w'=>∃ (A:Option Addr) (c:Nat),e= .returned (.tuple #[MV m.r m.c A R.v.length c,.int .i64 k])/\OS w' u.heap.size A R.v.length c R.v/\Below u.heap.size u w')):=by rw [hR,hk];exact fun u=>b9 hsr hsc g2 u
   have hRr:R.r=m.r/\R.c=m.c/\R.v.length<=25:=by rw [hR];exact ⟨rfl,rfl,by simp only [cT,aD];exact (zh hsr hsc).2.2⟩
   obtain ⟨hRr,hRc,hRl⟩:=hRr;rw [<- hR,<- hk] at HE;obtain ⟨D,hD⟩:∃ D,D=aE bC m R:=⟨_,rfl⟩;rw [<- hD] at HE;have HSB:Hid (∀ (u:World) (Ax:Option Addr) (cx:Nat) (Ay:Option Addr) (cy:Nat),SI u Ax m.v.length m.v->SI u Ay R.v.length R.v->Calls Tryz.prog 94 #[MV m.r m.c Ax m.v.length cx,MV m.r m.c Ay R.v.length cy] u (bD D u)):=fun u Ax cx Ay cy h1 h2=>by
    have h:=jx m.r m.c m.r m.c m.v R.v Ax Ay _ cx _ cy u h1 h2 hmS (by omega)
    rw [hD];have e:(⟨m.r,m.c,R.v⟩:Mx)=R:=by rw [<- hRr,<- hRc]
    rw [e] at h
    exact h
   clear hR hk hsr hsc g1 g2 hD;refine zO (HRM.out u6) ?_;clear H;intro w7 Ar cr u7 H;refine zX (tg [w7.heap.size,w.heap.size]) ?_;clear H;intro S w8 hne H;refine zD ((And.intro (H.c 0) (H.c 4))) ?_;intro G;refine yO (HSB.out w8 Aa ca Ar cr (OS.si (H.o 2)) (OS.si (H.o 1))) ?_;clear H;intro w9 Ad cd H;refine yS ?_;clear H;intro w10 H;refine yN ?_;clear H G;intro u11 H;refine zS_ ?_;clear H;intro u12 H
   exact (by rw [HE.out];exact ⟨Ar,Ad,cr,cd,by first | (rw [hRr,hRc];done) | (rw [hRr,hRc];rfl),(H.o 2),(H.o 0),fun g h1 h2=>H.noo 0 2 g h2 h1,H.O⟩)
theorem D9 (W:World) (cs:List Value) (m:Mx) (F:List Nat) (h:mxE.P W cs m F) (hb:mS m) (s:Int):Calls Tryz.prog 45 #[.agg cs.toArray,.int .i64 s] W (Fh smE (cH m s).1 (cH m s).2 W) :=
 (e_ W cs m F h hb s).mono fun e w' ⟨A,B,c,d,he,h1,h2,h3,hb⟩=>⟨[.int .i64 (cH m s).1.1.r,.int .i64 (cH m s).1.1.c,.slice A (cH m s).1.1.v.length c,.int .i64 (cH m s).1.2.r,.int .i64 (cH m s).1.2.c,.slice B (cH m s).1.2.v.length d],_,he,⟨A,c,B,d,_,_,rfl,MF.aB h1,MF.aB h2,rfl⟩,Fr.app (ek h1) (ek h2) (fun g a b=>h3 g (bz a).2 (bz b).2),hb⟩
end
end Go.Proofs.YtjciicheoghcdaaGreatDoor

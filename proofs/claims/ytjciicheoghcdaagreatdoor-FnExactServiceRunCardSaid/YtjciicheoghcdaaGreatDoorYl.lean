/- Part of the proof that the law FnExactServiceRun of the given program returns true for every input. -/
import Derived.BigRegion
import Derived.Deep.AppendLies
import Derived.Deep.DeepCutAuto
import Derived.Deep.RegionLaw
import Derived.Test.YtjciicheoghcdaaGreatDoorYf
import Derived.Test.YtjciicheoghcdaaGreatDoorYg
import Derived.Test.YtjciicheoghcdaaGreatDoorYj
namespace Go.Proofs.YtjciicheoghcdaaGreatDoor
open Go.RowKit
set_option linter.unusedSimpArgs false
set_option linter.unusedVariables false
set_option maxRecDepth 20000
set_option maxHeartbeats 16000000
section
attribute [local go_sem ↓] Go.wp_at_zero Go.wp_at_succ
theorem aZ.ofS {g:Nat} {A:Option Addr} {a b c:World} (h:aZ g a b) (k:bJ A b c) (hA:∀ g',blk A=some g'->a.heap.size<=g'):aZ g a c :=
 ⟨k.os.trans h.os,k.tape.trans h.tape,k.output.trans h.output,Nat.le_trans h.size k.size,fun i hi hne=>(k.block i (Nat.lt_of_lt_of_le hi h.size) (fun e=>by have:=hA i e.symm;omega)).trans (h.block i hi hne)⟩
def KI (wo:World) (base gj n:Nat) (kd:Int) (pre rest:List Value) (ps:List (Mx×Mx)) (wi:World) (j:Nat) (A:Option Addr) (c:Nat):Prop :=
 VO wi base 80 2 (some ⟨gj,0,none⟩) n n (pre++([.int .i64 kd] ++ .slice A j c::rest))/\(∃ css F,OX mxE wi wo.heap.size 37 A j c css ((ps.map aq).take j) F)/\aZ gj wo wi
def KA (wo:World) (base gj n:Nat) (kd:Int) (pre rest:List Value) (ps:List (Mx×Mx)) (wi:World) (j:Nat) (A:Option Addr) (c g cap:Nat):Prop :=
 VO wi base 80 2 (some ⟨gj,0,none⟩) n n (pre++([.int .i64 kd] ++ .slice A j c::rest))/\(∃ css F,OX mxE wi wo.heap.size 37 (some ⟨g,0,none⟩) (j+1) cap css ((ps.map aq).take (j+1)) F)/\aZ gj wo wi
section
variable {wo wi wJ w1:World} {kd:Int} {ps:List (Mx×Mx)} {j c g cap cp base gj n:Nat} {A Ap:Option Addr} {p:Mx×Mx} {o:Obj} {css:List (List Value)} {F:List Nat} {pre rest:List Value}
theorem KI.start {u:Value} (h:VO wo base 80 2 (some ⟨gj,0,none⟩) n n (pre++(u :: .slice none 0 0::rest))) (o:Obj) (hi:n+n=n*2) {i:Nat} (hpre:i=pre.length) :
  KI wo base gj n kd pre rest ps ((wo.setCell ⟨gj,i,none⟩ (.int .i64 kd)).alloc o) 0 none 0:=by
 refine ⟨?_,⟨[],[],OX.nil _ _ _⟩,((aZ.refl gj wo).setCell (.inl rfl) _).alloc o⟩;have:=FX.put (E:=kE mxE) (a:=[]) (pre:=pre) (u:=u) (b:= .slice none 0 0::rest) h (j:=i) (by simp [hpre]) (.int .i64 kd)
 exact this.alloc o
theorem KI.app (hv:VO wi base 80 2 (some ⟨gj,0,none⟩) n n (pre++([.int .i64 kd] ++ .slice A j c::rest))) (hox:OX mxE wi wo.heap.size 37 A j c css ((ps.map aq).take j) F) (h3:aZ gj wo wi) (hgj:gj<wo.heap.size) (hb:Below wi.heap.size wi wJ)
  (hp:ps[j]?=some p) (hos:OS wJ wi.heap.size Ap (aq p).v.length cp (aq p).v)
  (hown:w1.ownsRow wo.heap.size 37 mxE.s (.slice (some ⟨g,0,none⟩) (j+1) cap) (j+1) (css.flatten++[.int .i64 (aq p).r,.int .i64 (aq p).c,.slice Ap (aq p).v.length cp]))
  (hg:(wJ.alloc o).grownBy w1 (Value.slice A j c).ownBlock) (hat:(Value.slice A j c).ownBlock=some g\/g=wJ.heap.size+1):KA wo base gj n kd pre rest ps w1 j A c g cap:=by
 have hwi:=h3.size;have hsz:=hb.size;have hf:Fr wJ wo.heap.size (fpI Ap (aq p).v.length):=(ek hos).mono (by omega)
 have hd:∀ g',g'∈fpI Ap (aq p).v.length->g'∉F/\blk A≠some g':=fun g' hg'=>by
  have:=((ek hos).2 g' hg').1
  exact ⟨fun h=>by have:=hox.lt g' h;omega,fun h=>by have:=(hox.aj g' h).2;omega⟩
 obtain ⟨k1,_,k3⟩:=OX.push (hox.below hb) (x:=aq p) ⟨Ap,cp,rfl,MF.aB hos⟩ hf hd (Below.refl wo.heap.size wJ) (Nat.le_refl _) (by omega) hown hg hat
 rw [<- aW (jb hp)] at k1;refine ⟨(hv.below hb).bR k3 (fun g' hg' hA=> ?_),⟨_,_,k1⟩,(h3.below hb).ofS k3 (fun g' hg'=>(hox.aj g' hg').1)⟩
 have e:gj=g':=by simpa [blk] using hg'
 have:=(hox.aj g' hA).1
 omega
theorem KA.next (h:KA wo base gj n kd pre rest ps wi j A c g cap) (hgj:gj<wo.heap.size) {i:Nat} (hi:i=pre.length+1):KI wo base gj n kd pre rest ps (wi.setCell ⟨gj,i,none⟩ (.slice (some ⟨g,0,none⟩) (j+1) cap)) (j+1) (some ⟨g,0,none⟩) cap:=by
 obtain ⟨h1,⟨css,F,h2⟩,h3⟩:=h
 exact ⟨FX.put (E:=kE mxE) h1 (by simpa using hi) _,⟨css,F,h2.lX (by dsimp only;omega) _⟩,h3.setCell (.inl rfl) _⟩
end
theorem gB (A:Option Addr) (n cap:Nat) (net:List (Int×List (Mx×Mx))) (F:List Nat) (w:World) (hx:RI (kE smE) w A n cap net F) (hs:gG (kS smS) net) :
  Calls Tryz.prog 14 #[.slice A n cap] w (JN net w):=by
 obtain ⟨i0,hi,hz0,hz1,hz2⟩:=info_parts rI;have HLN:=Lib.hid hx.1;have HS:=Lib.hid hs.2;have HX:=Lib.hid hx;clear hx hs
 by_cases n4:4<n
 ·have HNO:Hid (bu net=false):=Eo (by rw [HLN.out];exact n4)
  have t4:(4:Int)<(n:Int):=by omega
  go_enter Tryz.func14,Tryz.ntmps14
  go_wp2
  go_ret2
  have:=JN.no (w':=w) (A:=none) HNO.out (Below.refl w.heap.size w);rw [HNO.out] at this
  exact this
 have t4:(n:Int)<=4:=by omega
 have hmk:=fun W:World=>CG n (by omega) W
 have H0:Hid (∃ css F',FX (kE mxE) (w.alloc (.cells (madeCells ZL (n*ZL.size)) 80)) w.heap.size 80 w.heap.size n css (List.replicate (n-0) ZL.toList).flatten ((net.map df).take 0) F'):=⟨_,_,FX.made w _ ZL (by decide) rfl n (by unfold maxLen;omega)⟩
 have B0:Hid (Below w.heap.size w (w.alloc (.cells (madeCells ZL (n*ZL.size)) 80))):=(Below.refl _ _).alloc (Nat.le_refl _) _;obtain ⟨O,hO⟩:∃ O,O=(Obj.cells (madeCells ZL (n*ZL.size)) 80):=⟨_,rfl⟩;rw [<- hO] at H0 B0 hmk;clear hO
 go_enter Tryz.func14,Tryz.ntmps14
 go_wp2
 go_loopw [17] (fun i wr=>∃ k:Nat,k<=n/\i= .int .i64 k/\Hid (∃ css F',FX (kE mxE) wr w.heap.size 80 w.heap.size n css (List.replicate (n-k) ZL.toList).flatten ((net.map df).take k) F')/\Hid (Below w.heap.size w wr)/\Hid (∀ q l,q<k->net[q]?=some l->aL l.1 (l.2.map aq)=true)) (fun i _=>n-(intOf i).toNat)
 case atStart=>exact ⟨0,Nat.zero_le _,rfl,H0,B0,fun q l hq=>absurd hq (by omega)⟩
 case round =>
 obtain ⟨k,hk,rfl,hfx,hob,hval⟩:=hrel;clear H0 B0 hmk;obtain ⟨wo,rfl⟩:∃ u:World,u=wr:=⟨_,rfl⟩
 by_cases hlt:k<n
 ·obtain ⟨x,hxk,hmem⟩:=aH (xs:=net) (j:=k) (by have:=HLN.out;omega)
  have HXK:=Lib.hid hxk;obtain ⟨hsm,hsx⟩:=HS.out x hmem;have HSX:=Lib.hid hsx;have hwo:w.heap.size<=wo.heap.size:=hob.out.size;obtain ⟨b,off,cs,Fx,rfl,hbl,hc,_,Aw,cw,rfl,hrw⟩:=HX.out.cells hxk 2 rfl;obtain ⟨m,hm⟩:∃ m,m=x.2.length:=⟨_,rfl⟩;rw [<- hm] at hc hrw hsm;have HM:=Lib.hid hm;have d0:wo.cell? ⟨b,off+k*2,none⟩=some (.int .i64 x.1):=(hob.out.cell (p:=⟨b,off+k*2,none⟩) hbl).trans (hc 0 (by omega))
  have d1:wo.cell? ⟨b,off+k*2+1,none⟩=some (.slice Aw m cw):=(hob.out.cell (p:=⟨b,off+k*2+1,none⟩) hbl).trans (hc 1 (by omega))
  have HRW:=Lib.hid hrw;have k0:(0:Int)<=(k:Int):=by omega
  have k1:(k:Int)<(n:Int):=by omega
  obtain ⟨css,FO,hF⟩:=hfx.out;have hgl:w.heap.size<wo.heap.size:=hF.glt.2;have hnk:(List.replicate (n-k) ZL.toList).flatten= .int .i64 0 :: .slice none 0 0::(List.replicate (n-(k+1)) ZL.toList).flatten:=by
   rw [show n-k=(n-(k+1))+1 by omega,List.replicate_succ,List.flatten_cons]
   rfl
  rw [hnk] at hF;have hpl:css.flatten.length=k*2:=by
   rw [dS hF.2.1,List.length_take,List.length_map,HLN.out,Nat.min_eq_left (by omega)]
   rfl
  have HPL:=Lib.hid hpl;have HFO:=Lib.hid hF;obtain ⟨pre,hpre⟩:∃ pre,pre=css.flatten:=⟨_,rfl⟩;obtain ⟨rest,hrest⟩:∃ rest,rest=(List.replicate (n-(k+1)) ZL.toList).flatten:=⟨_,rfl⟩;have hv:=hF.1;rw [<- hpre,<- hrest] at hv;rw [<- hpre] at HPL;have HPRE:=Lib.hid hpre;have HREST:=Lib.hid hrest;have hv0:wo.cell? ⟨w.heap.size,k*2,none⟩=some (.int .i64 0):=eG (a:=[]) hv (by rw [HPL.out];rfl)
  have hf0:wo.frozen? ⟨w.heap.size,k*2,none⟩=false:=hv.frozen _;have J0:Hid (KI wo w.heap.size w.heap.size n x.1 pre rest x.2 ((wo.setCell ⟨w.heap.size,k*2,none⟩ (.int .i64 x.1)).alloc (.cells #[.int .i64 x.1,.slice Aw m cw] 99)) 0 none 0):=KI.start hv _ (by omega) (by rw [HPL.out])
  clear hc hxk hmem hm hrw hsx hF hnk hpl hpre hrest hv hfx;go_wp2;clear hv0 hf0
  go_loopw [31] (fun i wr=>∃ (j c':Nat) (A'':Option Addr),j<=m/\i= .int .i64 j/\Hid (KI wo w.heap.size w.heap.size n x.1 pre rest x.2 wr j A'' c')) (fun i _=>m-(intOf i).toNat)
  case atStart=>exact ⟨0,0,none,Nat.zero_le _,rfl,J0⟩
  case round =>
  obtain ⟨j,cI,AI,hj,rfl,hji⟩:=hrel;clear J0;have hsz:wo.heap.size<=wr.heap.size:=hji.out.2.2.size;have zl:w.heap.size<wr.heap.size:=by omega
  have HBW:Hid (Below w.heap.size w wr):=hob.out.trans (hji.out.2.2.toBelow (Nat.le_refl _) (by omega))
  by_cases hjm:j<m
  ·obtain ⟨p,hpj,hpm⟩:=aH (xs:=x.2) (j:=j) (by have:=HM.out;omega)
   have HPJ:=Lib.hid hpj;obtain ⟨hs1,hs2⟩:=HSX.out p hpm;obtain ⟨b2,off2,cs,Fp,rfl,hbl2,hc,_,P1,q1,P2,q2,Fa,Fb,rfl,hp1,hp2,_⟩:=(HRW.out.below HBW.out).cells hpj 6 rfl;have a0:wr.cell? ⟨b2,off2+j*6,none⟩=some (.int .i64 p.1.r):=hc 0 (by omega)
   have a1:wr.cell? ⟨b2,off2+j*6+1,none⟩=some (.int .i64 p.1.c):=hc 1 (by omega)
   have a2:wr.cell? ⟨b2,off2+j*6+2,none⟩=some (.slice P1 p.1.v.length q1):=hc 2 (by omega)
   have a3:wr.cell? ⟨b2,off2+j*6+3,none⟩=some (.int .i64 p.2.r):=hc 3 (by omega)
   have a4:wr.cell? ⟨b2,off2+j*6+4,none⟩=some (.int .i64 p.2.c):=hc 4 (by omega)
   have a5:wr.cell? ⟨b2,off2+j*6+5,none⟩=some (.slice P2 p.2.v.length q2):=hc 5 (by omega)
   have j0:(0:Int)<=(j:Int):=by omega
   have j1:(j:Int)<(m:Int):=by omega
   have HJN:Hid (∀ W:World,Below wr.heap.size wr W->Calls Tryz.prog 55 #[SMV p.1.r p.1.c P1 p.1.v.length q1 p.2.r p.2.c P2 p.2.v.length q2] W (bD (aq p) W)):=fun W hW=>j_ p.1.r p.1.c p.2.r p.2.c p.1.v p.2.v P1 P2 _ q1 _ q2 W (hp1.1.below hW) (hp2.1.below hW) hs1 hs2
   clear hc hpj hpm hp1 hp2 hs1 hs2;obtain ⟨hV,⟨cssI,FI,hoxI⟩,hOn⟩:=hji.out;have cj:wr.cell? ⟨w.heap.size,k*2+1,none⟩=some (.slice AI j cI):=eG (a:=[.int .i64 x.1]) hV (by rw [HPL.out];rfl)
   have HV:=Lib.hid hV;have HOXI:=Lib.hid hoxI;have HON:=Lib.hid hOn;have hcs:=hoxI.dC;clear hV hoxI hOn;obtain ⟨mj,hmj⟩:∃ mj,mj=aq p:=⟨_,rfl⟩;rw [<- hmj] at HJN;have HMJ:=Lib.hid hmj;clear hmj;have H1:Hid (∀ (Ap:Option Addr) (cp:Nat),∀ u∈[Value.int .i64 mj.r,Value.int .i64 mj.c,Value.slice Ap mj.v.length cp],u.oneCell'=true):=by
    intro Ap cp u hu;simp at hu;rcases hu with rfl | rfl | rfl <;> rfl
   have H2:Hid (j+1<=maxLen):=by unfold maxLen;show j+1<=_;omega
   have H3:Hid ((j+1)*40<=140737488355328):=by show (j+1)*40<=_;omega
   go_wp2_with fail
   obtain ⟨wm,hwm⟩:∃ u,u=(wr.alloc (.cells #[.int .i64 p.1.r,.int .i64 p.1.c,.slice P1 p.1.v.length q1,.int .i64 p.2.r,.int .i64 p.2.c,.slice P2 p.2.v.length q2] 82)):=⟨_,rfl⟩;rw [<- hwm];have hbm:Below wr.heap.size wr wm:=by rw [hwm];exact (Below.refl _ _).alloc (Nat.le_refl _) _
   have hkm:Blk wm wr.heap.size 82 #[.int .i64 p.1.r,.int .i64 p.1.c,.slice P1 p.1.v.length q1,.int .i64 p.2.r,.int .i64 p.2.c,.slice P2 p.2.v.length q2]:=by rw [hwm];exact Blk.new _ _ _
   clear hwm a0 a1 a2 a3 a4 a5;have b0:wm.cell? ⟨wr.heap.size,0,none⟩=some (.int .i64 p.1.r):=hkm.cell 0;have b1:wm.cell? ⟨wr.heap.size,1,none⟩=some (.int .i64 p.1.c):=hkm.cell 1;have b2':wm.cell? ⟨wr.heap.size,2,none⟩=some (.slice P1 p.1.v.length q1):=hkm.cell 2;have b3:wm.cell? ⟨wr.heap.size,3,none⟩=some (.int .i64 p.2.r):=hkm.cell 3;have b4:wm.cell? ⟨wr.heap.size,4,none⟩=some (.int .i64 p.2.c):=hkm.cell 4;have b5:wm.cell? ⟨wr.heap.size,5,none⟩=some (.slice P2 p.2.v.length q2):=hkm.cell 5;have zm:wr.heap.size<wm.heap.size:=hkm.lt;have cjm:wm.cell? ⟨w.heap.size,k*2+1,none⟩=some (.slice AI j cI):=(hbm.cell (p:=⟨w.heap.size,k*2+1,none⟩) zl).trans cj;have HBM:=Lib.hid hbm;clear hkm cj hbm
   first
    | go_region_law (first
      | (refine step_append_lies _ (by rfl) _ _ _ (by rfl) wo.heap.size 37 i0 (.agg #[.int .i64 0,.int .i64 0,.slice none 0 0]) 3 40 Tryz.underlying69 hi hz0 hz1 hz2 rfl (by omega) (.slice AI j cI) j _ (by rfl) (World.ownsRow.alloc (HOXI.out.below HBJ.out).1 _) ⟨wJ.heap.size,0,none⟩ 1 1 [.int .i64 mj.r,.int .i64 mj.c,.slice Ap mj.v.length cp] (by rfl) rfl (fun jj u h=>dz _ _ _ jj u h) (H1.out Ap cp) (by omega) H2.out H3.out (by simp;omega) (wJ.heap.size+1) (by simp) ?_;intro g cap5 w5 hown hgrow hat hlt5;rw [HMJ.out] at hown;have HA:=Lib.hid (KI.app HV.out HOXI.out HON.out hgl HBJ.out HPJ.out HOS.out hown hgrow hat);clear hown hgrow hat;have kT:w5.cell? ⟨w.heap.size,k*2+1,none⟩=some (.slice AI j cI):=eG (a:=[.int .i64 x.1]) HA.out.1 (by rw [HPL.out];rfl);have fT:w5.frozen? ⟨w.heap.size,k*2+1,none⟩=false:=HA.out.1.frozen _)
      | (go_simp;go_at_call 55;(with_reducible refine (HJN.out _ (by first | exact HBM.out | exact HBM.out.drew)).mono ?_);rintro e wJ ⟨Ap,cp,rfl,hos,hb⟩;have hbm':Below wm.heap.size wm wJ:=bp hb (by first | exact Nat.le_refl _ | simp) (by first | exact Below.refl _ _ | exact (Below.refl _ _).drew);have hbJ:Below wr.heap.size wr wJ:=HBM.out.trans (hbm'.mono HBM.out.size);have HBJ:=Lib.hid hbJ;have HOS:Hid (OS wJ wr.heap.size Ap (aq p).v.length cp (aq p).v):=(by rw [<- HMJ.out];exact hos.mono (by first | exact HBM.out.size | (simp;exact HBM.out.size)));have g1:wJ.cell? ⟨w.heap.size,k*2+1,none⟩=some (.slice AI j cI):=(hbJ.cell (p:=⟨w.heap.size,k*2+1,none⟩) zl).trans (eG (a:=[.int .i64 x.1]) HV.out (by rw [HPL.out];rfl));have gs:=hbJ.size;have gz:w.heap.size<wJ.heap.size:=(by omega);clear hos hb hbJ hbm')
      | fail)
    | fail
   all_goals
    go_wp2
    go_roundw
    case rel=>exact ⟨j+1,cap5,some ⟨g,0,none⟩,by omega,by go_num,Lib.hid (KA.next HA.out hgl (by rw [HPL.out]))⟩
    case measure=>simp [intOf];omega
  ·obtain rfl:j=m:=by omega
   obtain ⟨hV,⟨cssI,FI,hoxI⟩,hOn⟩:=hji.out;rw [List.take_of_length_le (by rw [List.length_map,HM.out];exact Nat.le_refl _)] at hoxI
   obtain ⟨F2,hr2,hf2⟩:=hoxI.ri;have q0:wr.cell? ⟨w.heap.size,k*2,none⟩=some (.int .i64 x.1):=eG (a:=[]) hV (by rw [HPL.out];rfl)
   have q1:wr.cell? ⟨w.heap.size,k*2+1,none⟩=some (.slice AI j cI):=eG (a:=[.int .i64 x.1]) hV (by rw [HPL.out];rfl)
   have HV:=Lib.hid hV;have HON:=Lib.hid hOn;have HR2:=Lib.hid hr2;have HF2:=Lib.hid hf2;clear hV hoxI hOn hr2 hf2 hji
   go_wp2_with fail
   refine (Ec x.1 AI j cI (x.2.map aq) F2 wr HR2.out jJ hsm).mono ?_;rintro e w5 ⟨rfl,hb5⟩;have HB5:=Lib.hid hb5;have HBW5:Hid (Below w.heap.size w w5):=HBW.out.trans (hb5.mono (by omega))
   clear hb5
   cases hl:aL x.1 (x.2.map aq)
   ·have HNO:Hid (bu net=false):=wH HXK.out hl;clear hl;go_wp2
    go_ret2
    have:=JN.no (A:=none) HNO.out HBW5.out;rw [HNO.out] at this
    exact this
   ·have HVV:Hid (∀ q l,q<k+1->net[q]?=some l->aL l.1 (l.2.map aq)=true):=by
     intro q l hq hl'
     by_cases hqk:q<k
     ·exact hval.out q l hqk hl'
     ·obtain rfl:q=k:=by omega
      rw [HXK.out] at hl';injection hl' with hl';subst hl'
      exact hl
    have hQ:(kE mxE).P w5 [.int .i64 x.1,.slice AI j cI] (df x) F2:=⟨AI,cI,by simp [df,HM.out],by have:=HR2.out.below HB5.out;simpa [df,HM.out] using this⟩
    have K1:Hid (∃ css F',FX (kE mxE) w5 w.heap.size 80 w.heap.size n css (List.replicate (n-(k+1)) ZL.toList).flatten ((net.map df).take (k+1)) F'):=by
     have hF:=HFO.out;have hfO:∀ g',g'∈FO->w5.heap[g']?=wo.heap[g']?:=fun g' hg'=>(HB5.out.block g' (by have:=hF.2.1.lt g' hg';omega)).trans (HON.out.block g' (hF.2.1.lt g' hg') (fun e=>hF.2.2.2 (by injection e with e;rw [<- e];exact hg')))
     have hv5:=HV.out.below HB5.out;rw [HPRE.out,HREST.out] at hv5;have:=FX.step (E:=kE mxE) (css:=css) (g:=w.heap.size) (ys:=[.int .i64 x.1,.slice AI j cI]) hv5 hF.2.1 hF.2.2.1 hF.2.2.2 hfO hQ ((HF2.out.below HB5.out).mono hwo)
      (fun g' hg'=>⟨fun h=>by have:=hF.2.1.lt g' h;have:=(HF2.out.2 g' hg').1;omega,fun h=>by have:=(HF2.out.2 g' hg').1;omega⟩)
     rw [<- aW (jb HXK.out)] at this
     exact ⟨_,_,this⟩
    clear hl hQ hval;go_wp2
    go_roundw
    case rel=>exact ⟨k+1,by omega,by go_num,K1,HBW5,HVV⟩
    case measure=>simp [intOf];omega
 ·obtain rfl:k=n:=by omega
  have hy:bu net=true:=uj (by rw [HLN.out];omega) (fun q l hq hl=>hval.out q l (by rw [<- HLN.out];exact hq) hl)
  have HJN:Hid (JN net w (.returned (.tuple #[.slice (some ⟨w.heap.size,0,none⟩) k k,.bool true])) wo):=by
   obtain ⟨css,F',hF⟩:=hfx.out;rw [Nat.sub_self,List.take_of_length_le (by rw [List.length_map,HLN.out];exact Nat.le_refl _)] at hF
   obtain ⟨F2,hr2,hf2⟩:=FX.ri hF (by rw [List.length_map,HLN.out])
   exact ⟨some ⟨w.heap.size,0,none⟩,k,k,F2,by rw [hy],by rw [eL hy];exact hr2,hf2,hob.out⟩
  clear hy hfx;go_wp2
  go_ret2
  exact HJN.out
end
section
attribute [local go_sem ↓] Go.wp_at_zero Go.wp_at_succ
theorem je (A:Option Addr) (n cap:Nat) (net:List (Int×List (Mx×Mx))) (F:List Nat) (w:World) (hx:RI (kE smE) w A n cap net F) (hs:gG (kS smS) net) :
  Calls Tryz.prog 43 #[.slice A n cap] w (JN net w):=by
 obtain ⟨i0,hi,hz0,hz1,hz2⟩:=info_parts rI;obtain ⟨i2,hi2,hy0,hy1,hy2⟩:=info_parts we;have bn:n<=1048576:=by rw [<- hx.1];exact hs.1
 have HLN:=Lib.hid hx.1;have HS:=Lib.hid hs.2;have hcall:Calls Tryz.prog 85 #[.slice A n cap] w (fun e w'=>∃ A1 c1 F1,e= .returned (.slice A1 n c1)/\RI (kE smE) w' A1 n c1 net F1/\Below w.heap.size w w'):=by
  refine (bW A n cap net F w hx bn hs.2).mono ?_;rintro e w' ⟨A1,c1,F1,he,h1,_,h3⟩;rw [hx.1] at he h1
  exact ⟨A1,c1,F1,he,h1,h3⟩
 have HCALL:=Lib.hid hcall;clear hcall hx hs
 go_enter Tryz.func43,Tryz.ntmps43
 go_wp2_with fail
 refine HCALL.out.mono ?_;rintro e w1 ⟨A1,c1,F1,rfl,hri,hb⟩;have H0:Hid (∃ css F',OX (kE mxE) (w1.alloc (.cells #[] 80)) w1.heap.size 80 (some ⟨w1.heap.size,0,none⟩) 0 0 css ((net.map df).take 0) F'):=⟨_,_,OX.kG w1 (Nat.le_refl _) _⟩;have HLT:Hid (∀ g,g∈F1->g<w1.heap.size):=hri.lt;have hw1:w.heap.size<=w1.heap.size:=hb.size;have HU0:w1.heap.size<=(w1.alloc (.cells #[] 80)).heap.size:=by simp
 have R0:Hid (RI (kE smE) (w1.alloc (.cells #[] 80)) A1 n c1 net F1):=hri.alloc _;have B0:Hid (Below w.heap.size w (w1.alloc (.cells #[] 80))):=hb.alloc hb.size _;clear hri hb HCALL;go_wp2
 go_loopw [4,5] (fun v i wr=>∃ (k c':Nat) (A':Option Addr),k<=n/\i= .int .i64 k/\v= .slice A' k c'/\Hid (∃ css F',OX (kE mxE) wr w1.heap.size 80 A' k c' css ((net.map df).take k) F')/\Hid (RI (kE smE) wr A1 n c1 net F1)/\Hid (Below w.heap.size w wr)/\Hid (∀ q l,q<k->net[q]?=some l->aL l.1 (l.2.map aq)=true)/\Hid (k=0\/n<=4)/\w1.heap.size<=wr.heap.size) (fun _ i _=>n-(intOf i).toNat)
 case atStart=>exact ⟨0,0,_,Nat.zero_le _,rfl,rfl,H0,R0,B0,fun q l hq=>absurd hq (by omega),Or.inl rfl,HU0⟩
 case round =>
 obtain ⟨k,cA,A',hk,rfl,rfl,hox,hri,hob,hval,hfour,hw1o⟩:=hrel;clear H0 R0 B0 HU0;obtain ⟨wo,rfl⟩:∃ u:World,u=wr:=⟨_,rfl⟩
 by_cases hlt:k<n
 ·obtain ⟨x,hxk,hmem⟩:=aH (xs:=net) (j:=k) (by have:=HLN.out;omega)
  have HXK:=Lib.hid hxk;obtain ⟨hsm,hsx⟩:=HS.out x hmem;have HSX:=Lib.hid hsx;have hwo:w.heap.size<=wo.heap.size:=hob.out.size;obtain ⟨b,off,cs,Fx,rfl,hbl,hc,_,Aw,cw,rfl,hrw⟩:=hri.out.cells hxk 2 rfl;obtain ⟨m,hm⟩:∃ m,m=x.2.length:=⟨_,rfl⟩;rw [<- hm] at hc hrw hsm;have HM:=Lib.hid hm;have d0:wo.cell? ⟨b,off+k*2,none⟩=some (.int .i64 x.1):=hc 0 (by omega)
  have d1:wo.cell? ⟨b,off+k*2+1,none⟩=some (.slice Aw m cw):=hc 1 (by omega)
  have HRW:=Lib.hid hrw;have k0:(0:Int)<=(k:Int):=by omega
  have k1:(k:Int)<(n:Int):=by omega
  have J0:Hid (JI wo x.1 x.2 (wo.alloc (.cells #[.int .i64 x.1,.slice none 0 0] 80)) 0 none 0):=JI.start wo x.1 x.2;clear hc hxk hmem hm hrw hsx;go_wp2
  go_loopw [7] (fun i wr=>∃ (j c':Nat) (A'':Option Addr),j<=m/\i= .int .i64 j/\Hid (JI wo x.1 x.2 wr j A'' c')) (fun i _=>m-(intOf i).toNat)
  case atStart=>exact ⟨0,0,none,Nat.zero_le _,rfl,J0⟩
  case round =>
  obtain ⟨j,cI,AI,hj,rfl,hji⟩:=hrel;clear J0;have cl0:wr.cell? ⟨wo.heap.size,0,none⟩=some (.int .i64 x.1):=hji.out.1.cell 0;have cl1:wr.cell? ⟨wo.heap.size,1,none⟩=some (.slice AI j cI):=hji.out.1.cell 1;have zl:wo.heap.size<wr.heap.size:=hji.out.1.lt;have zb:b<wr.heap.size:=by omega
  have e1:wr.cell? ⟨b,off+k*2+1,none⟩=some (.slice Aw m cw):=(hji.out.2.2.cell (p:=⟨b,off+k*2+1,none⟩) hbl).trans d1
  by_cases hjm:j<m
  ·obtain ⟨p,hpj,hpm⟩:=aH (xs:=x.2) (j:=j) (by have:=HM.out;omega)
   have HPJ:=Lib.hid hpj;obtain ⟨hs1,hs2⟩:=HSX.out p hpm;obtain ⟨b2,off2,cs,Fp,rfl,hbl2,hc,_,P1,q1,P2,q2,Fa,Fb,rfl,hp1,hp2,_⟩:=(HRW.out.below hji.out.2.2).cells hpj 6 rfl;have a0:wr.cell? ⟨b2,off2+j*6,none⟩=some (.int .i64 p.1.r):=hc 0 (by omega)
   have a1:wr.cell? ⟨b2,off2+j*6+1,none⟩=some (.int .i64 p.1.c):=hc 1 (by omega)
   have a2:wr.cell? ⟨b2,off2+j*6+2,none⟩=some (.slice P1 p.1.v.length q1):=hc 2 (by omega)
   have a3:wr.cell? ⟨b2,off2+j*6+3,none⟩=some (.int .i64 p.2.r):=hc 3 (by omega)
   have a4:wr.cell? ⟨b2,off2+j*6+4,none⟩=some (.int .i64 p.2.c):=hc 4 (by omega)
   have a5:wr.cell? ⟨b2,off2+j*6+5,none⟩=some (.slice P2 p.2.v.length q2):=hc 5 (by omega)
   have j0:(0:Int)<=(j:Int):=by omega
   have j1:(j:Int)<(m:Int):=by omega
   have HJN:Hid (∀ W:World,Below wr.heap.size wr W->Calls Tryz.prog 48 #[SMV p.1.r p.1.c P1 p.1.v.length q1 p.2.r p.2.c P2 p.2.v.length q2] W (bD (aq p) W)):=fun W hW=>kL p.1.r p.1.c p.2.r p.2.c p.1.v p.2.v P1 P2 _ q1 _ q2 W (hp1.1.below hW) (hp2.1.below hW) hs1 hs2
   clear hc hpj hpm hp1 hp2 hs1 hs2;obtain ⟨hB1,⟨css,FI,hoxI⟩,hB3⟩:=hji.out;have HB1:=Lib.hid hB1;have HOXI:=Lib.hid hoxI;have HB3:=Lib.hid hB3;have hcs:=hoxI.dC;clear hB1 hoxI hB3;obtain ⟨mj,hmj⟩:∃ mj,mj=aq p:=⟨_,rfl⟩;rw [<- hmj] at HJN;have HMJ:=Lib.hid hmj;clear hmj;have H1:Hid (∀ (Ap:Option Addr) (cp:Nat),∀ u∈[Value.int .i64 mj.r,Value.int .i64 mj.c,Value.slice Ap mj.v.length cp],u.oneCell'=true):=by
    intro Ap cp u hu;simp at hu;rcases hu with rfl | rfl | rfl <;> rfl
   have H2:Hid (j+1<=maxLen):=by unfold maxLen;show j+1<=_;omega
   have H3:Hid ((j+1)*40<=140737488355328):=by show (j+1)*40<=_;omega
   go_upto_region 10 with fail
   first
    | go_region_law (first
      | (refine step_append_lies _ (by rfl) _ _ _ (by rfl) (wo.heap.size+1) 37 i0 (.agg #[.int .i64 0,.int .i64 0,.slice none 0 0]) 3 40 Tryz.underlying69 hi hz0 hz1 hz2 rfl (by omega) (.slice AI j cI) j _ (by rfl) (World.ownsRow.alloc (HOXI.out.below HBJ.out).1 _) ⟨wJ.heap.size,0,none⟩ 1 1 [.int .i64 mj.r,.int .i64 mj.c,.slice Ap mj.v.length cp] (by rfl) rfl (fun jj u h=>dz _ _ _ jj u h) (H1.out Ap cp) (by omega) H2.out H3.out (by simp;omega) (wJ.heap.size+1) (by simp) ?_;intro g cap5 w5 hown hgrow hat hlt5;rw [HMJ.out] at hown;have HA:=Lib.hid (JI.app HB1.out HOXI.out HB3.out HBJ.out HPJ.out HOS.out hown hgrow hat);clear hown hgrow hat;have kT:w5.cell? ⟨wo.heap.size,1,none⟩=some (.slice AI j cI):=HA.out.1.cell 1;have fT:=HA.out.1.frozen 1;have zT:=HA.out.1.lt)
      | (go_simp;go_at_call 48;(with_reducible refine (HJN.out _ (by first | exact Below.refl _ _ | exact (Below.refl _ _).drew)).mono ?_);rintro e wJ ⟨Ap,cp,rfl,hos,hb⟩;have hbJ:Below wr.heap.size wr wJ:=bp hb (by first | exact Nat.le_refl _ | simp) (by first | exact Below.refl _ _ | exact (Below.refl _ _).drew);have HBJ:=Lib.hid hbJ;have HOS:Hid (OS wJ wr.heap.size Ap (aq p).v.length cp (aq p).v):=(by rw [<- HMJ.out];exact hos);have g1:wJ.cell? ⟨wo.heap.size,1,none⟩=some (.slice AI j cI):=(HB1.out.aa hbJ).cell 1;have gz:wo.heap.size<wJ.heap.size:=(HB1.out.aa hbJ).lt;have gs:=hbJ.size;clear hos hb hbJ)
      | fail)
    | fail
   all_goals
    go_wp2
    go_roundw
    case rel=>exact ⟨j+1,cap5,some ⟨g,0,none⟩,by omega,by go_num,Lib.hid (JA.next HA.out)⟩
    case measure=>simp [intOf];omega
  ·obtain rfl:j=m:=by omega
   obtain ⟨hB1,⟨css,FI,hoxI⟩,hB3⟩:=hji.out;rw [List.take_of_length_le (by rw [List.length_map,HM.out];exact Nat.le_refl _)] at hoxI
   obtain ⟨F2,hr2,hf2⟩:=hoxI.ri;have HB1:=Lib.hid hB1;have HB3:=Lib.hid hB3;have HR2:=Lib.hid hr2;have HF2:=Lib.hid hf2;clear hB1 hoxI hB3 hr2 hf2 hji
   go_wp2_with fail
   refine (dx x.1 AI j cI (x.2.map aq) F2 wr HR2.out jJ hsm).mono ?_;rintro e w5 ⟨rfl,hb5⟩;have HB5:=Lib.hid hb5;have p0:w5.cell? ⟨wo.heap.size,0,none⟩=some (.int .i64 x.1):=(HB1.out.aa hb5).cell 0;have p1:w5.cell? ⟨wo.heap.size,1,none⟩=some (.slice AI j cI):=(HB1.out.aa hb5).cell 1;have z5:wo.heap.size<w5.heap.size:=(HB1.out.aa hb5).lt;have HBo:Hid (Below wo.heap.size wo w5):=HB3.out.trans (hb5.mono (by omega))
   have HBW:Hid (Below w.heap.size w w5):=hob.out.trans (HBo.out.mono hwo);clear hb5
   cases hl:aL x.1 (x.2.map aq)
   ·have HNO:Hid (bu net=false):=wH HXK.out hl;have HFIN:Hid (Below w.heap.size w (w5.alloc (.cells #[] 80))):=HBW.out.alloc HBW.out.size _;clear hl;go_wp2
    go_ret2
    have:=JN.no (A:=some ⟨w5.heap.size,0,none⟩) HNO.out HFIN.out;rw [HNO.out] at this
    exact this
   ·by_cases n4:4<n
    ·have HNO:Hid (bu net=false):=Eo (by rw [HLN.out];exact n4)
     have HFIN:Hid (Below w.heap.size w (w5.alloc (.cells #[] 80))):=HBW.out.alloc HBW.out.size _;have t4:(4:Int)<(n:Int):=by omega
     clear hl;go_wp2
     go_ret2
     have:=JN.no (A:=some ⟨w5.heap.size,0,none⟩) HNO.out HFIN.out;rw [HNO.out] at this
     exact this
    ·have HV:Hid (∀ q l,q<k+1->net[q]?=some l->aL l.1 (l.2.map aq)=true):=by
      intro q l hq hl'
      by_cases hqk:q<k
      ·exact hval.out q l hqk hl'
      ·obtain rfl:q=k:=by omega
       rw [HXK.out] at hl';injection hl' with hl';subst hl'
       exact hl
     have t4:(n:Int)<=4:=by omega
     obtain ⟨cssO,FO,hoxO⟩:=hox.out;have HOXO:=Lib.hid (hoxO.below HBo.out);have HQ:Hid ((kE mxE).P w5 [.int .i64 x.1,.slice AI j cI] (df x) F2):=⟨AI,cI,by simp [df,HM.out],by have:=HR2.out.below HB5.out;simpa [df,HM.out] using this⟩
     have HG:Hid (Fr w5 w1.heap.size F2):=(HF2.out.below HB5.out).mono (by omega)
     have HD:Hid (∀ g,g∈F2->g∉FO/\blk A'≠some g):=fun g hg=>⟨fun h=>by have:=hoxO.lt g h;have:=(HF2.out.2 g hg).1;omega,fun h=>by have:=(hoxO.aj g h).2;have:=(HF2.out.2 g hg).1;omega⟩
     clear hl hoxO hox hval
     go_wp2_with (at_builtin;refine wpList_append_lies _ rfl _ _ 32 rfl w1.heap.size 80 i2 (.agg #[.int .i64 0,.slice none 0 0]) 2 32 Tryz.underlying32 hi2 hy0 hy1 hy2 rfl (by decide) (.slice A' k cA) k _ rfl (World.ownsRow.alloc HOXO.out.1 _) ⟨w5.heap.size,0,none⟩ 1 1 [.int .i64 x.1,.slice AI j cI] rfl rfl ?c1 ?c2 ?c3 ?c4 ?c5 ?c6 (w5.heap.size+1) ?c7 ?_)
     case c1=>exact dz w5 _ _
     case c2=>intro u hu;simp at hu;rcases hu with rfl | rfl <;> rfl
     case c3=>omega
     case c4=>unfold maxLen;omega
     case c5=>omega
     case c6=>simp;omega
     case c7=>simp
     intro g cap6 w6 hown hgrow hat hlt6;obtain ⟨r1,r2,r3⟩:=OX.push HOXO.out HQ.out HG.out HD.out HBW.out hw1 (by omega) hown hgrow hat
     rw [<- aW (jb HXK.out)] at r1;have K1:Hid (∃ css F',OX (kE mxE) w6 w1.heap.size 80 (some ⟨g,0,none⟩) (k+1) cap6 css ((net.map df).take (k+1)) F'):=⟨_,_,r1⟩;have K2:=Lib.hid r2;have K3:Hid (RI (kE smE) w6 (some ⟨b,off,none⟩) n c1 net F1):=(hri.out.below HBo.out).au fun g' hg'=>r3.block g' ((hri.out.below HBo.out).lt g' hg') (fun e=>by have:=(HOXO.out.aj g' e.symm).1;have:=HLT.out g' hg';omega)
     have hw6:w1.heap.size<=w6.heap.size:=by have:=r3.size;have:=HBo.out.size;omega
     clear r1 r2 r3 hown hgrow hat HOXO HQ HG HD HBW;go_wp2
     go_roundw
     case rel=>exact ⟨k+1,cap6,_,by omega,by go_num,rfl,K1,K3,K2,HV,Lib.hid (Or.inr (by omega)),hw6⟩
     case measure=>simp [intOf];omega
 ·obtain rfl:k=n:=by omega
  have HYES:Hid (k<=4->bu net=true):=fun h4=>uj (by rw [HLN.out];exact h4) (fun q l hq hl=>hval.out q l (by rw [<- HLN.out];exact hq) hl)
  have h4:k<=4:=by rcases hfour.out with h | h <;> omega
  obtain ⟨css,F',hox'⟩:=hox.out;have HB:=Lib.hid hob.out;have HJN:Hid (JN net w (.returned (.tuple #[.slice A' k cA,.bool true])) wo):=by
   have hy:=HYES.out h4;rw [List.take_of_length_le (by rw [List.length_map,HLN.out];exact Nat.le_refl _)] at hox'
   obtain ⟨F2,hr2,hf2⟩:=hox'.ri
   exact ⟨A',k,cA,F2,by rw [hy],by rw [eL hy];exact hr2,hf2.mono hw1,hob.out⟩
  clear hox' hox;go_wp2
  go_ret2
  exact HJN.out
end
def lf (left:Int) (n:Nat):Int:=if (n:Int)<=left then left-n else -1
theorem uR {left:Int} {n:Nat} (h:(n:Int)<=left):lf left n=left-n:=if_pos h
theorem wA {left:Int} {n:Nat} (h:¬ (n:Int)<=left):lf left n= -1:=if_neg h
theorem rN (A:Option Addr) (n c:Nat) (left:Int) (h0:0<=left) (h1:left<=1048576) (bn:n<=maxLen) (w:World):Calls Tryz.prog 275 #[.slice A n c,.int .i64 left] w fun e w'=>e= .returned (.int .i64 (lf left n))/\w=w':=by
 unfold maxLen at bn;have q:=IntWalk.i64_in (left-(n:Int)) (by omega)
 by_cases h:(n:Int)<=left
 ·rw [uR h];have h2:¬ left-(n:Int)<0:=by omega
  go_enter Tryz.func275,Tryz.ntmps275
  go_wp2
  go_ret
  exact ⟨rfl,rfl⟩
 ·rw [wA h];have h2:left-(n:Int)<0:=by omega
  clear h
  go_enter Tryz.func275,Tryz.ntmps275
  go_wp2
  go_ret
  exact ⟨rfl,rfl⟩
theorem fp (r c:Int) (A:Option Addr) (n cap:Nat) (left:Int) (h0:0<=left) (h1:left<=1048576) (bn:n<=maxLen) (w:World):Calls Tryz.prog 243 #[MV r c A n cap,.int .i64 left] w fun e w'=>e= .returned (.int .i64 (lf left n))/\Below w.heap.size w w':=by
 by_cases h:(n:Int)<=left
 ·rw [uR h];have h2:¬ left-(n:Int)<0:=by omega
  go_enter Tryz.func243,Tryz.ntmps243
  go_wp2_with fail
  obtain ⟨u1,hu1⟩:∃ u,u=(w.alloc (.cells #[.int .i64 r,.int .i64 c,.slice A n cap] 231)):=⟨_,rfl⟩;rw [<- hu1];have hzu1:u1.heap.size<=w.heap.size+1:=by rw [hu1];simp
  have hyu1:w.heap.size+1<=u1.heap.size:=by rw [hu1];simp
  have B1_1:Blk u1 (w.heap.size) 231 #[.int .i64 r,.int .i64 c,.slice A n cap]:=by rw [hu1];have h:=(Blk.new w 231 #[.int .i64 r,.int .i64 c,.slice A n cap]);simpa using h
  have xb1:w.heap.size<=w.heap.size:=by omega
  have O1:Below w.heap.size w u1:=by rw [hu1];exact ((Below.refl w.heap.size w).alloc (by first | omega | (simp;done) | (simp;omega)) _)
  have m1:w.heap.size<=u1.heap.size:=by omega
  clear hu1;refine (rN A n cap left h0 h1 bn u1).mono ?_;rintro e w' ⟨rfl,rfl⟩;have z1_1:w.heap.size<u1.heap.size:=B1_1.lt;have c1_1_0:u1.cell? ⟨w.heap.size,0,none⟩=some (.int .i64 r):=B1_1.cell 0;have f1_1_0:u1.frozen? ⟨w.heap.size,0,none⟩=false:=B1_1.frozen 0;have c1_1_1:u1.cell? ⟨w.heap.size,1,none⟩=some (.int .i64 c):=B1_1.cell 1;have f1_1_1:u1.frozen? ⟨w.heap.size,1,none⟩=false:=B1_1.frozen 1;have c1_1_2:u1.cell? ⟨w.heap.size,2,none⟩=some (.slice A n cap):=B1_1.cell 2;have f1_1_2:u1.frozen? ⟨w.heap.size,2,none⟩=false:=B1_1.frozen 2;rw [uR h];go_wp2
  go_ret
  exact ⟨rfl,O1⟩
 ·rw [wA h]
  go_enter Tryz.func243,Tryz.ntmps243
  go_wp2_with fail
  obtain ⟨u1,hu1⟩:∃ u,u=(w.alloc (.cells #[.int .i64 r,.int .i64 c,.slice A n cap] 231)):=⟨_,rfl⟩;rw [<- hu1];have hzu1:u1.heap.size<=w.heap.size+1:=by rw [hu1];simp
  have hyu1:w.heap.size+1<=u1.heap.size:=by rw [hu1];simp
  have B1_1:Blk u1 (w.heap.size) 231 #[.int .i64 r,.int .i64 c,.slice A n cap]:=by rw [hu1];have h:=(Blk.new w 231 #[.int .i64 r,.int .i64 c,.slice A n cap]);simpa using h
  have xb1:w.heap.size<=w.heap.size:=by omega
  have O1:Below w.heap.size w u1:=by rw [hu1];exact ((Below.refl w.heap.size w).alloc (by first | omega | (simp;done) | (simp;omega)) _)
  have m1:w.heap.size<=u1.heap.size:=by omega
  clear hu1;refine (rN A n cap left h0 h1 bn u1).mono ?_;rintro e w' ⟨rfl,rfl⟩;have z1_1:w.heap.size<u1.heap.size:=B1_1.lt;have c1_1_0:u1.cell? ⟨w.heap.size,0,none⟩=some (.int .i64 r):=B1_1.cell 0;have f1_1_0:u1.frozen? ⟨w.heap.size,0,none⟩=false:=B1_1.frozen 0;have c1_1_1:u1.cell? ⟨w.heap.size,1,none⟩=some (.int .i64 c):=B1_1.cell 1;have f1_1_1:u1.frozen? ⟨w.heap.size,1,none⟩=false:=B1_1.frozen 1;have c1_1_2:u1.cell? ⟨w.heap.size,2,none⟩=some (.slice A n cap):=B1_1.cell 2;have f1_1_2:u1.frozen? ⟨w.heap.size,2,none⟩=false:=B1_1.frozen 2;rw [wA (by omega)]
  go_wp2
  go_ret
  exact ⟨rfl,O1⟩
theorem nM (r c:Int) (v:List Int) (A:Option Addr) (n cap:Nat) (w:World) (hx0:SI w A n v) (bn:n<=1048576) :
  Calls Tryz.prog 244 #[MV r c A n cap] w (bD ⟨r,c,v⟩ w):=by
 have HX:=Lib.hid hx0;clear hx0
 go_enter Tryz.func244,Tryz.ntmps244
 go_wp2_with fail
 obtain ⟨u1,hu1⟩:∃ u,u=(((w.alloc (.cells #[.int .i64 r,.int .i64 c,.slice A n cap] 231)).alloc (.cells #[.int .i64 0,.int .i64 0,.slice none 0 0] 37)).alloc (.cells #[.int .i64 r,.int .i64 c,.slice none 0 0] 37)):=⟨_,rfl⟩;rw [<- hu1];have hzu1:u1.heap.size<=w.heap.size+3:=by rw [hu1];simp
 have hyu1:w.heap.size+3<=u1.heap.size:=by rw [hu1];simp
 have B1_1:Blk u1 (w.heap.size) 231 #[.int .i64 r,.int .i64 c,.slice A n cap]:=by rw [hu1];have h:=(((Blk.new w 231 #[.int .i64 r,.int .i64 c,.slice A n cap]).alloc (.cells #[.int .i64 0,.int .i64 0,.slice none 0 0] 37)).alloc (.cells #[.int .i64 r,.int .i64 c,.slice none 0 0] 37));simpa using h
 have xb1:w.heap.size<=w.heap.size:=by omega
 have B1_2:Blk u1 (w.heap.size+1) 37 #[.int .i64 0,.int .i64 0,.slice none 0 0]:=by rw [hu1];have h:=((Blk.new (w.alloc (.cells #[.int .i64 r,.int .i64 c,.slice A n cap] 231)) 37 #[.int .i64 0,.int .i64 0,.slice none 0 0]).alloc (.cells #[.int .i64 r,.int .i64 c,.slice none 0 0] 37));simpa using h
 have xb2:w.heap.size<=w.heap.size+1:=by omega
 have B1_3:Blk u1 (w.heap.size+2) 37 #[.int .i64 r,.int .i64 c,.slice none 0 0]:=by rw [hu1];have h:=(Blk.new ((w.alloc (.cells #[.int .i64 r,.int .i64 c,.slice A n cap] 231)).alloc (.cells #[.int .i64 0,.int .i64 0,.slice none 0 0] 37)) 37 #[.int .i64 r,.int .i64 c,.slice none 0 0]);simpa using h
 have xb3:w.heap.size<=w.heap.size+2:=by omega
 have O1:Below w.heap.size w u1:=by rw [hu1];exact ((((Below.refl w.heap.size w).alloc (by first | omega | (simp;done) | (simp;omega)) _).alloc (by first | omega | (simp;done) | (simp;omega)) _).alloc (by first | omega | (simp;done) | (simp;omega)) _)
 have m1:w.heap.size<=u1.heap.size:=by omega
 clear hu1;refine (wv A n cap v u1 (SI.below HX.out O1) (by omega)).mono ?_
 rintro e w2 ⟨Aa,ca,rfl,os,hb⟩;have ubs:w.heap.size<=u1.heap.size:=by omega
 have lt1_a:w.heap.size<u1.heap.size:=by have:=B1_1.lt;omega
 have lt2_a:w.heap.size+1<u1.heap.size:=by have:=B1_2.lt;omega
 have lt3_a:w.heap.size+2<u1.heap.size:=by have:=B1_3.lt;omega
 have B2_1:=(B1_1.aa hb);have B2_2:=(B1_2.aa hb);have B2_3:=(B1_3.aa hb);have O2:=O1.trans (hb.mono (by omega))
 have m2:w.heap.size<=w2.heap.size:=by have:=hb.size;omega
 have F2_a:=os;clear os;clear B1_1 B1_2 B1_3 O1 hb ubs lt1_a lt2_a lt3_a;have z2_1:w.heap.size<w2.heap.size:=B2_1.lt;have c2_1_0:w2.cell? ⟨w.heap.size,0,none⟩=some (.int .i64 r):=B2_1.cell 0;have f2_1_0:w2.frozen? ⟨w.heap.size,0,none⟩=false:=B2_1.frozen 0;have c2_1_1:w2.cell? ⟨w.heap.size,1,none⟩=some (.int .i64 c):=B2_1.cell 1;have f2_1_1:w2.frozen? ⟨w.heap.size,1,none⟩=false:=B2_1.frozen 1;have c2_1_2:w2.cell? ⟨w.heap.size,2,none⟩=some (.slice A n cap):=B2_1.cell 2;have f2_1_2:w2.frozen? ⟨w.heap.size,2,none⟩=false:=B2_1.frozen 2;have z2_2:w.heap.size+1<w2.heap.size:=B2_2.lt;have c2_2_0:w2.cell? ⟨w.heap.size+1,0,none⟩=some (.int .i64 0):=B2_2.cell 0;have f2_2_0:w2.frozen? ⟨w.heap.size+1,0,none⟩=false:=B2_2.frozen 0;have c2_2_1:w2.cell? ⟨w.heap.size+1,1,none⟩=some (.int .i64 0):=B2_2.cell 1;have f2_2_1:w2.frozen? ⟨w.heap.size+1,1,none⟩=false:=B2_2.frozen 1;have c2_2_2:w2.cell? ⟨w.heap.size+1,2,none⟩=some (.slice none 0 0):=B2_2.cell 2;have f2_2_2:w2.frozen? ⟨w.heap.size+1,2,none⟩=false:=B2_2.frozen 2;have z2_3:w.heap.size+2<w2.heap.size:=B2_3.lt;have c2_3_0:w2.cell? ⟨w.heap.size+2,0,none⟩=some (.int .i64 r):=B2_3.cell 0;have f2_3_0:w2.frozen? ⟨w.heap.size+2,0,none⟩=false:=B2_3.frozen 0;have c2_3_1:w2.cell? ⟨w.heap.size+2,1,none⟩=some (.int .i64 c):=B2_3.cell 1;have f2_3_1:w2.frozen? ⟨w.heap.size+2,1,none⟩=false:=B2_3.frozen 1;have c2_3_2:w2.cell? ⟨w.heap.size+2,2,none⟩=some (.slice none 0 0):=B2_3.cell 2;have f2_3_2:w2.frozen? ⟨w.heap.size+2,2,none⟩=false:=B2_3.frozen 2;go_wp2
 exact bodyPost_ret (v:=MV r c Aa v.length ca) (by simp [results,Tryz.results244,go_sem,z2_1,c2_1_0,f2_1_0,c2_1_1,f2_1_1,c2_1_2,f2_1_2,z2_2,c2_2_0,f2_2_0,c2_2_1,f2_2_1,c2_2_2,f2_2_2,z2_3,c2_3_0,f2_3_0,c2_3_1,f2_3_1,c2_3_2,f2_3_2,(by omega:¬ w.heap.size=w.heap.size+1),(by omega:¬ w.heap.size+1=w.heap.size),(by omega:¬ w.heap.size=w.heap.size+2),(by omega:¬ w.heap.size+2=w.heap.size),(by omega:¬ w.heap.size+1=w.heap.size+2),(by omega:¬ w.heap.size+2=w.heap.size+1)]) rfl ⟨_,_,rfl,OS.mono ((((F2_a.dk B2_3 (by decide) _).dk (B2_2.far (p:=⟨w.heap.size+2,2,none⟩) (by dsimp only;omega) (.slice Aa v.length ca)) (by decide) _).dk ((B2_2.far (p:=⟨w.heap.size+2,2,none⟩) (by dsimp only;omega) (.slice Aa v.length ca)).dc 0 (.int .i64 r)) (by decide) _).dk (((B2_2.far (p:=⟨w.heap.size+2,2,none⟩) (by dsimp only;omega) (.slice Aa v.length ca)).dc 0 (.int .i64 r)).dc 1 (.int .i64 c)) (by decide) _) (by omega),((((O2.setCell (by dsimp only;omega) _).setCell (by dsimp only;omega) _).setCell (by dsimp only;omega) _).setCell (by dsimp only;omega) _)⟩
theorem nK (r c:Int) (v:List Int) (A B:Option Addr) (n cn m cm:Nat) (w:World) (hx0:SI w A n v) (hy0:SI w B m v) (bn:n<=281474976710656) (bm:m<=281474976710656) :
  Calls Tryz.prog 245 #[MV r c A n cn,MV r c B m cm] w fun e w'=>e= .returned (.bool true)/\Below w.heap.size w w':=by
 have HX:=Lib.hid hx0;have HY:=Lib.hid hy0;clear hx0 hy0
 go_enter Tryz.func245,Tryz.ntmps245
 go_wp2_with fail
 obtain ⟨u1,hu1⟩:∃ u,u=((w.alloc (.cells #[.int .i64 r,.int .i64 c,.slice A n cn] 37)).alloc (.cells #[.int .i64 r,.int .i64 c,.slice B m cm] 37)):=⟨_,rfl⟩;rw [<- hu1];have hzu1:u1.heap.size<=w.heap.size+2:=by rw [hu1];simp
 have hyu1:w.heap.size+2<=u1.heap.size:=by rw [hu1];simp
 have B1_1:Blk u1 (w.heap.size) 37 #[.int .i64 r,.int .i64 c,.slice A n cn]:=by rw [hu1];have h:=((Blk.new w 37 #[.int .i64 r,.int .i64 c,.slice A n cn]).alloc (.cells #[.int .i64 r,.int .i64 c,.slice B m cm] 37));simpa using h
 have xb1:w.heap.size<=w.heap.size:=by omega
 have B1_2:Blk u1 (w.heap.size+1) 37 #[.int .i64 r,.int .i64 c,.slice B m cm]:=by rw [hu1];have h:=(Blk.new (w.alloc (.cells #[.int .i64 r,.int .i64 c,.slice A n cn] 37)) 37 #[.int .i64 r,.int .i64 c,.slice B m cm]);simpa using h
 have xb2:w.heap.size<=w.heap.size+1:=by omega
 have O1:Below w.heap.size w u1:=by rw [hu1];exact (((Below.refl w.heap.size w).alloc (by first | omega | (simp;done) | (simp;omega)) _).alloc (by first | omega | (simp;done) | (simp;omega)) _)
 have m1:w.heap.size<=u1.heap.size:=by omega
 clear hu1;refine (wu A B n cn m cm v v u1 (SI.below HX.out O1) (SI.below HY.out O1) (by omega) (by omega)).mono ?_
 rintro e w2 ⟨rfl,hb⟩;have B2_1:=(B1_1.aa hb);have B2_2:=(B1_2.aa hb);have O2:=O1.trans (hb.mono (by omega))
 have m2:w.heap.size<=w2.heap.size:=by have:=hb.size;omega
 rw [nf];clear B1_1 B1_2 O1 hb;have z2_1:w.heap.size<w2.heap.size:=B2_1.lt;have c2_1_0:w2.cell? ⟨w.heap.size,0,none⟩=some (.int .i64 r):=B2_1.cell 0;have f2_1_0:w2.frozen? ⟨w.heap.size,0,none⟩=false:=B2_1.frozen 0;have c2_1_1:w2.cell? ⟨w.heap.size,1,none⟩=some (.int .i64 c):=B2_1.cell 1;have f2_1_1:w2.frozen? ⟨w.heap.size,1,none⟩=false:=B2_1.frozen 1;have c2_1_2:w2.cell? ⟨w.heap.size,2,none⟩=some (.slice A n cn):=B2_1.cell 2;have f2_1_2:w2.frozen? ⟨w.heap.size,2,none⟩=false:=B2_1.frozen 2;have z2_2:w.heap.size+1<w2.heap.size:=B2_2.lt;have c2_2_0:w2.cell? ⟨w.heap.size+1,0,none⟩=some (.int .i64 r):=B2_2.cell 0;have f2_2_0:w2.frozen? ⟨w.heap.size+1,0,none⟩=false:=B2_2.frozen 0;have c2_2_1:w2.cell? ⟨w.heap.size+1,1,none⟩=some (.int .i64 c):=B2_2.cell 1;have f2_2_1:w2.frozen? ⟨w.heap.size+1,1,none⟩=false:=B2_2.frozen 1;have c2_2_2:w2.cell? ⟨w.heap.size+1,2,none⟩=some (.slice B m cm):=B2_2.cell 2;have f2_2_2:w2.frozen? ⟨w.heap.size+1,2,none⟩=false:=B2_2.frozen 2;go_wp2
 go_ret
 exact ⟨rfl,O2⟩
end Go.Proofs.YtjciicheoghcdaaGreatDoor

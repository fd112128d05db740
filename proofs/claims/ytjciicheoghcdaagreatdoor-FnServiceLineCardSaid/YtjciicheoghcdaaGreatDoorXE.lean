/- Part of the proof that the law FnServiceLine of the given program returns true for every input. -/
import Derived.Test.YtjciicheoghcdaaGreatDoorXD
import Derived.Test.YtjciicheoghcdaaGreatDoorXa
import Derived.Test.YtjciicheoghcdaaGreatDoorXc
import Derived.Test.YtjciicheoghcdaaGreatDoorXl
import Derived.Test.YtjciicheoghcdaaGreatDoorXo
import Derived.Test.YtjciicheoghcdaaGreatDoorXx
namespace Go.Proofs.YtjciicheoghcdaaGreatDoor
open Go.RowKit
set_option linter.unusedSimpArgs false
set_option linter.unusedVariables false
set_option maxRecDepth 20000
set_option maxHeartbeats 16000000
theorem EC (m:Mx) (s:Int):smS (cH m s).1:=by
 unfold smS mS
 cases h:(mvB m && sdB s)
 ·rw [xk h];exact ⟨by simp [Mx.z],by simp [Mx.z]⟩
 ·simp only [Bool.and_eq_true] at h;rw [lS h.1 h.2];obtain ⟨h1,h2,h3,_⟩:=cZ h.1;have hn:=(zh h2 h3).2.2;refine ⟨by simp only [cT,aD];omega,?_⟩
  dsimp only
  cases hl:az m (cT m.r m.c s)
  ·rw [ib hl];simp [Mx.z]
  ·rw [fi hl];have:=(bt hl).2.2;simp only [aD]
   omega
theorem DO:∀ (ms:List Mx) (s:Int) (p:Mx×Mx),p∈(aP ms s).1->smS p
 | [],s,p,h=>by cases h
 | m::ms,s,p,h=>by
  rcases List.mem_cons.1 h with rfl | h
  ·exact EC m s
  ·exact DO ms _ p h
theorem DP:∀ (net:List (Int×List Mx)) (s:Int),(∀ l,l∈net->l.2.length<=3)->∀ l,l∈(eE net s).1->kS smS l
 | [],s,_,l,h=>by cases h
 | a::net,s,hl,l,h=>by
  rcases List.mem_cons.1 h with rfl | h
  ·refine ⟨?_,fun p hp=>DO _ _ p hp⟩
   have:=hl a (List.mem_cons_self ..);simp only [ov,pL]
   omega
  ·exact DP net _ (fun l hl'=>hl l (List.mem_cons_of_mem _ hl')) l h
theorem ED {net:List (Int×List Mx)} {s:Int} (hn:net.length<=3) (hl:∀ l,l∈net->l.2.length<=3):gG (kS smS) (o_ net s).1/\(o_ net s).1.length<=3:=by
 cases h:gH net s
 ·rw [tz h]
  exact ⟨⟨by simp,fun p hp=>by cases hp⟩,by simp⟩
 ·rw [tA h];have e:=Eb net s
  exact ⟨⟨by omega,DP net s hl⟩,by omega⟩
def DSN (w:World) (rb P:Nat) (e:Ending) (w':World):Prop:=∃ A n c xs F,e= .returned (.slice A n c)/\RI (kE smE) w' A n c xs F/\Fr w' w.heap.size F/\gG (kS smS) xs/\n<=5/\Rd w' rb P/\aZ rb w w'
theorem EW (W:World):dJ smE W [[.int .i64 0,.int .i64 0,.slice none 0 0,.int .i64 0,.int .i64 0,.slice none 0 0],[.int .i64 0,.int .i64 0,.slice none 0 0,.int .i64 0,.int .i64 0,.slice none 0 0]] [(Mx.z,Mx.z),(Mx.z,Mx.z)] [] :=
 ⟨[],[],rfl,⟨none,0,none,0,[],[],rfl,⟨SI.nil _ _,Nat.le_refl _,by unfold maxLen;omega,rfl⟩,⟨SI.nil _ _,Nat.le_refl _,by unfold maxLen;omega,rfl⟩,rfl⟩,⟨[],[],rfl,⟨none,0,none,0,[],[],rfl,⟨SI.nil _ _,Nat.le_refl _,by unfold maxLen;omega,rfl⟩,⟨SI.nil _ _,Nat.le_refl _,by unfold maxLen;omega,rfl⟩,rfl⟩,rfl⟩⟩
theorem Fo (W:World) {base:Nat} (hb:base<=W.heap.size):∃ F,RI smE (W.alloc (.cells #[.int .i64 0,.int .i64 0,.slice none 0 0,.int .i64 0,.int .i64 0,.slice none 0 0,.int .i64 0,.int .i64 0,.slice none 0 0,.int .i64 0,.int .i64 0,.slice none 0 0] 82)) (some ⟨W.heap.size,0,none⟩) 2 2 [(Mx.z,Mx.z),(Mx.z,Mx.z)] F/\Fr (W.alloc (.cells #[.int .i64 0,.int .i64 0,.slice none 0 0,.int .i64 0,.int .i64 0,.slice none 0 0,.int .i64 0,.int .i64 0,.slice none 0 0,.int .i64 0,.int .i64 0,.slice none 0 0] 82)) W.heap.size F:=by
 have:=OX.lit W (Nat.le_refl _) 82 (EW W) (Fr.nil W W.heap.size) (by unfold maxLen;simp)
 simpa using this.ri
theorem DW (rb P:Nat) (rows cols nn:Int) (hr:1<=rows/\rows<=5) (hc:1<=cols/\cols<=5) (hnn:0<=nn/\nn<=1000000) (w:World) (h:Rd w rb P) (hP:P<100000) :
  Calls Tryz.prog 73 #[.pointer (some ⟨rb,0,none⟩),.int .i64 rows,.int .i64 cols,.int .i64 nn] w (DSN w rb (P+4020)):=by
 obtain ⟨i2,hi2,hy0,hy1,hy2⟩:=info_parts nJ;have hrw:=h.lt
 go_enter Tryz.func73,Tryz.ntmps73
 go_wp2_with fail
 refine (EL rb P rows cols hr hc w h hP).mono ?_;rintro e w1 ⟨A1,n1,c1,ls,F1,rfl,hri,hfr,hn1,hls,r1,o1⟩
 go_wp2_with fail
 refine (Ea rb (P+4000) 0 (by omega) w1 r1 (by omega)).mono ?_
 rintro e w2 ⟨sd,rfl,r2,o2⟩;have HR1:=Lib.hid (hri.only o2 (hfr.not hrw));have HLS:=Lib.hid hls;have HN1:=Lib.hid hri.1;clear hri hfr hls
 go_wp2_with fail
 refine (jP A1 n1 c1 ls F1 sd w2 HR1.out ⟨by rw [HN1.out];omega,fun l hl=>⟨by have:=(HLS.out l hl).1;omega,fun m hm=>by have:=(HLS.out l hl).2 m hm;unfold mS;omega⟩⟩).mono ?_
 rintro e w3 ⟨A,n,c,css,FO,rfl,hox,hb3⟩;obtain ⟨hsm,hsl⟩:=ED (net:=ls) (s:=sd) (by rw [HN1.out];exact hn1) (fun l hl=>(HLS.out l hl).1)
 obtain ⟨xs,hxs⟩:∃ xs,xs=(o_ ls sd).1:=⟨_,rfl⟩;rw [<- hxs] at hox hsm hsl;have hn3:n<=3:=by rw [<- hox.2.1];exact hsl
 have hw2:w.heap.size<=w2.heap.size:=(o1.trans o2).size;have HOX3:=Lib.hid (hox.mono hw2);have HSM:=Lib.hid hsm;have HO3:Hid (aZ rb w w3):=(o1.trans o2).below hb3;have HR3:=Lib.hid (r2.below hb3);clear hox hb3 hsm hsl hxs r1 r2 o1 o2 h HR1 HLS hn1
 go_wp2_with fail
 refine (EG rb (P+4000+3) nn hnn w3 HR3.out (by omega)).mono ?_
 rintro e w4 ⟨od,rfl,r4,o4⟩;have HOX4:=Lib.hid (HOX3.out.only o4 hrw);have HO4:Hid (aZ rb w w4):=HO3.out.trans o4;have HR4:=Lib.hid r4;have hw4:w.heap.size<=w4.heap.size:=HO4.out.size;clear r4 o4 HOX3 HO3 HR3
 cases od
 ·have HN:Hid (DSN w rb (P+4020) (.returned (.slice A n c)) w4):=by
   obtain ⟨F2,h1,h2⟩:=HOX4.out.ri
   exact ⟨_,_,_,_,F2,rfl,h1,h2,HSM.out,by omega,HR4.out.mono (by omega),HO4.out⟩
  go_wp2
  exact bodyPost_ret (v:= .slice A n c) (by simp [results,Tryz.results73,go_sem]) rfl HN.out
 go_wp2_with fail
 refine (ct rb (P+4000+3+1) 3 w4 HR4.out (by omega)).mono ?_
 rintro e w5 ⟨q,rfl,q0,q1,r5,o5⟩;have HOX5:=Lib.hid (HOX4.out.only o5 hrw);have HO5:Hid (aZ rb w w5):=HO4.out.trans o5;have HR5:=Lib.hid r5;have hw5:w.heap.size<=w5.heap.size:=HO5.out.size;have hq:q=0\/q=1\/q=2:=by omega
 clear r5 o5 HOX4 HO4 HR4 q0 q1;rcases hq with rfl | rfl | rfl
 ·go_wp2_with fail
  refine (ct rb (P+4000+3+1+1) 3 _ (HR5.out.alloc _) (by omega)).mono ?_
  rintro e w6 ⟨v,rfl,v0,v1,r6,o6⟩;have v2:v<3:=by omega
  clear v1;obtain ⟨kd,hkd,d0,d1⟩:=rj [0,1,3] 0 3 (by simp) v v0 (by simp;omega)
  have hrl5:=HR5.out.lt;have hcx:w6.cell? ⟨w5.heap.size,v.toNat,none⟩=some (.int .i64 kd):=by
   rw [o6.cell (by simp) (by omega)]
   have:=kr w5 [0,1,3] 3 v.toNat;rw [hkd] at this
   exact this
  have HOX:=Lib.hid ((HOX5.out.alloc (.cells #[.int .i64 0,.int .i64 1,.int .i64 3] 3)).only o6 hrw);have HO:Hid (aZ rb w w6):=(HO5.out.alloc _).trans o6;have HRD:=Lib.hid r6;have hw6:w.heap.size<=w6.heap.size:=HO.out.size;have hz6:w5.heap.size<w6.heap.size:=by have:=o6.size;simp at this;omega
  clear r6 o6 hkd HOX5 HO5 HR5;have hal0:Below w6.heap.size w6 w6:=Below.refl _ _;have hzb:w6.heap.size=w6.heap.size:=rfl;have HQ:Hid ((kE smE).P w6 [.int .i64 kd,.slice none 0 0] ((kd,[]):Int×List (Mx×Mx)) ([]:List Nat)):=⟨none,0,rfl,RI.nil _ none (by unfold maxLen;omega)⟩
  have HGF:Hid (Fr w6 w.heap.size ([]:List Nat)):=Fr.nil _ _;have HD:Hid (∀ g,g∈([]:List Nat)->g∉FO/\blk A≠some g):=fun g hg=>by cases hg
  go_wp2_with (at_builtin;refine wpList_append_lies _ rfl _ _ 23 rfl w.heap.size 99 i2 (.agg #[.int .i64 0,.slice none 0 0]) 2 32 Tryz.underlying23 hi2 hy0 hy1 hy2 rfl (by decide) (.slice A n c) n _ rfl (World.ownsRow.alloc (HOX.out.below hal0).1 _) ⟨w6.heap.size,0,none⟩ 1 1 [.int .i64 kd,.slice none 0 0] rfl rfl ?c1 ?c2 ?c3 ?c4 ?c5 ?c6 (w6.heap.size+1) ?c7 ?_)
  case c1 =>
   have h:=dz w6 99 [.int .i64 kd,.slice none 0 0]
   exact h
  case c2=>intro u hu;simp at hu;rcases hu with rfl | rfl <;> rfl
  case c3=>omega
  case c4=>unfold maxLen;omega
  case c5=>omega
  case c6=>simp;omega
  case c7=>simp
  intro g cap5 w9 hown hgrow hat hlt5;obtain ⟨k1,_,k3⟩:=OX.push (HOX.out.below hal0) HQ.out HGF.out HD.out (Below.refl w.heap.size _) (Nat.le_refl _) hw6 hown hgrow hat;have hw9:w6.heap.size<=w9.heap.size:=k3.size;have KO:Hid (aZ w.heap.size w w9->True):=fun _=>trivial
  have K2:Hid (aZ rb w w9):=⟨k3.os.trans (HO.out.trans (aZ.eW hal0)).os,k3.tape.trans (HO.out.trans (aZ.eW hal0)).tape,k3.output.trans (HO.out.trans (aZ.eW hal0)).output,Nat.le_trans (HO.out.trans (aZ.eW hal0)).size k3.size,fun i hi hne=>(k3.block i (by omega) (fun e=>by have:=(HOX.out.aj i e.symm).1;omega)).trans ((HO.out.trans (aZ.eW hal0)).block i hi hne)⟩
  have K3:Hid (Rd w9 rb (P+4000+3+1+1+1)):=(HRD.out.below hal0).au (fun i hi=>k3.block i (by omega) (fun e=>by have:=(HOX.out.aj i e.symm).1;omega))
  have HN:Hid (DSN w rb (P+4020) (.returned (.slice (some ⟨g,0,none⟩) (n+1) cap5)) w9):=by
   obtain ⟨F2,h1,h2⟩:=k1.ri
   exact ⟨_,_,_,_,F2,rfl,h1,h2,⟨by have:=HOX.out.2.1;rw [List.length_append,this];simp;omega,fun p hp=>by
    rcases List.mem_append.1 hp with hp | hp
    ·exact HSM.out.2 p hp
    ·have e:p=((kd,[]):Int×List (Mx×Mx)):=by simpa using hp
     subst e
     exact ⟨by simp,fun p hp=>by cases hp⟩⟩,by omega,K3.out.mono (by omega),K2.out⟩
  clear k1 k3 hown hgrow hat HOX HQ HD HGF HRD HO K2 K3 KO;go_wp2
  exact bodyPost_ret (v:= .slice (some ⟨g,0,none⟩) (n+1) cap5) (by simp [results,Tryz.results73,go_sem]) rfl HN.out
 ·have HOX:=Lib.hid HOX5.out;have HO:=Lib.hid HO5.out;have HRD:=Lib.hid HR5.out;obtain ⟨FZ,hrz,hfz⟩:=Fo w5 (Nat.le_refl w5.heap.size);have HRZ:=Lib.hid hrz;have HFZ:=Lib.hid hfz;clear hrz hfz HOX5 HO5 HR5;have hal0:Below w5.heap.size w5 (w5.alloc (.cells #[.int .i64 0,.int .i64 0,.slice none 0 0,.int .i64 0,.int .i64 0,.slice none 0 0,.int .i64 0,.int .i64 0,.slice none 0 0,.int .i64 0,.int .i64 0,.slice none 0 0] 82)):=((Below.refl _ _).alloc (by simp) _)
  have hzb:(w5.alloc (.cells #[.int .i64 0,.int .i64 0,.slice none 0 0,.int .i64 0,.int .i64 0,.slice none 0 0,.int .i64 0,.int .i64 0,.slice none 0 0,.int .i64 0,.int .i64 0,.slice none 0 0] 82)).heap.size=w5.heap.size+1:=by simp
  have HQ:Hid ((kE smE).P (w5.alloc (.cells #[.int .i64 0,.int .i64 0,.slice none 0 0,.int .i64 0,.int .i64 0,.slice none 0 0,.int .i64 0,.int .i64 0,.slice none 0 0,.int .i64 0,.int .i64 0,.slice none 0 0] 82)) [.int .i64 1,.slice (some ⟨w5.heap.size,0,none⟩) 2 2] ((1,[(Mx.z,Mx.z),(Mx.z,Mx.z)]):Int×List (Mx×Mx)) FZ):=⟨_,2,rfl,HRZ.out⟩;have HGF:Hid (Fr (w5.alloc (.cells #[.int .i64 0,.int .i64 0,.slice none 0 0,.int .i64 0,.int .i64 0,.slice none 0 0,.int .i64 0,.int .i64 0,.slice none 0 0,.int .i64 0,.int .i64 0,.slice none 0 0] 82)) w.heap.size FZ):=HFZ.out.mono hw5;have HD:Hid (∀ g,g∈FZ->g∉FO/\blk A≠some g):=fun g hg=>⟨fun h=>by have:=HOX.out.lt g h;have:=(HFZ.out.2 g hg).1;omega,fun h=>by have:=(HOX.out.aj g h).2;have:=(HFZ.out.2 g hg).1;omega⟩
  go_wp2_with (at_builtin;refine wpList_append_lies _ rfl _ _ 23 rfl w.heap.size 99 i2 (.agg #[.int .i64 0,.slice none 0 0]) 2 32 Tryz.underlying23 hi2 hy0 hy1 hy2 rfl (by decide) (.slice A n c) n _ rfl (World.ownsRow.alloc (HOX.out.below hal0).1 _) ⟨w5.heap.size+1,0,none⟩ 1 1 [.int .i64 1,.slice (some ⟨w5.heap.size,0,none⟩) 2 2] rfl rfl ?c1 ?c2 ?c3 ?c4 ?c5 ?c6 (w5.heap.size+1+1) ?c7 ?_)
  case c1 =>
   have h:=dz (w5.alloc (.cells #[.int .i64 0,.int .i64 0,.slice none 0 0,.int .i64 0,.int .i64 0,.slice none 0 0,.int .i64 0,.int .i64 0,.slice none 0 0,.int .i64 0,.int .i64 0,.slice none 0 0] 82)) 99 [.int .i64 1,.slice (some ⟨w5.heap.size,0,none⟩) 2 2];rw [hzb] at h
   exact h
  case c2=>intro u hu;simp at hu;rcases hu with rfl | rfl <;> rfl
  case c3=>omega
  case c4=>unfold maxLen;omega
  case c5=>omega
  case c6=>simp;omega
  case c7=>simp
  intro g cap5 w9 hown hgrow hat hlt5;obtain ⟨k1,_,k3⟩:=OX.push (HOX.out.below hal0) HQ.out HGF.out HD.out (Below.refl w.heap.size _) (Nat.le_refl _) (by rw [hzb];omega) hown hgrow (hat.imp id (fun h=>by rw [hzb];exact h))
  have hw9:(w5.alloc (.cells #[.int .i64 0,.int .i64 0,.slice none 0 0,.int .i64 0,.int .i64 0,.slice none 0 0,.int .i64 0,.int .i64 0,.slice none 0 0,.int .i64 0,.int .i64 0,.slice none 0 0] 82)).heap.size<=w9.heap.size:=k3.size;have KO:Hid (aZ w.heap.size w w9->True):=fun _=>trivial
  have K2:Hid (aZ rb w w9):=⟨k3.os.trans (HO.out.trans (aZ.eW hal0)).os,k3.tape.trans (HO.out.trans (aZ.eW hal0)).tape,k3.output.trans (HO.out.trans (aZ.eW hal0)).output,Nat.le_trans (HO.out.trans (aZ.eW hal0)).size k3.size,fun i hi hne=>(k3.block i (by rw [hzb];omega) (fun e=>by have:=(HOX.out.aj i e.symm).1;omega)).trans ((HO.out.trans (aZ.eW hal0)).block i hi hne)⟩
  have K3:Hid (Rd w9 rb (P+4000+3+1+1)):=(HRD.out.below hal0).au (fun i hi=>k3.block i (by rw [hzb];omega) (fun e=>by have:=(HOX.out.aj i e.symm).1;omega))
  have HN:Hid (DSN w rb (P+4020) (.returned (.slice (some ⟨g,0,none⟩) (n+1) cap5)) w9):=by
   obtain ⟨F2,h1,h2⟩:=k1.ri
   exact ⟨_,_,_,_,F2,rfl,h1,h2,⟨by have:=HOX.out.2.1;rw [List.length_append,this];simp;omega,fun p hp=>by
    rcases List.mem_append.1 hp with hp | hp
    ·exact HSM.out.2 p hp
    ·have e:p=((1,[(Mx.z,Mx.z),(Mx.z,Mx.z)]):Int×List (Mx×Mx)):=by simpa using hp
     subst e
     exact ⟨by simp,fun p hp=>by simp at hp;subst hp;exact ⟨by simp [mS,Mx.z],by simp [mS,Mx.z]⟩⟩⟩,by omega,K3.out.mono (by omega),K2.out⟩
  clear k1 k3 hown hgrow hat HOX HQ HD HGF HRD HO K2 K3 KO;go_wp2
  exact bodyPost_ret (v:= .slice (some ⟨g,0,none⟩) (n+1) cap5) (by simp [results,Tryz.results73,go_sem]) rfl HN.out
 ·have H0:Hid (∃ css F',FX (kE smE) (w5.alloc (.cells (madeCells ZL (5*ZL.size)) 99)) w5.heap.size 99 w5.heap.size 5 css (List.replicate (5-0) ZL.toList).flatten (List.replicate 0 ((2,[]):Int×List (Mx×Mx))) F'):=⟨_,_,FX.made w5 _ ZL (by decide) rfl 5 (by unfold maxLen;omega)⟩
  have B0:Hid (Below w5.heap.size w5 (w5.alloc (.cells (madeCells ZL (5*ZL.size)) 99))):=(Below.refl _ _).alloc (Nat.le_refl _) _;have hmk:=fun W:World=>zf 5 (by omega) W
  obtain ⟨O,hO⟩:∃ O,O=(Obj.cells (madeCells ZL (5*ZL.size)) 99):=⟨_,rfl⟩;rw [<- hO] at H0 B0 hmk;have hmk5:∀ W:World,(Instr.makeSlice 23 (.int .i64 5) (.int .i64 5)).run Tryz.prog W= .ok (.slice (some ⟨W.heap.size,0,none⟩) 5 5) (W.alloc O):=hmk;clear hO hmk;go_wp2
  go_loopw [11] (fun i wr=>∃ j:Nat,j<=5/\i= .int .i64 j/\Hid (∃ css F',FX (kE smE) wr w5.heap.size 99 w5.heap.size 5 css (List.replicate (5-j) ZL.toList).flatten (List.replicate j ((2,[]):Int×List (Mx×Mx))) F')/\Hid (Below w5.heap.size w5 wr)) (fun i _=>5-(intOf i).toNat)
  case atStart=>exact ⟨0,Nat.zero_le _,rfl,H0,B0⟩
  case round =>
  obtain ⟨j,hj,rfl,hfx,hob⟩:=hrel;clear H0 B0 hmk5
  by_cases hlt:j<5
  ·obtain ⟨css,FO,hF⟩:=hfx.out;have hgl:w5.heap.size<wr.heap.size:=hF.glt.2;have hnk:(List.replicate (5-j) ZL.toList).flatten= .int .i64 0 :: .slice none 0 0::(List.replicate (5-(j+1)) ZL.toList).flatten:=by
    rw [show 5-j=(5-(j+1))+1 by omega,List.replicate_succ,List.flatten_cons]
    rfl
   rw [hnk] at hF;have hpl:css.flatten.length=j*2:=by
    rw [dS hF.2.1,List.length_replicate]
    rfl
   have i0:(0:Int)<=(j:Int):=by omega
   have i1:(j:Int)<5:=by omega
   have c0:wr.cell? ⟨w5.heap.size,j*2,none⟩=some (.int .i64 0):=eG (a:=[]) hF.1 (by rw [hpl];rfl)
   have f0:wr.frozen? ⟨w5.heap.size,j*2,none⟩=false:=hF.1.frozen _;have hv6:=FX.put (E:=kE smE) (a:=[]) (pre:=css.flatten) (b:= .slice none 0 0::(List.replicate (5-(j+1)) ZL.toList).flatten) hF.1 (j:=j*2) (by rw [hpl];rfl) (.int .i64 2)
   have HFO:=Lib.hid hF;have HV6:=Lib.hid hv6;clear hF hnk hpl hv6 hfx;go_wp2;obtain ⟨w6,hw6⟩:∃ u,u=wr.setCell ⟨w5.heap.size,j*2,none⟩ (.int .i64 2):=⟨_,rfl⟩;have K2:Hid (Below w5.heap.size w5 w6):=by rw [hw6];exact hob.out.setCell (by dsimp only;omega) _
   have K1:Hid (∃ css F',FX (kE smE) w6 w5.heap.size 99 w5.heap.size 5 css (List.replicate (5-(j+1)) ZL.toList).flatten (List.replicate (j+1) ((2,[]):Int×List (Mx×Mx))) F'):=by
    have hF:=HFO.out;have hE:∀ g',g'≠w5.heap.size->w6.heap[g']?=wr.heap[g']?:=fun g' hne=>by rw [hw6];exact Below.heap_setCell _ _ _ g' (by dsimp only;omega)
    have hv6:=HV6.out;rw [<- hw6] at hv6;have:=FX.step (E:=kE smE) (css:=css) (g:=w5.heap.size) (ys:=[.int .i64 2,.slice none 0 0]) (x:=(2,[])) (F1:=[]) hv6 hF.2.1 hF.2.2.1 hF.2.2.2 (fun g' hg'=>hE g' (fun e=>hF.2.2.2 (by rw [<- e];exact hg'))) ⟨none,0,rfl,RI.nil _ none (by unfold maxLen;omega)⟩ (Fr.nil _ _) (fun g' hg'=>by cases hg')
    rw [<- List.replicate_succ'] at this
    exact ⟨_,_,this⟩
   rw [<- hw6];clear hw6 HV6
   go_roundw
   case rel=>exact ⟨j+1,by omega,by go_num,K1,K2⟩
   case measure=>simp [intOf];omega
  ·obtain rfl:j=5:=by omega
   have HN:Hid (DSN w rb (P+4020) (.returned (.slice (some ⟨w5.heap.size,0,none⟩) 5 5)) wr):=by
    obtain ⟨css,F',hF⟩:=hfx.out;obtain ⟨F2,hr2,hf2⟩:=FX.ri hF (by simp)
    exact ⟨_,_,_,_,F2,rfl,hr2,hf2.mono hw5,⟨by simp,fun p hp=>by rw [List.eq_of_mem_replicate hp];exact ⟨by simp,fun q hq=>by cases hq⟩⟩,by omega,(HR5.out.below hob.out).mono (by omega),HO5.out.below hob.out⟩
   clear hfx;go_wp2
   exact bodyPost_ret (v:= .slice (some ⟨w5.heap.size,0,none⟩) 5 5) (by simp [results,Tryz.results73,go_sem]) rfl HN.out
theorem dJ.take {α:Type} {E:Elt α} {w:World}:∀ {css:List (List Value)} {xs:List α} {F:List Nat} (m:Nat),dJ E w css xs F->∃ F',dJ E w (css.take m) (xs.take m) F'/\∀ g,g∈F'->g∈F
 | [],[],F,m,h=>⟨[],by simp [dJ],fun g hg=>by cases hg⟩
 | _::_,_::_,F,0,h=>⟨[],rfl,fun g hg=>by cases hg⟩
 | c::css,x::xs,F,m+1,⟨F1,F2,e,h1,h2⟩=>by
  obtain ⟨F',h3,h4⟩:=h2.take m
  exact ⟨F1++F',⟨F1,F',rfl,h1,h3⟩,fun g hg=>by
   rw [e];rcases List.mem_append.1 hg with h | h
   ·exact List.mem_append_left _ h
   ·exact List.mem_append_right _ (h4 g h)⟩
theorem RI.take {α:Type} {E:Elt α} {w:World} {A:Option Addr} {n cap:Nat} {xs:List α} {F:List Nat} (h:RI E w A n cap xs F) {m:Nat} (hm:m<=n):∃ F',RI E w A m cap (xs.take m) F'/\∀ g,g∈F'->g∈F:=by
 obtain ⟨h1,h2,h3,h4⟩:=h;have hl:(xs.take m).length=m:=by rw [List.length_take,h1];omega
 rcases h4 with ⟨h0,rfl⟩ | ⟨b,off,css,F',e,hb,rfl,he,hc⟩
 ·exact ⟨[],⟨hl,by omega,h3,.inl ⟨by omega,rfl⟩⟩,fun g hg=>by cases hg⟩
 ·obtain ⟨F2,h5,h6⟩:=he.take m;refine ⟨b::F2,⟨hl,by omega,h3,.inr ⟨b,off,css.take m,F2,e,hb,rfl,h5,fun i cs hi j hj=>hc i cs ?_ j hj⟩⟩,fun g hg=> ?_⟩
  ·rw [List.getElem?_take] at hi
   split at hi
   ·exact hi
   ·cases hi
  ·rcases List.mem_cons.1 hg with rfl | hg
   ·exact List.mem_cons_self ..
   ·exact List.mem_cons_of_mem _ (h6 g hg)
def DSv (w:World) (rb P:Nat) (e:Ending) (w':World):Prop:=∃ (A:Option Addr) (c:Nat) (x:List (Int×List (Mx×Mx))×Int) (F:List Nat),e= .returned (.agg #[.slice A x.1.length c,.int .i64 x.2])/\RI (kE smE) w' A x.1.length c x.1 F/\(∀ g,g∈F->w.heap.size<g)/\svS x/\Rd w' rb P/\aZ rb w w'
theorem Ei (rb P:Nat) (nn:Int) (hnn:0<=nn/\nn<=1000000) (w:World) (h:Rd w rb P) (hP:P<90000):Calls Tryz.prog 32 #[.pointer (some ⟨rb,0,none⟩),.int .i64 nn] w (DSv w rb (P+4100)):=by
 have hrw:=h.lt;have hlt0:w.heap.size<(w.alloc (.cells #[.slice none 0 0,.int .i64 0] 25)).heap.size:=by simp
 have b_0:Blk (w.alloc (.cells #[.slice none 0 0,.int .i64 0] 25)) w.heap.size 25 #[.slice none 0 0,.int .i64 0]:=Blk.new _ _ _
 go_enter Tryz.func32,Tryz.ntmps32
 go_wp2_with fail
 refine (ct rb P 2 _ (h.alloc _) (by omega)).mono ?_
 rintro e w1 ⟨a,rfl,a0,a1,r1,o1⟩;have a2:a<=1:=by omega
 have b_1:=b_0.only o1 (by omega)
 have t_1:aZ rb w w1:=((aZ.refl rb w).alloc _).trans o1;clear a1 h o1 b_0 hlt0
 go_wp2_with fail
 refine (ct rb (P+1) 2 _ r1 (by omega)).mono ?_
 rintro e w2 ⟨b,rfl,b0,b1,r2,o2⟩;have b2:b<=1:=by omega
 have b_2:=b_1.only o2 (by omega)
 have t_2:=t_1.trans o2;have q2:w.heap.size<w2.heap.size:=b_2.lt;have ha:=IntWalk.i64_in (1+a) (by omega)
 have hb:=IntWalk.i64_in (1+b) (by omega)
 clear b1 r1 o2 b_1 t_1
 go_wp2_with fail
 refine (DW rb (P+1+1) (1+a) (1+b) nn (by omega) (by omega) hnn w2 r2 (by omega)).mono ?_
 rintro e w3 ⟨A,n,c,xs,F,rfl,hri,hfr,hsm,hn5,r3,o3⟩;have b_3:=b_2.only o3 (by omega)
 have t_3:=t_2.trans o3;clear r2 o3 b_2 t_2
 go_wp2_with fail
 refine (Ea rb (P+1+1+4020) nn hnn w3 r3 (by omega)).mono ?_
 rintro e w4 ⟨sd,rfl,r4,o4⟩;have B4:=Lib.hid (b_3.only o4 (by omega))
 have T4:=Lib.hid (t_3.trans o4);have HFG:Hid (∀ g,g∈F->w.heap.size<g):=fun g hg=>by have:=(hfr.2 g hg).1;omega
 have HRI:=Lib.hid (hri.only o4 (hfr.not (by omega)))
 have HSM:=Lib.hid hsm;have HR4:=Lib.hid r4;have z4:w.heap.size<w4.heap.size:=(b_3.only o4 (by omega)).lt
 clear r3 o4 b_3 t_3 hri hfr hsm r4;have c40:w4.cell? ⟨w.heap.size,0,none⟩=some (.slice none 0 0):=B4.out.cell 0;have c41:w4.cell? ⟨w.heap.size,1,none⟩=some (.int .i64 0):=B4.out.cell 1;have f40:w4.frozen? ⟨w.heap.size,0,none⟩=false:=B4.out.frozen 0;have f41:w4.frozen? ⟨w.heap.size,1,none⟩=false:=B4.out.frozen 1
 by_cases hn2:2<n
 ·have hn2':(2:Int)<(n:Int):=by omega
  have hc2:2<=c:=by have:=HRI.out.2.1;omega
  obtain ⟨x0,hx0,_⟩:=aH (xs:=xs) (j:=0) (by have:=HRI.out.1;omega)
  obtain ⟨bb,off,_,_,rfl,_⟩:=HRI.out.at hx0;obtain ⟨F2,h2,h3⟩:=HRI.out.take (m:=2) (by omega)
  have HR2:=Lib.hid h2;have HFG2:Hid (∀ g,g∈F2->w.heap.size<g):=fun g hg=>HFG.out g (h3 g hg)
  clear h2 h3 hx0;go_wp2;refine bodyPost_ret (v:= .agg #[.slice (some ⟨bb,off,none⟩) 2 c,.int .i64 sd]) (by simp [results,Tryz.results32,go_sem,c40,c41,f40,f41,z4]) rfl ?_
  refine ⟨some ⟨bb,off,none⟩,c,(xs.take 2,sd),F2,by dsimp only;rw [HR2.out.1],?_,HFG2.out,⟨by dsimp only;rw [HR2.out.1];omega,fun p hp=>HSM.out.2 p (List.mem_of_mem_take hp)⟩,(((HR4.out.setCell (by dsimp only;omega) _).setCell (by dsimp only;omega) _).alloc _).mono (by omega),((T4.out.setCell (.inr (by dsimp only;omega)) _).setCell (.inr (by dsimp only;omega)) _).alloc _⟩
  dsimp only
  rw [HR2.out.1]
  exact RI.alloc (HR2.out.au fun g hg=>by
   have:=HFG2.out g hg
   exact (Below.heap_setCell _ _ _ g (by dsimp only;omega)).trans (Below.heap_setCell _ _ _ g (by dsimp only;omega))) _
 ·have hn2':¬ (2:Int)<(n:Int):=by omega
  go_wp2;refine bodyPost_ret (v:= .agg #[.slice A n c,.int .i64 sd]) (by simp [results,Tryz.results32,go_sem,c40,c41,f40,f41,z4]) rfl ?_
  refine ⟨A,c,(xs,sd),F,by dsimp only;rw [HRI.out.1],?_,HFG.out,⟨HSM.out.1,HSM.out.2⟩,(((HR4.out.setCell (by dsimp only;omega) _).setCell (by dsimp only;omega) _).alloc _).mono (by omega),((T4.out.setCell (.inr (by dsimp only;omega)) _).setCell (.inr (by dsimp only;omega)) _).alloc _⟩
  dsimp only
  rw [HRI.out.1]
  exact RI.alloc (HRI.out.au fun g hg=>by
   have:=HFG.out g hg
   exact (Below.heap_setCell _ _ _ g (by dsimp only;omega)).trans (Below.heap_setCell _ _ _ g (by dsimp only;omega))) _
section
attribute [local go_sem] af ah ae
theorem En (r c:Int) (v:List Int) (A B:Option Addr) (n cn m cm:Nat) (w:World) (hx0:SI w A n v) (hy0:SI w B m v) (bn:n<=281474976710656) (bm:m<=281474976710656) :
  Calls Tryz.prog 144 #[MV r c A n cn,MV r c B m cm] w fun e w'=>e= .returned (.bool true)/\Below w.heap.size w w':=by
 have HX:=Lib.hid hx0;have HY:=Lib.hid hy0;clear hx0 hy0;refine zE ?_;intro u1 H;refine zG (Ew A B n cn m cm v v u1 (SI.below HX.out H.O) (SI.below HY.out H.O) (by omega) (by omega)) ?_
 rintro e w2 ⟨rfl,hb⟩;replace H:=H.b hb;rw [nf];clear hb;refine zR ?_;clear H;intro u3 H
 exact ⟨rfl,H.O⟩
theorem Ee (w:World) (cs ds:List Value) (x:Mx×Mx) (F G:List Nat) (h:smE.P w cs x F) (h':smE.P w ds x G) (b:smS x):Calls Tryz.prog 103 #[.agg cs.toArray,.agg ds.toArray] w fun e w'=>e= .returned (.bool true)/\Below w.heap.size w w':=by
 obtain ⟨A,c,B,d,F1,F2,rfl,h1,h2,_⟩:=h;obtain ⟨A2,c2,B2,d2,F3,F4,rfl,h3,h4,_⟩:=h';have H1:=Lib.hid h1.1;have H2:=Lib.hid h2.1;have H3:=Lib.hid h3.1;have H4:=Lib.hid h4.1;obtain ⟨hs1,hs2⟩:=b;unfold mS at hs1 hs2;clear h1 h2 h3 h4
 show Calls Tryz.prog 103 #[.agg #[.int .i64 x.1.r,.int .i64 x.1.c,.slice A x.1.v.length c,.int .i64 x.2.r,.int .i64 x.2.c,.slice B x.2.v.length d],.agg #[.int .i64 x.1.r,.int .i64 x.1.c,.slice A2 x.1.v.length c2,.int .i64 x.2.r,.int .i64 x.2.c,.slice B2 x.2.v.length d2]] w _
 refine zE ?_;intro u1 H;refine zB (En x.1.r x.1.c x.1.v A A2 _ c _ c2 u1 (SI.below H1.out H.O) (SI.below H3.out H.O) (by omega) (by omega)) ?_;clear H;intro w2 u2 H
 refine zB (En x.2.r x.2.c x.2.v B B2 _ d _ d2 u2 (SI.below H2.out H.O) (SI.below H4.out H.O) (by omega) (by omega)) ?_;clear H;intro w3 u3 H
 refine zR ?_;clear H;intro u4 H
 exact ⟨rfl,H.O⟩
theorem Ed (A B:Option Addr) (n cap m cap':Nat) (xs:List (Int×List (Mx×Mx))) (F G:List Nat) (w:World) (hx:RI (kE smE) w A n cap xs F) (hy:RI (kE smE) w B m cap' xs G) (bs:gG (kS smS) xs) :
  Calls Tryz.prog 52 #[.slice A n cap,.slice B m cap'] w fun e w'=>e= .returned (.bool true)/\Below w.heap.size w w':=by
 obtain rfl:m=n:=hy.1.symm.trans hx.1;have HLN:=Lib.hid hx.1;have HX:=Lib.hid hx;have HY:=Lib.hid hy;have HS:=Lib.hid bs.2;have bm:m<=1048576:=by rw [<- hx.1];exact bs.1
 clear hx hy bs
 go_in
 have H:=Lib.hid (Hq.start w);go_wp2
 go_loopw [5] (fun i wr=>∃ j:Nat,j<=m/\i= .int .i64 j/\Hid (Hq w [] wr)) (fun i _=>m-(intOf i).toNat)
 case atStart=>exact ⟨0,Nat.zero_le _,rfl,H⟩
 case round =>
 clear H;obtain ⟨j,hj,rfl,H⟩:=hrel;have H:=H.out
 by_cases hlt:j<m
 ·obtain ⟨x,hxj,hmem⟩:=aH (xs:=xs) (j:=j) (by have:=HLN.out;omega)
  have HSX:=Lib.hid (HS.out x hmem);obtain ⟨b,off,cs,F1,rfl,hbl,hc,_,hP⟩:=HX.out.cells hxj 2 rfl;obtain ⟨b',off',ds,G1,rfl,hbl',hd,_,hQ⟩:=HY.out.cells hxj 2 rfl;obtain ⟨Aa,ca,rfl,hra⟩:=hP;obtain ⟨Ba,da,rfl,hrb⟩:=hQ;have d0:w.cell? ⟨b,off+j*2,none⟩=some (.int .i64 x.1):=hc 0 (by omega)
  have d1:w.cell? ⟨b,off+j*2+1,none⟩=some (.slice Aa x.2.length ca):=hc 1 (by omega)
  have e0:w.cell? ⟨b',off'+j*2,none⟩=some (.int .i64 x.1):=hd 0 (by omega)
  have e1:w.cell? ⟨b',off'+j*2+1,none⟩=some (.slice Ba x.2.length da):=hd 1 (by omega)
  have HRA:=Lib.hid hra;have HRB:=Lib.hid hrb;have i0':(0:Int)<=(j:Int):=by omega
  have i1:(j:Int)<(m:Int):=by omega
  have hn1:(x.1 != x.1)=false:=by simp
  have hn2:((x.2.length:Int) != (x.2.length:Int))=false:=by simp
  clear hc hd hxj hmem hra hrb;refine zN ?_;clear H;intro u21 H;have e_d0:=Nat.lt_of_lt_of_le hbl H.m;have e_e0:=Nat.lt_of_lt_of_le hbl' H.m;refine zX (tg [b,b']) ?_;clear H;intro S w22 hne H;have r_d0:=H.row ((H.O.cell (p:=⟨b,off+j*2,none⟩) hbl).trans d0);have r_d1:=H.row ((H.O.cell (p:=⟨b,off+j*2+1,none⟩) hbl).trans d1);have r_e0:=H.row ((H.O.cell (p:=⟨b',off'+j*2,none⟩) hbl').trans e0);have r_e1:=H.row ((H.O.cell (p:=⟨b',off'+j*2+1,none⟩) hbl').trans e1);refine yL ?_;refine yN ?_;clear H;intro u23 H;have hbx:x.2.length<=1048576:=HSX.out.1;intros
  go_loopw [6] (fun i wr=>∃ i':Nat,i'<=x.2.length/\i= .int .i64 i'/\Hid (Hq w [] wr)) (fun i _=>x.2.length-(intOf i).toNat)
  case atStart=>exact ⟨0,Nat.zero_le _,rfl,H⟩
  case round =>
  clear H;obtain ⟨i,hi,rfl,H⟩:=hrel;have H:=H.out;have D1:wr.cell? ⟨b,off+j*2+1,none⟩=some (.slice Aa x.2.length ca):=(H.O.cell (p:=⟨b,off+j*2+1,none⟩) hbl).trans d1;have zb:=Nat.lt_of_lt_of_le hbl H.m
  by_cases hli:i<x.2.length
  ·obtain ⟨p,hpi,hpm⟩:=aH (xs:=x.2) (j:=i) hli;have HSP:=Lib.hid (HSX.out.2 p hpm);obtain ⟨g,o1,cs,Fp,rfl,hgl,hcx,_,hpp⟩:=HRA.out.cells hpi 6 rfl;obtain ⟨g',o2,ds,Gp,rfl,hgl',hcy,_,hpq⟩:=HRB.out.cells hpi 6 rfl;have hPP:(∀ y:World,Below w.heap.size w y->smE.P y cs p Fp)/\(∀ y:World,Below w.heap.size w y->smE.P y ds p Gp):=⟨fun y hy=>smE.au _ _ _ _ _ hpp fun yq hq=>hy.block yq (smE.lt _ _ _ _ hpp yq hq),fun y hy=>smE.au _ _ _ _ _ hpq fun yq hq=>hy.block yq (smE.lt _ _ _ _ hpq yq hq)⟩
   obtain ⟨Ap,cp,Bp,dp,Fa,Fb,rfl,_,_,_⟩:=hpp;obtain ⟨Aq,cq,Bq,dq,Ga,Gb,rfl,_,_,_⟩:=hpq;have HPP:=Lib.hid hPP;have x0:w.cell? ⟨g,o1+i*6,none⟩=some (.int .i64 p.1.r):=hcx 0 (by omega)
   have x1:w.cell? ⟨g,o1+i*6+1,none⟩=some (.int .i64 p.1.c):=hcx 1 (by omega)
   have x2:w.cell? ⟨g,o1+i*6+2,none⟩=some (.slice Ap p.1.v.length cp):=hcx 2 (by omega)
   have x3:w.cell? ⟨g,o1+i*6+3,none⟩=some (.int .i64 p.2.r):=hcx 3 (by omega)
   have x4:w.cell? ⟨g,o1+i*6+4,none⟩=some (.int .i64 p.2.c):=hcx 4 (by omega)
   have x5:w.cell? ⟨g,o1+i*6+5,none⟩=some (.slice Bp p.2.v.length dp):=hcx 5 (by omega)
   have y0:w.cell? ⟨g',o2+i*6,none⟩=some (.int .i64 p.1.r):=hcy 0 (by omega)
   have y1:w.cell? ⟨g',o2+i*6+1,none⟩=some (.int .i64 p.1.c):=hcy 1 (by omega)
   have y2:w.cell? ⟨g',o2+i*6+2,none⟩=some (.slice Aq p.1.v.length cq):=hcy 2 (by omega)
   have y3:w.cell? ⟨g',o2+i*6+3,none⟩=some (.int .i64 p.2.r):=hcy 3 (by omega)
   have y4:w.cell? ⟨g',o2+i*6+4,none⟩=some (.int .i64 p.2.c):=hcy 4 (by omega)
   have y5:w.cell? ⟨g',o2+i*6+5,none⟩=some (.slice Bq p.2.v.length dq):=hcy 5 (by omega)
   have j0':(0:Int)<=(i:Int):=by omega
   have j1:(i:Int)<(x.2.length:Int):=by omega
   clear hcx hcy hpi hpm hPP;refine zN ?_;clear H;intro u41 H;have e_d1:=Nat.lt_of_lt_of_le hbl H.m;have e_e1:=Nat.lt_of_lt_of_le hbl' H.m;have e_x0:=Nat.lt_of_lt_of_le hgl H.m;have e_y0:=Nat.lt_of_lt_of_le hgl' H.m;refine zX (tg [b,b',g,g']) ?_;clear H;intro S w42 hne H;have r_d1:=H.row ((H.O.cell (p:=⟨b,off+j*2+1,none⟩) hbl).trans d1);have r_e1:=H.row ((H.O.cell (p:=⟨b',off'+j*2+1,none⟩) hbl').trans e1);have r_x0:=H.row ((H.O.cell (p:=⟨g,o1+i*6,none⟩) hgl).trans x0);have r_x1:=H.row ((H.O.cell (p:=⟨g,o1+i*6+1,none⟩) hgl).trans x1);have r_x2:=H.row ((H.O.cell (p:=⟨g,o1+i*6+2,none⟩) hgl).trans x2);have r_x3:=H.row ((H.O.cell (p:=⟨g,o1+i*6+3,none⟩) hgl).trans x3);have r_x4:=H.row ((H.O.cell (p:=⟨g,o1+i*6+4,none⟩) hgl).trans x4);have r_x5:=H.row ((H.O.cell (p:=⟨g,o1+i*6+5,none⟩) hgl).trans x5);have r_y0:=H.row ((H.O.cell (p:=⟨g',o2+i*6,none⟩) hgl').trans y0);have r_y1:=H.row ((H.O.cell (p:=⟨g',o2+i*6+1,none⟩) hgl').trans y1);have r_y2:=H.row ((H.O.cell (p:=⟨g',o2+i*6+2,none⟩) hgl').trans y2);have r_y3:=H.row ((H.O.cell (p:=⟨g',o2+i*6+3,none⟩) hgl').trans y3);have r_y4:=H.row ((H.O.cell (p:=⟨g',o2+i*6+4,none⟩) hgl').trans y4);have r_y5:=H.row ((H.O.cell (p:=⟨g',o2+i*6+5,none⟩) hgl').trans y5);refine yB (Ee w42 [.int .i64 p.1.r,.int .i64 p.1.c,.slice Ap p.1.v.length cp,.int .i64 p.2.r,.int .i64 p.2.c,.slice Bp p.2.v.length dp] [.int .i64 p.1.r,.int .i64 p.1.c,.slice Aq p.1.v.length cq,.int .i64 p.2.r,.int .i64 p.2.c,.slice Bq p.2.v.length dq] p Fp Gp (HPP.out.1 _ H.O) (HPP.out.2 _ H.O) HSP.out) ?_;clear H;intro w43 H;intros
   repeat (first | (refine lc' ?_;intro K hK;go_big_quiet_op;go_big_quiet_on) | refine lk' ?_)
   refine aI ?_;replace H:=H.H;refine zC ?_;intro C;intros;go_wp2
   go_roundw
   case rel=>exact ⟨i+1,by omega,by go_num,H⟩
   case measure=>simp [intOf];omega
  ·obtain rfl:i=x.2.length:=by omega
   have HH:=Lib.hid H;clear H;go_wp2
   go_roundw
   case rel=>exact ⟨j+1,by omega,by go_num,HH⟩
   case measure=>simp [intOf];omega
 ·obtain rfl:j=m:=by omega
  have HO:=Lib.hid H.O;clear H;go_wp2
  go_ret
  exact ⟨rfl,HO.out⟩
theorem DD (w:World) (cs ds:List Value) (x:List (Int×List (Mx×Mx))×Int) (F G:List Nat) (h:tB.P w cs x F) (h':tB.P w ds x G) (b:svS x):Calls Tryz.prog 11 #[.agg cs.toArray,.agg ds.toArray] w fun e w'=>e= .returned (.bool true)/\Below w.heap.size w w':=by
 obtain ⟨A,c,rfl,h1⟩:=h;obtain ⟨A2,c2,rfl,h2⟩:=h';have HX:=Lib.hid h1;have HY:=Lib.hid h2;clear h1 h2
 show Calls Tryz.prog 11 #[.agg #[.slice A x.1.length c,.int .i64 x.2],.agg #[.slice A2 x.1.length c2,.int .i64 x.2]] w _
 refine zE ?_;intro u1 H;refine zB (Ed A A2 _ c _ c2 x.1 F G u1 (HX.out.below H.O) (HY.out.below H.O) b) ?_;clear H;intro w2 u2 H;refine zR ?_;clear H;intro u3 H
 exact ⟨rfl,H.O⟩
end
end Go.Proofs.YtjciicheoghcdaaGreatDoor

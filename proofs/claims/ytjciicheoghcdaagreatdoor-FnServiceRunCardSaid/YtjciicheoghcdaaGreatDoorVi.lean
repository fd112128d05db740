/- Part of the proof: the law FnServiceRun is true for every input. -/
import Derived.BigQuiet
import Derived.Deep.DeepCutAuto
import Derived.Deep.QuietTactic
import Derived.Deep.RegionHeld3
import Derived.Test.YtjciicheoghcdaaGreatDoorVc
import Derived.Test.YtjciicheoghcdaaGreatDoorVg
import Derived.Test.YtjciicheoghcdaaGreatDoorVh
namespace Go.Proofs.YtjciicheoghcdaaGreatDoor
open Go.RowKit Go.Proofs.Tryz
set_option linter.all false
set_option maxRecDepth 20000
set_option maxHeartbeats 16000000
theorem Au {k:Int} {ms:List Mx} {m:Mx} (hm:m∈ms) (h:mvB m=false):aL k ms=false:=by
 unfold aL
 split
 ·cases hl:ms.length == 2
  ·rfl
  ·have hl:ms.length=2:=by simpa using hl
   match ms,hl,hm with
   | [a,b],_,hm =>
    rcases List.mem_cons.1 hm with rfl|hm
    ·simp[dfB,h]
    ·have:m=b:=by simpa using hm
     subst this
     simp[dfB,h]
 ·split
  ·cases ms with
   | nil=>cases hm
   | cons a l=>rfl
  ·split
   ·have:jN ms=false:=List.all_eq_false.2 ⟨m,hm,by simp[h]⟩
    rw[this,Bool.and_false]
   ·rfl
theorem BG {ms:List Mx} {m0 m1:Mx} (hn:ms.length=2) (h0:ms[0]?=some m0) (h1:ms[1]?=some m1) (v0:mvB m0=true) (v1:mvB m1=true):aL 1 ms=(decide (m1.c=1) && decide (m1.r=m0.r)):=by
 unfold aL;rw[if_pos rfl,iW h0,iW h1,hn]
 simp[dfB,v0,v1]
theorem BH {ms:List Mx} {m0 m1 m2:Mx} (hn:ms.length=3) (h0:ms[0]?=some m0) (h1:ms[1]?=some m1) (h2:ms[2]?=some m2) (v0:mvB m0=true) (v1:mvB m1=true) (v2:mvB m2=true):aL 3 ms=(decide (m0.r=m0.c) && (az m0 m1 && az m0 m2)):=by
 unfold aL;rw[if_neg (by decide),if_neg (by decide),if_pos rfl,hn]
 match ms,hn with
 | [a,b,c],_ =>
  have e0:a=m0:=by simpa using h0
  have e1:b=m1:=by simpa using h1
  have e2:c=m2:=by simpa using h2
  subst e0 e1 e2
  simp[jN,az,v0,v1,v2,bS]
  by_cases h:a.r=a.c
  ·simp only[h,decide_true,Bool.true_and]
   by_cases hb:a.c=b.r
   ·by_cases hbc:a.c=b.c
    ·simp[<-hb,<-hbc]
     by_cases hc:a.c=c.r
     ·by_cases hcc:a.c=c.c
      ·simp[<-hc,<-hcc]
      ·simp[<-hc,hcc,Ne.symm hcc]
     ·simp[hc,Ne.symm hc]
    ·simp[<-hb,hbc,Ne.symm hbc]
   ·simp[hb,Ne.symm hb]
  ·simp[h]
theorem Gr {k:Int} {ms:List Mx} (h1:k≠1) (h2:k≠2) (h3:k≠3):aL k ms=false:=by
 unfold aL;rw[if_neg h1,if_neg h2,if_neg h3]
theorem dx (k:Int) (A:Option Addr) (n cap:Nat) (ms:List Mx) (F:List Nat) (w:World) (hx:RI mxE w A n cap ms F) (bs:∀ m,m∈ms->mS m) (bn:n<=1048576) :
  Calls prog 90 #[.agg #[.int .i64 k,.slice A n cap]] w fun e w'=>e= .returned (.bool (aL k ms))/\Below w.heap.size w w':=by
 have HX:=Qh hx;have HLN:=Qh hx.1;have HS:=Qh bs;clear hx bs;have HB0:Hid (Blk (w.alloc (.cells #[.int .i64 k,.slice A n cap] 80)) w.heap.size 80 #[.int .i64 k,.slice A n cap]):=Blk.new _ _ _;have HO0:Hid (Below w.heap.size w (w.alloc (.cells #[.int .i64 k,.slice A n cap] 80))):=Qb.alloc Ql _
 go_enter func90,ntmps90
 go_wp2
 go_loopw [3] (fun i wr=>∃ j:Nat,j<=n/\i= .int .i64 j/\Hid (Blk wr w.heap.size 80 #[.int .i64 k,.slice A n cap])/\Hid (Below w.heap.size w wr)/\Hid (∀ q x,q<j->ms[q]?=some x->mvB x=true)) (fun i _=>n-(intOf i).toNat)
 case atStart=>exact⟨0,Nat.zero_le _,rfl,HB0,HO0,fun q x hk=>absurd hk (by omega)⟩
 case round =>
 obtain⟨j,hj,rfl,hblk,hob,hval⟩:=hrel;clear HB0 HO0;have z0:w.heap.size<wr.heap.size:=hblk.out.lt;have c0:wr.cell? ⟨w.heap.size,0,none⟩=some (.int .i64 k):=hblk.out.cell 0;have c1:wr.cell? ⟨w.heap.size,1,none⟩=some (.slice A n cap):=hblk.out.cell 1
 by_cases hlt:j<n
 ·obtain⟨m,hmj,hmem⟩:=aH (xs:=ms) (j:=j) (by have:=HLN.out;omega)
  have HXJ:=Qh hmj;have HME:=Qh hmem;have hb1:m.v.length<=1048576:=HS.out m hmem;obtain⟨b,off,cs,F1,rfl,hbl,hc,_,A1,p1,rfl,hm1⟩:=(HX.out.below hob.out).cells hmj 3 rfl;have a0:wr.cell? ⟨b,off+j*3,none⟩=some (.int .i64 m.r):=hc 0 (by omega)
  have a1:wr.cell? ⟨b,off+j*3+1,none⟩=some (.int .i64 m.c):=hc 1 (by omega)
  have a2:wr.cell? ⟨b,off+j*3+2,none⟩=some (.slice A1 m.v.length p1):=hc 2 (by omega)
  have HS1:=Qh hm1.1;have i0:(0:Int)<=(j:Int):=by omega
  have i1:(j:Int)<(n:Int):=by omega
  clear hc hm1 hmj hmem
  go_wp2_with fail
  refine(aM m.r m.c m.v A1 _ p1 wr HS1.out (by omega)).mono ?_
  rintro e w2 ⟨rfl,hb⟩;have HB2:=Qh (hblk.out.aa hb);have HO2:=Qh (hob.out.trans (hb.mono (hob.out.size)));clear hb hblk hob
  cases g:mvB ⟨m.r,m.c,m.v⟩
  ·have HNO:Hid (aL k ms=false):=Au HME.out g;clear g;go_wp2
   go_ret
   exact⟨by first|exact HNO.out|(rw[HNO.out];rfl),HO2.out⟩
  ·have HV:Hid (∀ q x,q<j+1->ms[q]?=some x->mvB x=true):=by
    intro q x hq hx
    by_cases hqj:q<j
    ·exact hval.out q x hqj hx
    ·obtain rfl:q=j:=by omega
     rw[HXJ.out] at hx;injection hx with hx;subst hx
     exact g
   clear g;go_wp2
   go_roundw
   case rel=>exact⟨j+1,by omega,by go_num,HB2,HO2,HV⟩
   case measure=>simp[intOf];omega
 ·obtain rfl:j=n:=by omega
  have HALL:Hid (∀ m,m∈ms->mvB m=true):=fun m hm=>by
   obtain⟨q,hq⟩:=List.getElem?_of_mem hm
   exact hval.out q m (by have:=(List.getElem?_eq_some_iff.1 hq).1;have:=HLN.out;omega) hq
  clear hval hblk
  by_cases k1:k=1
  ·subst k1
   by_cases n2:j=2
   ·subst n2;obtain⟨m0,hm0,hme0⟩:=aH (xs:=ms) (j:=0) (by have:=HLN.out;omega)
    have HM0:=Qh hm0;have hs0:m0.v.length<=1048576:=HS.out m0 hme0;have hv0:=HALL.out m0 hme0;obtain⟨b,off,cs,F0,rfl,hbl,hc,_,A0,p0,rfl,hq0⟩:=(HX.out.below hob.out).cells hm0 3 rfl;have d0_0:wr.cell? ⟨b,off,none⟩=some (.int .i64 m0.r):=by have:=hc 0 (by omega);simpa [Nat.add_assoc] using this
    have d0_1:wr.cell? ⟨b,off+1,none⟩=some (.int .i64 m0.c):=by have:=hc 1 (by omega);simpa [Nat.add_assoc] using this
    have d0_2:wr.cell? ⟨b,off+2,none⟩=some (.slice A0 m0.v.length p0):=by have:=hc 2 (by omega);simpa [Nat.add_assoc] using this
    have HQ0:=Qh hq0.1;clear hc hq0 hm0 hme0;obtain⟨m1,hm1,hme1⟩:=aH (xs:=ms) (j:=1) (by have:=HLN.out;omega)
    have HM1:=Qh hm1;have hs1:m1.v.length<=1048576:=HS.out m1 hme1;have hv1:=HALL.out m1 hme1;obtain⟨b',off',cs,F1,hA',_,hc,_,A1,p1,rfl,hq1⟩:=(HX.out.below hob.out).cells hm1 3 rfl;injection hA' with hA';injection hA' with h1 h2;subst h1 h2;have d1_0:wr.cell? ⟨b,off+3,none⟩=some (.int .i64 m1.r):=by have:=hc 0 (by omega);simpa [Nat.add_assoc] using this
    have d1_1:wr.cell? ⟨b,off+4,none⟩=some (.int .i64 m1.c):=by have:=hc 1 (by omega);simpa [Nat.add_assoc] using this
    have d1_2:wr.cell? ⟨b,off+5,none⟩=some (.slice A1 m1.v.length p1):=by have:=hc 2 (by omega);simpa [Nat.add_assoc] using this
    have HQ1:=Qh hq1.1;clear hc hq1 hm1 hme1;have hl:=BG HLN.out HM0.out HM1.out hv0 hv1;clear hv0 hv1;have j1:(1:Int)<((2:Nat):Int):=by omega
    have j0:(0:Int)<((2:Nat):Int):=by omega
    by_cases q1:m1.c=1
    ·by_cases q2:m1.r=m0.r
     ·have he:aL 1 ms=true:=by rw[hl];simp[q1,q2]
      have HE:=Qh he;clear he hl;have t1:(m1.c == 1)=true:=by simp[q1]
      have t2:(m1.r == m0.r)=true:=by simp[q2]
      clear q1 q2
      go_wp2_with fail
      go_quiet (fail)
      go_wp2
      go_ret
      exact⟨by first|exact HE.out|(rw[HE.out];rfl)|rw[HE.out],by first|exact hob.out|exact below_drewN hob.out _⟩
     ·have he:aL 1 ms=false:=by rw[hl];simp[q1,q2]
      have HE:=Qh he;clear he hl;have t1:(m1.c == 1)=true:=by simp[q1]
      have t2:(m1.r == m0.r)=false:=by simp[q2]
      clear q1 q2
      go_wp2_with fail
      go_quiet (fail)
      go_wp2
      go_ret
      exact⟨by first|exact HE.out|(rw[HE.out];rfl)|rw[HE.out],by first|exact hob.out|exact below_drewN hob.out _⟩
    ·have he:aL 1 ms=false:=by rw[hl];simp[q1]
     have HE:=Qh he;clear he hl;have t1:(m1.c == 1)=false:=by simp[q1]
     clear q1
     go_wp2_with fail
     go_quiet (fail)
     go_wp2
     go_ret
     exact⟨by first|exact HE.out|(rw[HE.out];rfl)|rw[HE.out],by first|exact hob.out|exact below_drewN hob.out _⟩
   ·have he:aL 1 ms=false:=by unfold aL;rw[if_pos rfl,HLN.out];simp[n2]
    have HE:=Qh he;clear he;have t1:((j:Int) == 2)=false:=by simp;omega
    go_wp2_with fail
    go_quiet (fail)
    go_wp2
    go_ret
    exact⟨by first|exact HE.out|(rw[HE.out];rfl)|rw[HE.out],by first|exact hob.out|exact below_drewN hob.out _⟩
  by_cases k2:k=2
  ·subst k2;clear k1;have he:aL 2 ms=((j:Int) == 0):=by
    unfold aL;rw[if_neg (by decide),if_pos rfl,HLN.out]
    cases j <;> simp <;> omega
   have HE:=Qh he;clear he;go_wp2
   go_ret
   exact⟨by first|exact HE.out|(rw[HE.out];rfl)|rw[HE.out],hob.out⟩
  by_cases k3:k=3
  ·subst k3;clear k1 k2
   by_cases n3:j=3
   ·subst n3;obtain⟨m0,hm0,hme0⟩:=aH (xs:=ms) (j:=0) (by have:=HLN.out;omega)
    have HM0:=Qh hm0;have hs0:m0.v.length<=1048576:=HS.out m0 hme0;have hv0:=HALL.out m0 hme0;obtain⟨b,off,cs,F0,rfl,hbl,hc,_,A0,p0,rfl,hq0⟩:=(HX.out.below hob.out).cells hm0 3 rfl;have d0_0:wr.cell? ⟨b,off,none⟩=some (.int .i64 m0.r):=by have:=hc 0 (by omega);simpa [Nat.add_assoc] using this
    have d0_1:wr.cell? ⟨b,off+1,none⟩=some (.int .i64 m0.c):=by have:=hc 1 (by omega);simpa [Nat.add_assoc] using this
    have d0_2:wr.cell? ⟨b,off+2,none⟩=some (.slice A0 m0.v.length p0):=by have:=hc 2 (by omega);simpa [Nat.add_assoc] using this
    have HQ0:=Qh hq0.1;clear hc hq0 hm0 hme0;obtain⟨m1,hm1,hme1⟩:=aH (xs:=ms) (j:=1) (by have:=HLN.out;omega)
    have HM1:=Qh hm1;have hs1:m1.v.length<=1048576:=HS.out m1 hme1;have hv1:=HALL.out m1 hme1;obtain⟨b',off',cs,F1,hA',_,hc,_,A1,p1,rfl,hq1⟩:=(HX.out.below hob.out).cells hm1 3 rfl;injection hA' with hA';injection hA' with h1 h2;subst h1 h2;have d1_0:wr.cell? ⟨b,off+3,none⟩=some (.int .i64 m1.r):=by have:=hc 0 (by omega);simpa [Nat.add_assoc] using this
    have d1_1:wr.cell? ⟨b,off+4,none⟩=some (.int .i64 m1.c):=by have:=hc 1 (by omega);simpa [Nat.add_assoc] using this
    have d1_2:wr.cell? ⟨b,off+5,none⟩=some (.slice A1 m1.v.length p1):=by have:=hc 2 (by omega);simpa [Nat.add_assoc] using this
    have HQ1:=Qh hq1.1;clear hc hq1 hm1 hme1;obtain⟨m2,hm2,hme2⟩:=aH (xs:=ms) (j:=2) (by have:=HLN.out;omega)
    have HM2:=Qh hm2;have hs2:m2.v.length<=1048576:=HS.out m2 hme2;have hv2:=HALL.out m2 hme2;obtain⟨b',off',cs,F2,hA',_,hc,_,A2,p2,rfl,hq2⟩:=(HX.out.below hob.out).cells hm2 3 rfl;injection hA' with hA';injection hA' with h1 h2;subst h1 h2;have d2_0:wr.cell? ⟨b,off+6,none⟩=some (.int .i64 m2.r):=by have:=hc 0 (by omega);simpa [Nat.add_assoc] using this
    have d2_1:wr.cell? ⟨b,off+7,none⟩=some (.int .i64 m2.c):=by have:=hc 1 (by omega);simpa [Nat.add_assoc] using this
    have d2_2:wr.cell? ⟨b,off+8,none⟩=some (.slice A2 m2.v.length p2):=by have:=hc 2 (by omega);simpa [Nat.add_assoc] using this
    have HQ2:=Qh hq2.1;clear hc hq2 hm2 hme2;have hl:=BH HLN.out HM0.out HM1.out HM2.out hv0 hv1 hv2;clear hv0 hv1 hv2;have j2:(2:Int)<((3:Nat):Int):=by omega
    have j1:(1:Int)<((3:Nat):Int):=by omega
    have j0:(0:Int)<((3:Nat):Int):=by omega
    by_cases q1:m0.r=m0.c
    ·cases e1:az m0 m1
     ·have he:aL 3 ms=false:=by rw[hl];simp[q1,e1]
      have HE:=Qh he;clear he hl;have t1:(m0.r == m0.c)=true:=by simp[q1]
      clear q1
      go_wp2_with fail
      have HL1:Hid (∀ W:World,Below wr.heap.size wr W->Calls prog 134 #[MV m0.r m0.c A0 m0.v.length p0,MV m1.r m1.c A1 m1.v.length p1] W fun e w'=>e= .returned (.bool (az m0 m1))/\Below W.heap.size W w'):=fun W hW=>eD m0.r m0.c m1.r m1.c m0.v m1.v A0 A1 _ p0 _ p1 W (HQ0.out.below hW) (HQ1.out.below hW) hs0 hs1
      have HL2:Hid (∀ W:World,Below wr.heap.size wr W->Calls prog 134 #[MV m0.r m0.c A0 m0.v.length p0,MV m2.r m2.c A2 m2.v.length p2] W fun e w'=>e= .returned (.bool (az m0 m2))/\Below W.heap.size W w'):=fun W hW=>eD m0.r m0.c m2.r m2.c m0.v m2.v A0 A2 _ p0 _ p2 W (HQ0.out.below hW) (HQ2.out.below hW) hs0 hs2
      rw[e1] at HL1
      go_wp2_with fail
      refine aS (fun w'=>Below wr.heap.size wr w') (by kernel_rfl) (by kernel_rfl) Qb.drew ?_
      intro hne;have g1:∀ x:Wd (fun w'=>Below wr.heap.size wr w'),x.w.cell? ⟨w.heap.size,1,none⟩=some (.slice (some ⟨b,off,none⟩) 3 cap):=fun x=>(x.h.cell (p:=⟨w.heap.size,1,none⟩) z0).trans c1
      have g_d0_0:∀ x:Wd (fun w'=>Below wr.heap.size wr w'),x.w.cell? ⟨b,off,none⟩=some (.int .i64 m0.r):=fun x=>(x.h.cell (p:=⟨b,off,none⟩) hbl).trans d0_0
      have g_d0_1:∀ x:Wd (fun w'=>Below wr.heap.size wr w'),x.w.cell? ⟨b,off+1,none⟩=some (.int .i64 m0.c):=fun x=>(x.h.cell (p:=⟨b,off+1,none⟩) hbl).trans d0_1
      have g_d0_2:∀ x:Wd (fun w'=>Below wr.heap.size wr w'),x.w.cell? ⟨b,off+2,none⟩=some (.slice A0 m0.v.length p0):=fun x=>(x.h.cell (p:=⟨b,off+2,none⟩) hbl).trans d0_2
      have g_d1_0:∀ x:Wd (fun w'=>Below wr.heap.size wr w'),x.w.cell? ⟨b,off+3,none⟩=some (.int .i64 m1.r):=fun x=>(x.h.cell (p:=⟨b,off+3,none⟩) hbl).trans d1_0
      have g_d1_1:∀ x:Wd (fun w'=>Below wr.heap.size wr w'),x.w.cell? ⟨b,off+4,none⟩=some (.int .i64 m1.c):=fun x=>(x.h.cell (p:=⟨b,off+4,none⟩) hbl).trans d1_1
      have g_d1_2:∀ x:Wd (fun w'=>Below wr.heap.size wr w'),x.w.cell? ⟨b,off+5,none⟩=some (.slice A1 m1.v.length p1):=fun x=>(x.h.cell (p:=⟨b,off+5,none⟩) hbl).trans d1_2
      have g_d2_0:∀ x:Wd (fun w'=>Below wr.heap.size wr w'),x.w.cell? ⟨b,off+6,none⟩=some (.int .i64 m2.r):=fun x=>(x.h.cell (p:=⟨b,off+6,none⟩) hbl).trans d2_0
      have g_d2_1:∀ x:Wd (fun w'=>Below wr.heap.size wr w'),x.w.cell? ⟨b,off+7,none⟩=some (.int .i64 m2.c):=fun x=>(x.h.cell (p:=⟨b,off+7,none⟩) hbl).trans d2_1
      have g_d2_2:∀ x:Wd (fun w'=>Below wr.heap.size wr w'),x.w.cell? ⟨b,off+8,none⟩=some (.slice A2 m2.v.length p2):=fun x=>(x.h.cell (p:=⟨b,off+8,none⟩) hbl).trans d2_2
      repeat (go_big_quiet_step (first
       | (rename_i x;go_at_call 134;with_reducible exact d_ x Ql (HL1.out _ x.h))
       | fail))
      refine wpQuiet_nil ?_;rintro wc ⟨x,hx⟩;have hwc:Below wr.heap.size wr wc:=by rw[hx];exact x.h
      clear hx x;have HC:Hid (Below w.heap.size w wc):=hob.out.trans (hwc.mono hob.out.size);go_wp2
      go_ret
      exact⟨by first|exact HE.out|(rw[HE.out];rfl)|rw[HE.out],HC.out⟩
     ·have he:aL 3 ms=az m0 m2:=by rw[hl];simp[q1,e1]
      have HE:=Qh he;clear he hl;have t1:(m0.r == m0.c)=true:=by simp[q1]
      clear q1
      go_wp2_with fail
      have HL1:Hid (∀ W:World,Below wr.heap.size wr W->Calls prog 134 #[MV m0.r m0.c A0 m0.v.length p0,MV m1.r m1.c A1 m1.v.length p1] W fun e w'=>e= .returned (.bool (az m0 m1))/\Below W.heap.size W w'):=fun W hW=>eD m0.r m0.c m1.r m1.c m0.v m1.v A0 A1 _ p0 _ p1 W (HQ0.out.below hW) (HQ1.out.below hW) hs0 hs1
      have HL2:Hid (∀ W:World,Below wr.heap.size wr W->Calls prog 134 #[MV m0.r m0.c A0 m0.v.length p0,MV m2.r m2.c A2 m2.v.length p2] W fun e w'=>e= .returned (.bool (az m0 m2))/\Below W.heap.size W w'):=fun W hW=>eD m0.r m0.c m2.r m2.c m0.v m2.v A0 A2 _ p0 _ p2 W (HQ0.out.below hW) (HQ2.out.below hW) hs0 hs2
      rw[e1] at HL1
      go_wp2_with fail
      refine aS (fun w'=>Below wr.heap.size wr w') (by kernel_rfl) (by kernel_rfl) Qb.drew ?_
      intro hne;have g1:∀ x:Wd (fun w'=>Below wr.heap.size wr w'),x.w.cell? ⟨w.heap.size,1,none⟩=some (.slice (some ⟨b,off,none⟩) 3 cap):=fun x=>(x.h.cell (p:=⟨w.heap.size,1,none⟩) z0).trans c1
      have g_d0_0:∀ x:Wd (fun w'=>Below wr.heap.size wr w'),x.w.cell? ⟨b,off,none⟩=some (.int .i64 m0.r):=fun x=>(x.h.cell (p:=⟨b,off,none⟩) hbl).trans d0_0
      have g_d0_1:∀ x:Wd (fun w'=>Below wr.heap.size wr w'),x.w.cell? ⟨b,off+1,none⟩=some (.int .i64 m0.c):=fun x=>(x.h.cell (p:=⟨b,off+1,none⟩) hbl).trans d0_1
      have g_d0_2:∀ x:Wd (fun w'=>Below wr.heap.size wr w'),x.w.cell? ⟨b,off+2,none⟩=some (.slice A0 m0.v.length p0):=fun x=>(x.h.cell (p:=⟨b,off+2,none⟩) hbl).trans d0_2
      have g_d1_0:∀ x:Wd (fun w'=>Below wr.heap.size wr w'),x.w.cell? ⟨b,off+3,none⟩=some (.int .i64 m1.r):=fun x=>(x.h.cell (p:=⟨b,off+3,none⟩) hbl).trans d1_0
      have g_d1_1:∀ x:Wd (fun w'=>Below wr.heap.size wr w'),x.w.cell? ⟨b,off+4,none⟩=some (.int .i64 m1.c):=fun x=>(x.h.cell (p:=⟨b,off+4,none⟩) hbl).trans d1_1
      have g_d1_2:∀ x:Wd (fun w'=>Below wr.heap.size wr w'),x.w.cell? ⟨b,off+5,none⟩=some (.slice A1 m1.v.length p1):=fun x=>(x.h.cell (p:=⟨b,off+5,none⟩) hbl).trans d1_2
      have g_d2_0:∀ x:Wd (fun w'=>Below wr.heap.size wr w'),x.w.cell? ⟨b,off+6,none⟩=some (.int .i64 m2.r):=fun x=>(x.h.cell (p:=⟨b,off+6,none⟩) hbl).trans d2_0
      have g_d2_1:∀ x:Wd (fun w'=>Below wr.heap.size wr w'),x.w.cell? ⟨b,off+7,none⟩=some (.int .i64 m2.c):=fun x=>(x.h.cell (p:=⟨b,off+7,none⟩) hbl).trans d2_1
      have g_d2_2:∀ x:Wd (fun w'=>Below wr.heap.size wr w'),x.w.cell? ⟨b,off+8,none⟩=some (.slice A2 m2.v.length p2):=fun x=>(x.h.cell (p:=⟨b,off+8,none⟩) hbl).trans d2_2
      repeat (go_big_quiet_step (first
       | (rename_i x;go_at_call 134;with_reducible exact d_ x Ql (HL1.out _ x.h))
       | (rename_i x;go_at_call 134;with_reducible exact d_ x Ql (HL2.out _ x.h))
       | fail))
      refine wpQuiet_nil ?_;rintro wc ⟨x,hx⟩;have hwc:Below wr.heap.size wr wc:=by rw[hx];exact x.h
      clear hx x;have HC:Hid (Below w.heap.size w wc):=hob.out.trans (hwc.mono hob.out.size);go_wp2
      go_ret
      exact⟨by first|exact HE.out|(rw[HE.out];rfl)|rw[HE.out],HC.out⟩
    ·have he:aL 3 ms=false:=by rw[hl];simp[q1]
     have HE:=Qh he;clear he hl;have t1:(m0.r == m0.c)=false:=by simp[q1]
     clear q1
     go_wp2_with fail
     go_quiet (fail)
     go_wp2
     go_ret
     exact⟨by first|exact HE.out|(rw[HE.out];rfl)|rw[HE.out],by first|exact hob.out|exact below_drewN hob.out _⟩
   ·have he:aL 3 ms=false:=by unfold aL;rw[if_neg (by decide),if_neg (by decide),if_pos rfl,HLN.out];simp[n3]
    have HE:=Qh he;clear he;have t1:((j:Int) == 3)=false:=by simp;omega
    go_wp2_with fail
    go_quiet (fail)
    go_wp2
    go_ret
    exact⟨by first|exact HE.out|(rw[HE.out];rfl)|rw[HE.out],by first|exact hob.out|exact below_drewN hob.out _⟩
  ·have HE:=Qh (Gr (ms:=ms) k1 k2 k3);go_wp2
   go_ret
   exact⟨by first|exact HE.out|(rw[HE.out];rfl)|rw[HE.out],hob.out⟩
def LOv (w:World) (k:Int) (A:Option Addr) (n cap:Nat) (ms:List Mx) (v:Value):Prop :=
 (aL k ms=false/\v= .nilIface) \/
 (aL k ms=true/\((k=1/\∃ A0 p0 F0 A1 p1 F1 m0 m1,ms[0]?=some m0/\ms[1]?=some m1/\MF w A0 p0 m0 F0/\MF w A1 p1 m1 F1/\v= .iface 178 (.agg #[.int .i64 m0.r,.int .i64 m0.c,.slice A0 m0.v.length p0,.int .i64 m1.r,.int .i64 m1.c,.slice A1 m1.v.length p1])) \/
  (k=2/\v= .iface 180 (.agg #[]))\/(k=3/\v= .iface 183 (.agg #[.slice A n cap]))))
def LOf (w0:World) (k:Int) (A:Option Addr) (n cap:Nat) (ms:List Mx) (w:World) (e:Ending) (w':World):Prop:=∃ v,e= .returned (.tuple #[v,.bool (aL k ms)])/\LOv w0 k A n cap ms v/\Below w.heap.size w w'
theorem CA {ms:List Mx} {m0 m1:Mx} (hn:ms.length=2) (h0:ms[0]?=some m0) (h1:ms[1]?=some m1):aL 1 ms=dfB m0 m1:=by
 unfold aL;rw[if_pos rfl,iW h0,iW h1,hn]
 rfl
theorem CB {ms:List Mx} (hn:ms.length=3):aL 3 ms=jN ms:=by
 unfold aL;rw[if_neg (by decide),if_neg (by decide),if_pos rfl,hn]
 rfl
theorem BF {ms:List Mx} {n:Nat} (hn:ms.length=n):aL 2 ms=((n:Int) == 0):=by
 unfold aL;rw[if_neg (by decide),if_pos rfl,hn]
 cases n <;> simp <;> omega
theorem lj (k:Int) (A:Option Addr) (n cap:Nat) (ms:List Mx) (F:List Nat) (w0 w:World) (hx:RI mxE w0 A n cap ms F) (hbw:Below w0.heap.size w0 w) (bs:∀ m,m∈ms->mS m) (bn:n<=1048576) :
  Calls prog 105 #[.agg #[.int .i64 k,.slice A n cap]] w (LOf w0 k A n cap ms w):=by
 have HX:=Qh hx;have HLN:=Qh hx.1;have HS:=Qh bs;clear hx bs
 go_enter func105,ntmps105
 go_wp2_with fail
 obtain⟨wr,hwr⟩:∃ u,u=(w.alloc (.cells #[.int .i64 k,.slice A n cap] 80)):=⟨_,rfl⟩;rw[<-hwr];have hblk:Blk wr w.heap.size 80 #[.int .i64 k,.slice A n cap]:=by rw[hwr];exact Blk.new _ _ _
 have hob:Hid (Below w.heap.size w wr):=by rw[hwr];exact Qb.alloc Ql _
 have hob0:Hid (Below w0.heap.size w0 wr):=Below.trans hbw (hob.out.mono hbw.size);clear hbw;clear hwr;have z0:w.heap.size<wr.heap.size:=hblk.lt;have c0:wr.cell? ⟨w.heap.size,0,none⟩=some (.int .i64 k):=hblk.cell 0;have c1:wr.cell? ⟨w.heap.size,1,none⟩=some (.slice A n cap):=hblk.cell 1;clear hblk
 by_cases k1:k=1
 ·subst k1
  by_cases n2:n=2
  ·subst n2;obtain⟨m0,hm0,hme0⟩:=aH (xs:=ms) (j:=0) (by have:=HLN.out;omega)
   have HM0:=Qh hm0;have hs0:m0.v.length<=1048576:=HS.out m0 hme0;obtain⟨b,off,cs,F0,rfl,hbl,hc,_,A0,p0,rfl,hq0⟩:=(HX.out.below hob0.out).cells hm0 3 rfl;have d0_0:wr.cell? ⟨b,off,none⟩=some (.int .i64 m0.r):=by have:=hc 0 (by omega);simpa [Nat.add_assoc] using this
   have d0_1:wr.cell? ⟨b,off+1,none⟩=some (.int .i64 m0.c):=by have:=hc 1 (by omega);simpa [Nat.add_assoc] using this
   have d0_2:wr.cell? ⟨b,off+2,none⟩=some (.slice A0 m0.v.length p0):=by have:=hc 2 (by omega);simpa [Nat.add_assoc] using this
   have HQ0:=Qh hq0;clear hc hq0 hm0 hme0;obtain⟨m1,hm1,hme1⟩:=aH (xs:=ms) (j:=1) (by have:=HLN.out;omega)
   have HM1:=Qh hm1;have hs1:m1.v.length<=1048576:=HS.out m1 hme1;obtain⟨b',off',cs,F1,hA',_,hc,_,A1,p1,rfl,hq1⟩:=(HX.out.below hob0.out).cells hm1 3 rfl;injection hA' with hA';injection hA' with h1 h2;subst h1 h2;have d1_0:wr.cell? ⟨b,off+3,none⟩=some (.int .i64 m1.r):=by have:=hc 0 (by omega);simpa [Nat.add_assoc] using this
   have d1_1:wr.cell? ⟨b,off+4,none⟩=some (.int .i64 m1.c):=by have:=hc 1 (by omega);simpa [Nat.add_assoc] using this
   have d1_2:wr.cell? ⟨b,off+5,none⟩=some (.slice A1 m1.v.length p1):=by have:=hc 2 (by omega);simpa [Nat.add_assoc] using this
   have HQ1:=Qh hq1;clear hc hq1 hm1 hme1;have hl:=CA HLN.out HM0.out HM1.out;have j1:(1:Int)<((2:Nat):Int):=by omega
   have j0:(0:Int)<((2:Nat):Int):=by omega
   have HD:Hid (∀ W:World,Below wr.heap.size wr W->Calls prog 147 #[MV m0.r m0.c A0 m0.v.length p0,MV m1.r m1.c A1 m1.v.length p1] W fun e w'=>e= .returned (.bool (dfB m0 m1))/\Below W.heap.size W w'):=fun W hW=>DK m0.r m0.c m1.r m1.c m0.v m1.v A0 A1 _ p0 _ p1 W (HQ0.out.1.below hW) (HQ1.out.1.below hW) hs0 hs1
   cases e1:dfB m0 m1
   ·have HE:Hid (aL 1 ms=false):=hl.trans e1;rw[e1] at HD;clear hl e1
    go_wp2_with fail
    refine aS (fun w'=>Below wr.heap.size wr w') (by kernel_rfl) (by kernel_rfl) Qb.drew ?_
    intro hne;have g_c0:∀ x:Wd (fun w'=>Below wr.heap.size wr w'),x.w.cell? ⟨w.heap.size,0,none⟩=some (.int .i64 1):=fun x=>(x.h.cell (p:=⟨w.heap.size,0,none⟩) z0).trans c0
    have g_c1:∀ x:Wd (fun w'=>Below wr.heap.size wr w'),x.w.cell? ⟨w.heap.size,1,none⟩=some (.slice (some ⟨b,off,none⟩) 2 cap):=fun x=>(x.h.cell (p:=⟨w.heap.size,1,none⟩) z0).trans c1
    have g_d0_0:∀ x:Wd (fun w'=>Below wr.heap.size wr w'),x.w.cell? ⟨b,off,none⟩=some (.int .i64 m0.r):=fun x=>(x.h.cell (p:=⟨b,off,none⟩) hbl).trans d0_0
    have g_d0_1:∀ x:Wd (fun w'=>Below wr.heap.size wr w'),x.w.cell? ⟨b,off+1,none⟩=some (.int .i64 m0.c):=fun x=>(x.h.cell (p:=⟨b,off+1,none⟩) hbl).trans d0_1
    have g_d0_2:∀ x:Wd (fun w'=>Below wr.heap.size wr w'),x.w.cell? ⟨b,off+2,none⟩=some (.slice A0 m0.v.length p0):=fun x=>(x.h.cell (p:=⟨b,off+2,none⟩) hbl).trans d0_2
    have g_d1_0:∀ x:Wd (fun w'=>Below wr.heap.size wr w'),x.w.cell? ⟨b,off+3,none⟩=some (.int .i64 m1.r):=fun x=>(x.h.cell (p:=⟨b,off+3,none⟩) hbl).trans d1_0
    have g_d1_1:∀ x:Wd (fun w'=>Below wr.heap.size wr w'),x.w.cell? ⟨b,off+4,none⟩=some (.int .i64 m1.c):=fun x=>(x.h.cell (p:=⟨b,off+4,none⟩) hbl).trans d1_1
    have g_d1_2:∀ x:Wd (fun w'=>Below wr.heap.size wr w'),x.w.cell? ⟨b,off+5,none⟩=some (.slice A1 m1.v.length p1):=fun x=>(x.h.cell (p:=⟨b,off+5,none⟩) hbl).trans d1_2
    repeat (go_big_quiet_step (first
     | (rename_i x;go_at_call 147;with_reducible exact d_ x Ql (HD.out _ x.h))
     | fail))
    refine wpQuiet_nil ?_;rintro wc ⟨x,hx⟩;have hwc:Below wr.heap.size wr wc:=by rw[hx];exact x.h
    clear hx x;have gc_c0:wc.cell? ⟨w.heap.size,0,none⟩=some (.int .i64 1):=(hwc.cell (p:=⟨w.heap.size,0,none⟩) z0).trans c0;have gc_c1:wc.cell? ⟨w.heap.size,1,none⟩=some (.slice (some ⟨b,off,none⟩) 2 cap):=(hwc.cell (p:=⟨w.heap.size,1,none⟩) z0).trans c1;have gc_d0_0:wc.cell? ⟨b,off,none⟩=some (.int .i64 m0.r):=(hwc.cell (p:=⟨b,off,none⟩) hbl).trans d0_0;have gc_d0_1:wc.cell? ⟨b,off+1,none⟩=some (.int .i64 m0.c):=(hwc.cell (p:=⟨b,off+1,none⟩) hbl).trans d0_1;have gc_d0_2:wc.cell? ⟨b,off+2,none⟩=some (.slice A0 m0.v.length p0):=(hwc.cell (p:=⟨b,off+2,none⟩) hbl).trans d0_2;have gc_d1_0:wc.cell? ⟨b,off+3,none⟩=some (.int .i64 m1.r):=(hwc.cell (p:=⟨b,off+3,none⟩) hbl).trans d1_0;have gc_d1_1:wc.cell? ⟨b,off+4,none⟩=some (.int .i64 m1.c):=(hwc.cell (p:=⟨b,off+4,none⟩) hbl).trans d1_1;have gc_d1_2:wc.cell? ⟨b,off+5,none⟩=some (.slice A1 m1.v.length p1):=(hwc.cell (p:=⟨b,off+5,none⟩) hbl).trans d1_2;have zc0:=Nat.lt_of_lt_of_le z0 hwc.size;have HC:Hid (Below w.heap.size w wc):=hob.out.trans (hwc.mono hob.out.size);clear hwc;go_wp2
    go_ret2
    exact⟨.nilIface,by first|(rw[HE.out];rfl)|(simp[HE.out];done),.inl ⟨HE.out,rfl⟩,HC.out⟩
   ·obtain⟨bb,oo,cs,FF0,hAA,hbb,hcc,_,AA0,pp0,hcs0,hw0⟩:=HX.out.cells HM0.out 3 rfl;subst hcs0;have hcc2:=hcc 2 (by omega)
    injection hAA with hAA;injection hAA with h1 h2;subst h1 h2;have he0:wr.cell? ⟨b,off+2,none⟩=some (.slice AA0 m0.v.length pp0):=(hob0.out.cell (p:=⟨b,off+2,none⟩) hbb).trans (by simpa [Nat.add_assoc] using hcc2)
    rw[d0_2] at he0;injection he0 with he0;injection he0 with h1 h2 h3;subst h1 h3;have HW0:=Qh hw0;clear hcc hcc2 hw0 hbb;obtain⟨bb,oo,cs,FF1,hAA,hbb,hcc,_,AA1,pp1,hcs1,hw1⟩:=HX.out.cells HM1.out 3 rfl;subst hcs1;have hcc2:=hcc 2 (by omega)
    injection hAA with hAA;injection hAA with h1 h2;subst h1 h2;have he1:wr.cell? ⟨b,off+5,none⟩=some (.slice AA1 m1.v.length pp1):=(hob0.out.cell (p:=⟨b,off+5,none⟩) hbb).trans (by simpa [Nat.add_assoc] using hcc2)
    rw[d1_2] at he1;injection he1 with he1;injection he1 with h1 h2 h3;subst h1 h3;have HW1:=Qh hw1;clear hcc hcc2 hw1 hbb;have HE:Hid (aL 1 ms=true):=hl.trans e1;rw[e1] at HD;clear hl e1
    go_wp2_with fail
    refine aS (fun w'=>Below wr.heap.size wr w') (by kernel_rfl) (by kernel_rfl) Qb.drew ?_
    intro hne;have g_c0:∀ x:Wd (fun w'=>Below wr.heap.size wr w'),x.w.cell? ⟨w.heap.size,0,none⟩=some (.int .i64 1):=fun x=>(x.h.cell (p:=⟨w.heap.size,0,none⟩) z0).trans c0
    have g_c1:∀ x:Wd (fun w'=>Below wr.heap.size wr w'),x.w.cell? ⟨w.heap.size,1,none⟩=some (.slice (some ⟨b,off,none⟩) 2 cap):=fun x=>(x.h.cell (p:=⟨w.heap.size,1,none⟩) z0).trans c1
    have g_d0_0:∀ x:Wd (fun w'=>Below wr.heap.size wr w'),x.w.cell? ⟨b,off,none⟩=some (.int .i64 m0.r):=fun x=>(x.h.cell (p:=⟨b,off,none⟩) hbl).trans d0_0
    have g_d0_1:∀ x:Wd (fun w'=>Below wr.heap.size wr w'),x.w.cell? ⟨b,off+1,none⟩=some (.int .i64 m0.c):=fun x=>(x.h.cell (p:=⟨b,off+1,none⟩) hbl).trans d0_1
    have g_d0_2:∀ x:Wd (fun w'=>Below wr.heap.size wr w'),x.w.cell? ⟨b,off+2,none⟩=some (.slice A0 m0.v.length p0):=fun x=>(x.h.cell (p:=⟨b,off+2,none⟩) hbl).trans d0_2
    have g_d1_0:∀ x:Wd (fun w'=>Below wr.heap.size wr w'),x.w.cell? ⟨b,off+3,none⟩=some (.int .i64 m1.r):=fun x=>(x.h.cell (p:=⟨b,off+3,none⟩) hbl).trans d1_0
    have g_d1_1:∀ x:Wd (fun w'=>Below wr.heap.size wr w'),x.w.cell? ⟨b,off+4,none⟩=some (.int .i64 m1.c):=fun x=>(x.h.cell (p:=⟨b,off+4,none⟩) hbl).trans d1_1
    have g_d1_2:∀ x:Wd (fun w'=>Below wr.heap.size wr w'),x.w.cell? ⟨b,off+5,none⟩=some (.slice A1 m1.v.length p1):=fun x=>(x.h.cell (p:=⟨b,off+5,none⟩) hbl).trans d1_2
    repeat (go_big_quiet_step (first
     | (rename_i x;go_at_call 147;with_reducible exact d_ x Ql (HD.out _ x.h))
     | fail))
    refine wpQuiet_nil ?_;rintro wc ⟨x,hx⟩;have hwc:Below wr.heap.size wr wc:=by rw[hx];exact x.h
    clear hx x;have gc_c0:wc.cell? ⟨w.heap.size,0,none⟩=some (.int .i64 1):=(hwc.cell (p:=⟨w.heap.size,0,none⟩) z0).trans c0;have gc_c1:wc.cell? ⟨w.heap.size,1,none⟩=some (.slice (some ⟨b,off,none⟩) 2 cap):=(hwc.cell (p:=⟨w.heap.size,1,none⟩) z0).trans c1;have gc_d0_0:wc.cell? ⟨b,off,none⟩=some (.int .i64 m0.r):=(hwc.cell (p:=⟨b,off,none⟩) hbl).trans d0_0;have gc_d0_1:wc.cell? ⟨b,off+1,none⟩=some (.int .i64 m0.c):=(hwc.cell (p:=⟨b,off+1,none⟩) hbl).trans d0_1;have gc_d0_2:wc.cell? ⟨b,off+2,none⟩=some (.slice A0 m0.v.length p0):=(hwc.cell (p:=⟨b,off+2,none⟩) hbl).trans d0_2;have gc_d1_0:wc.cell? ⟨b,off+3,none⟩=some (.int .i64 m1.r):=(hwc.cell (p:=⟨b,off+3,none⟩) hbl).trans d1_0;have gc_d1_1:wc.cell? ⟨b,off+4,none⟩=some (.int .i64 m1.c):=(hwc.cell (p:=⟨b,off+4,none⟩) hbl).trans d1_1;have gc_d1_2:wc.cell? ⟨b,off+5,none⟩=some (.slice A1 m1.v.length p1):=(hwc.cell (p:=⟨b,off+5,none⟩) hbl).trans d1_2;have zc0:=Nat.lt_of_lt_of_le z0 hwc.size;have HC:Hid (Below w.heap.size w wc):=hob.out.trans (hwc.mono hob.out.size);clear hwc
    go_wp2_with fail
    go_quiet (fail)
    go_wp2
    go_ret2
    exact⟨_,by first|(rw[HE.out];rfl)|rw[HE.out],.inr ⟨HE.out,.inl ⟨rfl,A0,p0,_,A1,p1,_,m0,m1,HM0.out,HM1.out,HW0.out,HW1.out,rfl⟩⟩,below_drewN HC.out _⟩
  ·have HE:Hid (aL 1 ms=false):=(show aL 1 ms=false by unfold aL;rw[if_pos rfl,HLN.out];simp[n2])
   have t1:((n:Int) == 2)=false:=by simp;omega
   go_wp2_with fail
   refine aS (fun w'=>Below wr.heap.size wr w') (by kernel_rfl) (by kernel_rfl) Qb.drew ?_
   intro hne;have g_c0:∀ x:Wd (fun w'=>Below wr.heap.size wr w'),x.w.cell? ⟨w.heap.size,0,none⟩=some (.int .i64 1):=fun x=>(x.h.cell (p:=⟨w.heap.size,0,none⟩) z0).trans c0
   have g_c1:∀ x:Wd (fun w'=>Below wr.heap.size wr w'),x.w.cell? ⟨w.heap.size,1,none⟩=some (.slice A n cap):=fun x=>(x.h.cell (p:=⟨w.heap.size,1,none⟩) z0).trans c1
   repeat (go_big_quiet_step (first
    | fail))
   refine wpQuiet_nil ?_;rintro wc ⟨x,hx⟩;have hwc:Below wr.heap.size wr wc:=by rw[hx];exact x.h
   clear hx x;have gc_c0:wc.cell? ⟨w.heap.size,0,none⟩=some (.int .i64 1):=(hwc.cell (p:=⟨w.heap.size,0,none⟩) z0).trans c0;have gc_c1:wc.cell? ⟨w.heap.size,1,none⟩=some (.slice A n cap):=(hwc.cell (p:=⟨w.heap.size,1,none⟩) z0).trans c1;have zc0:=Nat.lt_of_lt_of_le z0 hwc.size;have HC:Hid (Below w.heap.size w wc):=hob.out.trans (hwc.mono hob.out.size);clear hwc;go_wp2
   go_ret2
   exact⟨.nilIface,by first|(rw[HE.out];rfl)|(simp[HE.out];done),.inl ⟨HE.out,rfl⟩,HC.out⟩
 have t1:(k == 1)=false:=by simp[k1]
 by_cases k2:k=2
 ·subst k2;clear k1
  cases n0:((n:Int) == 0)
  ·have HE:Hid (aL 2 ms=false):=(BF HLN.out).trans n0
   go_wp2_with fail
   refine aS (fun w'=>Below wr.heap.size wr w') (by kernel_rfl) (by kernel_rfl) Qb.drew ?_
   intro hne;have g_c0:∀ x:Wd (fun w'=>Below wr.heap.size wr w'),x.w.cell? ⟨w.heap.size,0,none⟩=some (.int .i64 2):=fun x=>(x.h.cell (p:=⟨w.heap.size,0,none⟩) z0).trans c0
   have g_c1:∀ x:Wd (fun w'=>Below wr.heap.size wr w'),x.w.cell? ⟨w.heap.size,1,none⟩=some (.slice A n cap):=fun x=>(x.h.cell (p:=⟨w.heap.size,1,none⟩) z0).trans c1
   repeat (go_big_quiet_step (first
    | fail))
   refine wpQuiet_nil ?_;rintro wc ⟨x,hx⟩;have hwc:Below wr.heap.size wr wc:=by rw[hx];exact x.h
   clear hx x;have gc_c0:wc.cell? ⟨w.heap.size,0,none⟩=some (.int .i64 2):=(hwc.cell (p:=⟨w.heap.size,0,none⟩) z0).trans c0;have gc_c1:wc.cell? ⟨w.heap.size,1,none⟩=some (.slice A n cap):=(hwc.cell (p:=⟨w.heap.size,1,none⟩) z0).trans c1;have zc0:=Nat.lt_of_lt_of_le z0 hwc.size;have HC:Hid (Below w.heap.size w wc):=hob.out.trans (hwc.mono hob.out.size);clear hwc;go_wp2
   go_ret2
   exact⟨.nilIface,by first|(rw[HE.out];rfl)|(simp[HE.out];done),.inl ⟨HE.out,rfl⟩,HC.out⟩
  ·have HE:Hid (aL 2 ms=true):=(BF HLN.out).trans n0
   go_wp2_with fail
   refine aS (fun w'=>Below wr.heap.size wr w') (by kernel_rfl) (by kernel_rfl) Qb.drew ?_
   intro hne;have g_c0:∀ x:Wd (fun w'=>Below wr.heap.size wr w'),x.w.cell? ⟨w.heap.size,0,none⟩=some (.int .i64 2):=fun x=>(x.h.cell (p:=⟨w.heap.size,0,none⟩) z0).trans c0
   have g_c1:∀ x:Wd (fun w'=>Below wr.heap.size wr w'),x.w.cell? ⟨w.heap.size,1,none⟩=some (.slice A n cap):=fun x=>(x.h.cell (p:=⟨w.heap.size,1,none⟩) z0).trans c1
   repeat (go_big_quiet_step (first
    | fail))
   refine wpQuiet_nil ?_;rintro wc ⟨x,hx⟩;have hwc:Below wr.heap.size wr wc:=by rw[hx];exact x.h
   clear hx x;have gc_c0:wc.cell? ⟨w.heap.size,0,none⟩=some (.int .i64 2):=(hwc.cell (p:=⟨w.heap.size,0,none⟩) z0).trans c0;have gc_c1:wc.cell? ⟨w.heap.size,1,none⟩=some (.slice A n cap):=(hwc.cell (p:=⟨w.heap.size,1,none⟩) z0).trans c1;have zc0:=Nat.lt_of_lt_of_le z0 hwc.size;have HC:Hid (Below w.heap.size w wc):=hob.out.trans (hwc.mono hob.out.size);clear hwc;go_wp2
   go_ret2
   exact⟨_,by first|(rw[HE.out];rfl)|rw[HE.out],.inr ⟨HE.out,.inr (.inl ⟨rfl,rfl⟩)⟩,HC.out⟩
 have t2:(k == 2)=false:=by simp[k2]
 by_cases k3:k=3
 ·subst k3;clear k1 k2
  by_cases n3:n=3
  ·subst n3;have hl:=CB HLN.out
   cases e1:jN ms
   ·have HE:Hid (aL 3 ms=false):=hl.trans e1
    go_wp2_with fail
    refine aS (fun w'=>Below wr.heap.size wr w') (by kernel_rfl) (by kernel_rfl) Qb.drew ?_
    intro hne;have g_c0:∀ x:Wd (fun w'=>Below wr.heap.size wr w'),x.w.cell? ⟨w.heap.size,0,none⟩=some (.int .i64 3):=fun x=>(x.h.cell (p:=⟨w.heap.size,0,none⟩) z0).trans c0
    have g_c1:∀ x:Wd (fun w'=>Below wr.heap.size wr w'),x.w.cell? ⟨w.heap.size,1,none⟩=some (.slice A 3 cap):=fun x=>(x.h.cell (p:=⟨w.heap.size,1,none⟩) z0).trans c1
    repeat (go_big_quiet_step (first
     | fail))
    refine wpQuiet_nil ?_;rintro wc ⟨x,hx⟩;have hwc:Below wr.heap.size wr wc:=by rw[hx];exact x.h
    clear hx x;have gc_c0:wc.cell? ⟨w.heap.size,0,none⟩=some (.int .i64 3):=(hwc.cell (p:=⟨w.heap.size,0,none⟩) z0).trans c0;have gc_c1:wc.cell? ⟨w.heap.size,1,none⟩=some (.slice A 3 cap):=(hwc.cell (p:=⟨w.heap.size,1,none⟩) z0).trans c1;have zc0:=Nat.lt_of_lt_of_le z0 hwc.size
    go_wp2_with fail
    have hmx:=ph A 3 cap ms F wc (HX.out.below (hob0.out.trans (hwc.mono hob0.out.size))) HS.out (by omega) (by omega)
    rw[e1] at hmx;refine hmx.mono ?_;rintro e w2 ⟨rfl,hb⟩;have q0:=(hb.cell (p:=⟨w.heap.size,0,none⟩) zc0).trans gc_c0;have q1:=(hb.cell (p:=⟨w.heap.size,1,none⟩) zc0).trans gc_c1;have q2:=Nat.lt_of_lt_of_le zc0 hb.size;have HC:Hid (Below w.heap.size w w2):=hob.out.trans ((hwc.trans (hb.mono hwc.size)).mono hob.out.size);clear hb hwc hmx e1;go_wp2
    go_ret2
    exact⟨.nilIface,by first|(rw[HE.out];rfl)|(simp[HE.out];done),.inl ⟨HE.out,rfl⟩,HC.out⟩
   ·have HE:Hid (aL 3 ms=true):=hl.trans e1
    go_wp2_with fail
    refine aS (fun w'=>Below wr.heap.size wr w') (by kernel_rfl) (by kernel_rfl) Qb.drew ?_
    intro hne;have g_c0:∀ x:Wd (fun w'=>Below wr.heap.size wr w'),x.w.cell? ⟨w.heap.size,0,none⟩=some (.int .i64 3):=fun x=>(x.h.cell (p:=⟨w.heap.size,0,none⟩) z0).trans c0
    have g_c1:∀ x:Wd (fun w'=>Below wr.heap.size wr w'),x.w.cell? ⟨w.heap.size,1,none⟩=some (.slice A 3 cap):=fun x=>(x.h.cell (p:=⟨w.heap.size,1,none⟩) z0).trans c1
    repeat (go_big_quiet_step (first
     | fail))
    refine wpQuiet_nil ?_;rintro wc ⟨x,hx⟩;have hwc:Below wr.heap.size wr wc:=by rw[hx];exact x.h
    clear hx x;have gc_c0:wc.cell? ⟨w.heap.size,0,none⟩=some (.int .i64 3):=(hwc.cell (p:=⟨w.heap.size,0,none⟩) z0).trans c0;have gc_c1:wc.cell? ⟨w.heap.size,1,none⟩=some (.slice A 3 cap):=(hwc.cell (p:=⟨w.heap.size,1,none⟩) z0).trans c1;have zc0:=Nat.lt_of_lt_of_le z0 hwc.size
    go_wp2_with fail
    have hmx:=ph A 3 cap ms F wc (HX.out.below (hob0.out.trans (hwc.mono hob0.out.size))) HS.out (by omega) (by omega)
    rw[e1] at hmx;refine hmx.mono ?_;rintro e w2 ⟨rfl,hb⟩;have q0:=(hb.cell (p:=⟨w.heap.size,0,none⟩) zc0).trans gc_c0;have q1:=(hb.cell (p:=⟨w.heap.size,1,none⟩) zc0).trans gc_c1;have q2:=Nat.lt_of_lt_of_le zc0 hb.size;have HC:Hid (Below w.heap.size w w2):=hob.out.trans ((hwc.trans (hb.mono hwc.size)).mono hob.out.size);clear hb hwc hmx e1;go_wp2
    go_ret2
    exact⟨_,by first|(rw[HE.out];rfl)|rw[HE.out],.inr ⟨HE.out,.inr (.inr ⟨rfl,rfl⟩)⟩,HC.out⟩
  ·have HE:Hid (aL 3 ms=false):=(show aL 3 ms=false by unfold aL;rw[if_neg (by decide),if_neg (by decide),if_pos rfl,HLN.out];simp[n3])
   have t3:((n:Int) == 3)=false:=by simp;omega
   go_wp2_with fail
   refine aS (fun w'=>Below wr.heap.size wr w') (by kernel_rfl) (by kernel_rfl) Qb.drew ?_
   intro hne;have g_c0:∀ x:Wd (fun w'=>Below wr.heap.size wr w'),x.w.cell? ⟨w.heap.size,0,none⟩=some (.int .i64 3):=fun x=>(x.h.cell (p:=⟨w.heap.size,0,none⟩) z0).trans c0
   have g_c1:∀ x:Wd (fun w'=>Below wr.heap.size wr w'),x.w.cell? ⟨w.heap.size,1,none⟩=some (.slice A n cap):=fun x=>(x.h.cell (p:=⟨w.heap.size,1,none⟩) z0).trans c1
   repeat (go_big_quiet_step (first
    | fail))
   refine wpQuiet_nil ?_;rintro wc ⟨x,hx⟩;have hwc:Below wr.heap.size wr wc:=by rw[hx];exact x.h
   clear hx x;have gc_c0:wc.cell? ⟨w.heap.size,0,none⟩=some (.int .i64 3):=(hwc.cell (p:=⟨w.heap.size,0,none⟩) z0).trans c0;have gc_c1:wc.cell? ⟨w.heap.size,1,none⟩=some (.slice A n cap):=(hwc.cell (p:=⟨w.heap.size,1,none⟩) z0).trans c1;have zc0:=Nat.lt_of_lt_of_le z0 hwc.size;have HC:Hid (Below w.heap.size w wc):=hob.out.trans (hwc.mono hob.out.size);clear hwc;go_wp2
   go_ret2
   exact⟨.nilIface,by first|(rw[HE.out];rfl)|(simp[HE.out];done),.inl ⟨HE.out,rfl⟩,HC.out⟩
 ·have HE:Hid (aL k ms=false):=Gr k1 k2 k3;have t3:(k == 3)=false:=by simp[k3]
  go_wp2_with fail
  refine aS (fun w'=>Below wr.heap.size wr w') (by kernel_rfl) (by kernel_rfl) Qb.drew ?_
  intro hne;have g_c0:∀ x:Wd (fun w'=>Below wr.heap.size wr w'),x.w.cell? ⟨w.heap.size,0,none⟩=some (.int .i64 k):=fun x=>(x.h.cell (p:=⟨w.heap.size,0,none⟩) z0).trans c0
  have g_c1:∀ x:Wd (fun w'=>Below wr.heap.size wr w'),x.w.cell? ⟨w.heap.size,1,none⟩=some (.slice A n cap):=fun x=>(x.h.cell (p:=⟨w.heap.size,1,none⟩) z0).trans c1
  repeat (go_big_quiet_step (first
   | fail))
  refine wpQuiet_nil ?_;rintro wc ⟨x,hx⟩;have hwc:Below wr.heap.size wr wc:=by rw[hx];exact x.h
  clear hx x;have gc_c0:wc.cell? ⟨w.heap.size,0,none⟩=some (.int .i64 k):=(hwc.cell (p:=⟨w.heap.size,0,none⟩) z0).trans c0;have gc_c1:wc.cell? ⟨w.heap.size,1,none⟩=some (.slice A n cap):=(hwc.cell (p:=⟨w.heap.size,1,none⟩) z0).trans c1;have zc0:=Nat.lt_of_lt_of_le z0 hwc.size;have HC:Hid (Below w.heap.size w wc):=hob.out.trans (hwc.mono hob.out.size);clear hwc;go_wp2
  go_ret2
  exact⟨.nilIface,by first|(rw[HE.out];rfl)|(simp[HE.out];done),.inl ⟨HE.out,rfl⟩,HC.out⟩
theorem Ec (k:Int) (A:Option Addr) (n cap:Nat) (ms:List Mx) (F:List Nat) (w:World) (hx:RI mxE w A n cap ms F) (bs:∀ m,m∈ms->mS m) (bn:n<=1048576) :
  Calls prog 56 #[.agg #[.int .i64 k,.slice A n cap]] w fun e w'=>e= .returned (.bool (aL k ms))/\Below w.heap.size w w':=by
 have HX:=Qh hx;have HS:=Qh bs;clear hx bs;have HB:=Qh ((Below.refl w.heap.size w).alloc Ql (.cells #[.int .i64 k,.slice A n cap] 80))
 go_enter func56,ntmps56
 go_wp2_with fail
 refine(lj k A n cap ms F _ _ (HX.out.alloc _) Qb HS.out bn).mono ?_;rintro e w2 ⟨v,rfl,-,hb⟩;have HC:=Qh (HB.out.trans (hb.mono (by simp)))
 clear hb;go_wp2
 go_ret
 exact⟨rfl,HC.out⟩
end Go.Proofs.YtjciicheoghcdaaGreatDoor

/- Part of the proof of FnServiceAnswer. -/
import Derived.Deep.AppendLies
import Derived.Test.YtjciicheoghcdaaGreatDoorUe
import Derived.Test.YtjciicheoghcdaaGreatDoorUf
namespace Go.Proofs.YtjciicheoghcdaaGreatDoor
open Go.RowKit Go.Proofs.Tryz
set_option linter.all false
set_option maxRecDepth 20000
set_option maxHeartbeats 16000000
def LOv (w:World) (k:Int) (A:Option Addr) (n cap:Nat) (ms:List Mx) (v:Value):Prop :=
 (aL k ms=false/\v= .nilIface) \/
 (aL k ms=true/\((k=1/\∃ A0 p0 F0 A1 p1 F1 m0 m1,ms[0]?=some m0/\ms[1]?=some m1/\MF w A0 p0 m0 F0/\MF w A1 p1 m1 F1/\v= .iface 178 (.agg #[.int .i64 m0.r,.int .i64 m0.c,.slice A0 m0.v.length p0,.int .i64 m1.r,.int .i64 m1.c,.slice A1 m1.v.length p1])) \/
  (k=2/\v= .iface 180 (.agg #[]))\/(k=3/\v= .iface 183 (.agg #[.slice A n cap]))))
def LOf (w0:World) (k:Int) (A:Option Addr) (n cap:Nat) (ms:List Mx) (w:World) (e:Ending) (w':World):Prop:=∃ v,e= .returned (.tuple #[v,.bool (aL k ms)])/\LOv w0 k A n cap ms v/\Below w.heap.size w w'
theorem CA {ms:List Mx} {m0 m1:Mx} (hn:ms.length=2) (h0:ms[0]?=some m0) (h1:ms[1]?=some m1):aL 1 ms=dfB m0 m1:=by
 unfold aL;rw[if_pos rfl,iW h0,iW h1,hn]
 rfl
theorem CB {ms:List Mx} (hn:ms.length=3):aL 3 ms=jN ms:=by
 unfold aL;rw[if_neg (by decide),if_neg (by decide),if_pos rfl,hn]
 rfl
theorem BF {ms:List Mx} {n:Nat} (hn:ms.length=n):aL 2 ms=((n:Int) == 0):=by
 unfold aL;rw[if_neg (by decide),if_pos rfl,hn]
 cases n <;> simp <;> omega
theorem lj (k:Int) (A:Option Addr) (n cap:Nat) (ms:List Mx) (F:List Nat) (w0 w:World) (hx:RI mxE w0 A n cap ms F) (hbw:Below w0.heap.size w0 w) (bs:∀ m,m∈ms->mS m) (bn:n<=1048576) :
  Calls prog 105 #[.agg #[.int .i64 k,.slice A n cap]] w (LOf w0 k A n cap ms w):=by
 have HX:=Qh hx;have HLN:=Qh hx.1;have HS:=Qh bs;clear hx bs
 go_enter func105,ntmps105
 go_wp2_with fail
 obtain⟨wr,hwr⟩:∃ u,u=(w.alloc (.cells #[.int .i64 k,.slice A n cap] 80)):=⟨_,rfl⟩;rw[<-hwr];have hblk:Blk wr w.heap.size 80 #[.int .i64 k,.slice A n cap]:=by rw[hwr];exact Blk.new _ _ _
 have hob:Hid (Below w.heap.size w wr):=by rw[hwr];exact Qb.alloc Ql _
 have hob0:Hid (Below w0.heap.size w0 wr):=Below.trans hbw (hob.out.mono hbw.size);clear hbw;clear hwr;have z0:w.heap.size<wr.heap.size:=hblk.lt;have c0:wr.cell? ⟨w.heap.size,0,none⟩=some (.int .i64 k):=hblk.cell 0;have c1:wr.cell? ⟨w.heap.size,1,none⟩=some (.slice A n cap):=hblk.cell 1;clear hblk
 by_cases k1:k=1
 ·subst k1
  by_cases n2:n=2
  ·subst n2;obtain⟨m0,hm0,hme0⟩:=aH (xs:=ms) (j:=0) (by have:=HLN.out;omega)
   have HM0:=Qh hm0;have hs0:m0.v.length<=1048576:=HS.out m0 hme0;obtain⟨b,off,cs,F0,rfl,hbl,hc,_,A0,p0,rfl,hq0⟩:=(HX.out.below hob0.out).cells hm0 3 rfl;have d0_0:wr.cell? ⟨b,off,none⟩=some (.int .i64 m0.r):=by have:=hc 0 (by omega);simpa [Nat.add_assoc] using this
   have d0_1:wr.cell? ⟨b,off+1,none⟩=some (.int .i64 m0.c):=by have:=hc 1 (by omega);simpa [Nat.add_assoc] using this
   have d0_2:wr.cell? ⟨b,off+2,none⟩=some (.slice A0 m0.v.length p0):=by have:=hc 2 (by omega);simpa [Nat.add_assoc] using this
   have HQ0:=Qh hq0;clear hc hq0 hm0 hme0;obtain⟨m1,hm1,hme1⟩:=aH (xs:=ms) (j:=1) (by have:=HLN.out;omega)
   have HM1:=Qh hm1;have hs1:m1.v.length<=1048576:=HS.out m1 hme1;obtain⟨b',off',cs,F1,hA',_,hc,_,A1,p1,rfl,hq1⟩:=(HX.out.below hob0.out).cells hm1 3 rfl;injection hA' with hA';injection hA' with h1 h2;subst h1 h2;have d1_0:wr.cell? ⟨b,off+3,none⟩=some (.int .i64 m1.r):=by have:=hc 0 (by omega);simpa [Nat.add_assoc] using this
   have d1_1:wr.cell? ⟨b,off+4,none⟩=some (.int .i64 m1.c):=by have:=hc 1 (by omega);simpa [Nat.add_assoc] using this
   have d1_2:wr.cell? ⟨b,off+5,none⟩=some (.slice A1 m1.v.length p1):=by have:=hc 2 (by omega);simpa [Nat.add_assoc] using this
   have HQ1:=Qh hq1;clear hc hq1 hm1 hme1;have hl:=CA HLN.out HM0.out HM1.out;have j1:(1:Int)<((2:Nat):Int):=by omega
   have j0:(0:Int)<((2:Nat):Int):=by omega
   have HD:Hid (∀ W:World,Below wr.heap.size wr W->Calls prog 147 #[MV m0.r m0.c A0 m0.v.length p0,MV m1.r m1.c A1 m1.v.length p1] W fun e w'=>e= .returned (.bool (dfB m0 m1))/\Below W.heap.size W w'):=fun W hW=>DK m0.r m0.c m1.r m1.c m0.v m1.v A0 A1 _ p0 _ p1 W (HQ0.out.1.below hW) (HQ1.out.1.below hW) hs0 hs1
   cases e1:dfB m0 m1
   ·have HE:Hid (aL 1 ms=false):=hl.trans e1;rw[e1] at HD;clear hl e1
    go_wp2_with fail
    refine aS (fun w'=>Below wr.heap.size wr w') (by kernel_rfl) (by kernel_rfl) Qb.drew ?_
    intro hne;have g_c0:∀ x:Wd (fun w'=>Below wr.heap.size wr w'),x.w.cell? ⟨w.heap.size,0,none⟩=some (.int .i64 1):=fun x=>(x.h.cell (p:=⟨w.heap.size,0,none⟩) z0).trans c0
    have g_c1:∀ x:Wd (fun w'=>Below wr.heap.size wr w'),x.w.cell? ⟨w.heap.size,1,none⟩=some (.slice (some ⟨b,off,none⟩) 2 cap):=fun x=>(x.h.cell (p:=⟨w.heap.size,1,none⟩) z0).trans c1
    have g_d0_0:∀ x:Wd (fun w'=>Below wr.heap.size wr w'),x.w.cell? ⟨b,off,none⟩=some (.int .i64 m0.r):=fun x=>(x.h.cell (p:=⟨b,off,none⟩) hbl).trans d0_0
    have g_d0_1:∀ x:Wd (fun w'=>Below wr.heap.size wr w'),x.w.cell? ⟨b,off+1,none⟩=some (.int .i64 m0.c):=fun x=>(x.h.cell (p:=⟨b,off+1,none⟩) hbl).trans d0_1
    have g_d0_2:∀ x:Wd (fun w'=>Below wr.heap.size wr w'),x.w.cell? ⟨b,off+2,none⟩=some (.slice A0 m0.v.length p0):=fun x=>(x.h.cell (p:=⟨b,off+2,none⟩) hbl).trans d0_2
    have g_d1_0:∀ x:Wd (fun w'=>Below wr.heap.size wr w'),x.w.cell? ⟨b,off+3,none⟩=some (.int .i64 m1.r):=fun x=>(x.h.cell (p:=⟨b,off+3,none⟩) hbl).trans d1_0
    have g_d1_1:∀ x:Wd (fun w'=>Below wr.heap.size wr w'),x.w.cell? ⟨b,off+4,none⟩=some (.int .i64 m1.c):=fun x=>(x.h.cell (p:=⟨b,off+4,none⟩) hbl).trans d1_1
    have g_d1_2:∀ x:Wd (fun w'=>Below wr.heap.size wr w'),x.w.cell? ⟨b,off+5,none⟩=some (.slice A1 m1.v.length p1):=fun x=>(x.h.cell (p:=⟨b,off+5,none⟩) hbl).trans d1_2
    repeat (go_big_quiet_step (first
     | (rename_i x;go_at_call 147;with_reducible exact d_ x Ql (HD.out _ x.h))
     | fail))
    refine wpQuiet_nil ?_;rintro wc ⟨x,hx⟩;have hwc:Below wr.heap.size wr wc:=by rw[hx];exact x.h
    clear hx x;have gc_c0:wc.cell? ⟨w.heap.size,0,none⟩=some (.int .i64 1):=(hwc.cell (p:=⟨w.heap.size,0,none⟩) z0).trans c0;have gc_c1:wc.cell? ⟨w.heap.size,1,none⟩=some (.slice (some ⟨b,off,none⟩) 2 cap):=(hwc.cell (p:=⟨w.heap.size,1,none⟩) z0).trans c1;have gc_d0_0:wc.cell? ⟨b,off,none⟩=some (.int .i64 m0.r):=(hwc.cell (p:=⟨b,off,none⟩) hbl).trans d0_0;have gc_d0_1:wc.cell? ⟨b,off+1,none⟩=some (.int .i64 m0.c):=(hwc.cell (p:=⟨b,off+1,none⟩) hbl).trans d0_1;have gc_d0_2:wc.cell? ⟨b,off+2,none⟩=some (.slice A0 m0.v.length p0):=(hwc.cell (p:=⟨b,off+2,none⟩) hbl).trans d0_2;have gc_d1_0:wc.cell? ⟨b,off+3,none⟩=some (.int .i64 m1.r):=(hwc.cell (p:=⟨b,off+3,none⟩) hbl).trans d1_0;have gc_d1_1:wc.cell? ⟨b,off+4,none⟩=some (.int .i64 m1.c):=(hwc.cell (p:=⟨b,off+4,none⟩) hbl).trans d1_1;have gc_d1_2:wc.cell? ⟨b,off+5,none⟩=some (.slice A1 m1.v.length p1):=(hwc.cell (p:=⟨b,off+5,none⟩) hbl).trans d1_2;have zc0:=Nat.lt_of_lt_of_le z0 hwc.size;have HC:Hid (Below w.heap.size w wc):=hob.out.trans (hwc.mono hob.out.size);clear hwc;go_wp2
    go_ret2
    exact⟨.nilIface,by first|(rw[HE.out];rfl)|(simp[HE.out];done),.inl ⟨HE.out,rfl⟩,HC.out⟩
   ·obtain⟨bb,oo,cs,FF0,hAA,hbb,hcc,_,AA0,pp0,hcs0,hw0⟩:=HX.out.cells HM0.out 3 rfl;subst hcs0;have hcc2:=hcc 2 (by omega)
    injection hAA with hAA;injection hAA with h1 h2;subst h1 h2;have he0:wr.cell? ⟨b,off+2,none⟩=some (.slice AA0 m0.v.length pp0):=(hob0.out.cell (p:=⟨b,off+2,none⟩) hbb).trans (by simpa [Nat.add_assoc] using hcc2)
    rw[d0_2] at he0;injection he0 with he0;injection he0 with h1 h2 h3;subst h1 h3;have HW0:=Qh hw0;clear hcc hcc2 hw0 hbb;obtain⟨bb,oo,cs,FF1,hAA,hbb,hcc,_,AA1,pp1,hcs1,hw1⟩:=HX.out.cells HM1.out 3 rfl;subst hcs1;have hcc2:=hcc 2 (by omega)
    injection hAA with hAA;injection hAA with h1 h2;subst h1 h2;have he1:wr.cell? ⟨b,off+5,none⟩=some (.slice AA1 m1.v.length pp1):=(hob0.out.cell (p:=⟨b,off+5,none⟩) hbb).trans (by simpa [Nat.add_assoc] using hcc2)
    rw[d1_2] at he1;injection he1 with he1;injection he1 with h1 h2 h3;subst h1 h3;have HW1:=Qh hw1;clear hcc hcc2 hw1 hbb;have HE:Hid (aL 1 ms=true):=hl.trans e1;rw[e1] at HD;clear hl e1
    go_wp2_with fail
    refine aS (fun w'=>Below wr.heap.size wr w') (by kernel_rfl) (by kernel_rfl) Qb.drew ?_
    intro hne;have g_c0:∀ x:Wd (fun w'=>Below wr.heap.size wr w'),x.w.cell? ⟨w.heap.size,0,none⟩=some (.int .i64 1):=fun x=>(x.h.cell (p:=⟨w.heap.size,0,none⟩) z0).trans c0
    have g_c1:∀ x:Wd (fun w'=>Below wr.heap.size wr w'),x.w.cell? ⟨w.heap.size,1,none⟩=some (.slice (some ⟨b,off,none⟩) 2 cap):=fun x=>(x.h.cell (p:=⟨w.heap.size,1,none⟩) z0).trans c1
    have g_d0_0:∀ x:Wd (fun w'=>Below wr.heap.size wr w'),x.w.cell? ⟨b,off,none⟩=some (.int .i64 m0.r):=fun x=>(x.h.cell (p:=⟨b,off,none⟩) hbl).trans d0_0
    have g_d0_1:∀ x:Wd (fun w'=>Below wr.heap.size wr w'),x.w.cell? ⟨b,off+1,none⟩=some (.int .i64 m0.c):=fun x=>(x.h.cell (p:=⟨b,off+1,none⟩) hbl).trans d0_1
    have g_d0_2:∀ x:Wd (fun w'=>Below wr.heap.size wr w'),x.w.cell? ⟨b,off+2,none⟩=some (.slice A0 m0.v.length p0):=fun x=>(x.h.cell (p:=⟨b,off+2,none⟩) hbl).trans d0_2
    have g_d1_0:∀ x:Wd (fun w'=>Below wr.heap.size wr w'),x.w.cell? ⟨b,off+3,none⟩=some (.int .i64 m1.r):=fun x=>(x.h.cell (p:=⟨b,off+3,none⟩) hbl).trans d1_0
    have g_d1_1:∀ x:Wd (fun w'=>Below wr.heap.size wr w'),x.w.cell? ⟨b,off+4,none⟩=some (.int .i64 m1.c):=fun x=>(x.h.cell (p:=⟨b,off+4,none⟩) hbl).trans d1_1
    have g_d1_2:∀ x:Wd (fun w'=>Below wr.heap.size wr w'),x.w.cell? ⟨b,off+5,none⟩=some (.slice A1 m1.v.length p1):=fun x=>(x.h.cell (p:=⟨b,off+5,none⟩) hbl).trans d1_2
    repeat (go_big_quiet_step (first
     | (rename_i x;go_at_call 147;with_reducible exact d_ x Ql (HD.out _ x.h))
     | fail))
    refine wpQuiet_nil ?_;rintro wc ⟨x,hx⟩;have hwc:Below wr.heap.size wr wc:=by rw[hx];exact x.h
    clear hx x;have gc_c0:wc.cell? ⟨w.heap.size,0,none⟩=some (.int .i64 1):=(hwc.cell (p:=⟨w.heap.size,0,none⟩) z0).trans c0;have gc_c1:wc.cell? ⟨w.heap.size,1,none⟩=some (.slice (some ⟨b,off,none⟩) 2 cap):=(hwc.cell (p:=⟨w.heap.size,1,none⟩) z0).trans c1;have gc_d0_0:wc.cell? ⟨b,off,none⟩=some (.int .i64 m0.r):=(hwc.cell (p:=⟨b,off,none⟩) hbl).trans d0_0;have gc_d0_1:wc.cell? ⟨b,off+1,none⟩=some (.int .i64 m0.c):=(hwc.cell (p:=⟨b,off+1,none⟩) hbl).trans d0_1;have gc_d0_2:wc.cell? ⟨b,off+2,none⟩=some (.slice A0 m0.v.length p0):=(hwc.cell (p:=⟨b,off+2,none⟩) hbl).trans d0_2;have gc_d1_0:wc.cell? ⟨b,off+3,none⟩=some (.int .i64 m1.r):=(hwc.cell (p:=⟨b,off+3,none⟩) hbl).trans d1_0;have gc_d1_1:wc.cell? ⟨b,off+4,none⟩=some (.int .i64 m1.c):=(hwc.cell (p:=⟨b,off+4,none⟩) hbl).trans d1_1;have gc_d1_2:wc.cell? ⟨b,off+5,none⟩=some (.slice A1 m1.v.length p1):=(hwc.cell (p:=⟨b,off+5,none⟩) hbl).trans d1_2;have zc0:=Nat.lt_of_lt_of_le z0 hwc.size;have HC:Hid (Below w.heap.size w wc):=hob.out.trans (hwc.mono hob.out.size);clear hwc
    go_wp2_with fail
    go_quiet (fail)
    go_wp2
    go_ret2
    exact⟨_,by first|(rw[HE.out];rfl)|rw[HE.out],.inr ⟨HE.out,.inl ⟨rfl,A0,p0,_,A1,p1,_,m0,m1,HM0.out,HM1.out,HW0.out,HW1.out,rfl⟩⟩,below_drewN HC.out _⟩
  ·have HE:Hid (aL 1 ms=false):=(show aL 1 ms=false by unfold aL;rw[if_pos rfl,HLN.out];simp[n2])
   have t1:((n:Int) == 2)=false:=by simp;omega
   go_wp2_with fail
   refine aS (fun w'=>Below wr.heap.size wr w') (by kernel_rfl) (by kernel_rfl) Qb.drew ?_
   intro hne;have g_c0:∀ x:Wd (fun w'=>Below wr.heap.size wr w'),x.w.cell? ⟨w.heap.size,0,none⟩=some (.int .i64 1):=fun x=>(x.h.cell (p:=⟨w.heap.size,0,none⟩) z0).trans c0
   have g_c1:∀ x:Wd (fun w'=>Below wr.heap.size wr w'),x.w.cell? ⟨w.heap.size,1,none⟩=some (.slice A n cap):=fun x=>(x.h.cell (p:=⟨w.heap.size,1,none⟩) z0).trans c1
   repeat (go_big_quiet_step (first
    | fail))
   refine wpQuiet_nil ?_;rintro wc ⟨x,hx⟩;have hwc:Below wr.heap.size wr wc:=by rw[hx];exact x.h
   clear hx x;have gc_c0:wc.cell? ⟨w.heap.size,0,none⟩=some (.int .i64 1):=(hwc.cell (p:=⟨w.heap.size,0,none⟩) z0).trans c0;have gc_c1:wc.cell? ⟨w.heap.size,1,none⟩=some (.slice A n cap):=(hwc.cell (p:=⟨w.heap.size,1,none⟩) z0).trans c1;have zc0:=Nat.lt_of_lt_of_le z0 hwc.size;have HC:Hid (Below w.heap.size w wc):=hob.out.trans (hwc.mono hob.out.size);clear hwc;go_wp2
   go_ret2
   exact⟨.nilIface,by first|(rw[HE.out];rfl)|(simp[HE.out];done),.inl ⟨HE.out,rfl⟩,HC.out⟩
 have t1:(k == 1)=false:=by simp[k1]
 by_cases k2:k=2
 ·subst k2;clear k1
  cases n0:((n:Int) == 0)
  ·have HE:Hid (aL 2 ms=false):=(BF HLN.out).trans n0
   go_wp2_with fail
   refine aS (fun w'=>Below wr.heap.size wr w') (by kernel_rfl) (by kernel_rfl) Qb.drew ?_
   intro hne;have g_c0:∀ x:Wd (fun w'=>Below wr.heap.size wr w'),x.w.cell? ⟨w.heap.size,0,none⟩=some (.int .i64 2):=fun x=>(x.h.cell (p:=⟨w.heap.size,0,none⟩) z0).trans c0
   have g_c1:∀ x:Wd (fun w'=>Below wr.heap.size wr w'),x.w.cell? ⟨w.heap.size,1,none⟩=some (.slice A n cap):=fun x=>(x.h.cell (p:=⟨w.heap.size,1,none⟩) z0).trans c1
   repeat (go_big_quiet_step (first
    | fail))
   refine wpQuiet_nil ?_;rintro wc ⟨x,hx⟩;have hwc:Below wr.heap.size wr wc:=by rw[hx];exact x.h
   clear hx x;have gc_c0:wc.cell? ⟨w.heap.size,0,none⟩=some (.int .i64 2):=(hwc.cell (p:=⟨w.heap.size,0,none⟩) z0).trans c0;have gc_c1:wc.cell? ⟨w.heap.size,1,none⟩=some (.slice A n cap):=(hwc.cell (p:=⟨w.heap.size,1,none⟩) z0).trans c1;have zc0:=Nat.lt_of_lt_of_le z0 hwc.size;have HC:Hid (Below w.heap.size w wc):=hob.out.trans (hwc.mono hob.out.size);clear hwc;go_wp2
   go_ret2
   exact⟨.nilIface,by first|(rw[HE.out];rfl)|(simp[HE.out];done),.inl ⟨HE.out,rfl⟩,HC.out⟩
  ·have HE:Hid (aL 2 ms=true):=(BF HLN.out).trans n0
   go_wp2_with fail
   refine aS (fun w'=>Below wr.heap.size wr w') (by kernel_rfl) (by kernel_rfl) Qb.drew ?_
   intro hne;have g_c0:∀ x:Wd (fun w'=>Below wr.heap.size wr w'),x.w.cell? ⟨w.heap.size,0,none⟩=some (.int .i64 2):=fun x=>(x.h.cell (p:=⟨w.heap.size,0,none⟩) z0).trans c0
   have g_c1:∀ x:Wd (fun w'=>Below wr.heap.size wr w'),x.w.cell? ⟨w.heap.size,1,none⟩=some (.slice A n cap):=fun x=>(x.h.cell (p:=⟨w.heap.size,1,none⟩) z0).trans c1
   repeat (go_big_quiet_step (first
    | fail))
   refine wpQuiet_nil ?_;rintro wc ⟨x,hx⟩;have hwc:Below wr.heap.size wr wc:=by rw[hx];exact x.h
   clear hx x;have gc_c0:wc.cell? ⟨w.heap.size,0,none⟩=some (.int .i64 2):=(hwc.cell (p:=⟨w.heap.size,0,none⟩) z0).trans c0;have gc_c1:wc.cell? ⟨w.heap.size,1,none⟩=some (.slice A n cap):=(hwc.cell (p:=⟨w.heap.size,1,none⟩) z0).trans c1;have zc0:=Nat.lt_of_lt_of_le z0 hwc.size;have HC:Hid (Below w.heap.size w wc):=hob.out.trans (hwc.mono hob.out.size);clear hwc;go_wp2
   go_ret2
   exact⟨_,by first|(rw[HE.out];rfl)|rw[HE.out],.inr ⟨HE.out,.inr (.inl ⟨rfl,rfl⟩)⟩,HC.out⟩
 have t2:(k == 2)=false:=by simp[k2]
 by_cases k3:k=3
 ·subst k3;clear k1 k2
  by_cases n3:n=3
  ·subst n3;have hl:=CB HLN.out
   cases e1:jN ms
   ·have HE:Hid (aL 3 ms=false):=hl.trans e1
    go_wp2_with fail
    refine aS (fun w'=>Below wr.heap.size wr w') (by kernel_rfl) (by kernel_rfl) Qb.drew ?_
    intro hne;have g_c0:∀ x:Wd (fun w'=>Below wr.heap.size wr w'),x.w.cell? ⟨w.heap.size,0,none⟩=some (.int .i64 3):=fun x=>(x.h.cell (p:=⟨w.heap.size,0,none⟩) z0).trans c0
    have g_c1:∀ x:Wd (fun w'=>Below wr.heap.size wr w'),x.w.cell? ⟨w.heap.size,1,none⟩=some (.slice A 3 cap):=fun x=>(x.h.cell (p:=⟨w.heap.size,1,none⟩) z0).trans c1
    repeat (go_big_quiet_step (first
     | fail))
    refine wpQuiet_nil ?_;rintro wc ⟨x,hx⟩;have hwc:Below wr.heap.size wr wc:=by rw[hx];exact x.h
    clear hx x;have gc_c0:wc.cell? ⟨w.heap.size,0,none⟩=some (.int .i64 3):=(hwc.cell (p:=⟨w.heap.size,0,none⟩) z0).trans c0;have gc_c1:wc.cell? ⟨w.heap.size,1,none⟩=some (.slice A 3 cap):=(hwc.cell (p:=⟨w.heap.size,1,none⟩) z0).trans c1;have zc0:=Nat.lt_of_lt_of_le z0 hwc.size
    go_wp2_with fail
    have hmx:=ph A 3 cap ms F wc (HX.out.below (hob0.out.trans (hwc.mono hob0.out.size))) HS.out (by omega) (by omega)
    rw[e1] at hmx;refine hmx.mono ?_;rintro e w2 ⟨rfl,hb⟩;have q0:=(hb.cell (p:=⟨w.heap.size,0,none⟩) zc0).trans gc_c0;have q1:=(hb.cell (p:=⟨w.heap.size,1,none⟩) zc0).trans gc_c1;have q2:=Nat.lt_of_lt_of_le zc0 hb.size;have HC:Hid (Below w.heap.size w w2):=hob.out.trans ((hwc.trans (hb.mono hwc.size)).mono hob.out.size);clear hb hwc hmx e1;go_wp2
    go_ret2
    exact⟨.nilIface,by first|(rw[HE.out];rfl)|(simp[HE.out];done),.inl ⟨HE.out,rfl⟩,HC.out⟩
   ·have HE:Hid (aL 3 ms=true):=hl.trans e1
    go_wp2_with fail
    refine aS (fun w'=>Below wr.heap.size wr w') (by kernel_rfl) (by kernel_rfl) Qb.drew ?_
    intro hne;have g_c0:∀ x:Wd (fun w'=>Below wr.heap.size wr w'),x.w.cell? ⟨w.heap.size,0,none⟩=some (.int .i64 3):=fun x=>(x.h.cell (p:=⟨w.heap.size,0,none⟩) z0).trans c0
    have g_c1:∀ x:Wd (fun w'=>Below wr.heap.size wr w'),x.w.cell? ⟨w.heap.size,1,none⟩=some (.slice A 3 cap):=fun x=>(x.h.cell (p:=⟨w.heap.size,1,none⟩) z0).trans c1
    repeat (go_big_quiet_step (first
     | fail))
    refine wpQuiet_nil ?_;rintro wc ⟨x,hx⟩;have hwc:Below wr.heap.size wr wc:=by rw[hx];exact x.h
    clear hx x;have gc_c0:wc.cell? ⟨w.heap.size,0,none⟩=some (.int .i64 3):=(hwc.cell (p:=⟨w.heap.size,0,none⟩) z0).trans c0;have gc_c1:wc.cell? ⟨w.heap.size,1,none⟩=some (.slice A 3 cap):=(hwc.cell (p:=⟨w.heap.size,1,none⟩) z0).trans c1;have zc0:=Nat.lt_of_lt_of_le z0 hwc.size
    go_wp2_with fail
    have hmx:=ph A 3 cap ms F wc (HX.out.below (hob0.out.trans (hwc.mono hob0.out.size))) HS.out (by omega) (by omega)
    rw[e1] at hmx;refine hmx.mono ?_;rintro e w2 ⟨rfl,hb⟩;have q0:=(hb.cell (p:=⟨w.heap.size,0,none⟩) zc0).trans gc_c0;have q1:=(hb.cell (p:=⟨w.heap.size,1,none⟩) zc0).trans gc_c1;have q2:=Nat.lt_of_lt_of_le zc0 hb.size;have HC:Hid (Below w.heap.size w w2):=hob.out.trans ((hwc.trans (hb.mono hwc.size)).mono hob.out.size);clear hb hwc hmx e1;go_wp2
    go_ret2
    exact⟨_,by first|(rw[HE.out];rfl)|rw[HE.out],.inr ⟨HE.out,.inr (.inr ⟨rfl,rfl⟩)⟩,HC.out⟩
  ·have HE:Hid (aL 3 ms=false):=(show aL 3 ms=false by unfold aL;rw[if_neg (by decide),if_neg (by decide),if_pos rfl,HLN.out];simp[n3])
   have t3:((n:Int) == 3)=false:=by simp;omega
   go_wp2_with fail
   refine aS (fun w'=>Below wr.heap.size wr w') (by kernel_rfl) (by kernel_rfl) Qb.drew ?_
   intro hne;have g_c0:∀ x:Wd (fun w'=>Below wr.heap.size wr w'),x.w.cell? ⟨w.heap.size,0,none⟩=some (.int .i64 3):=fun x=>(x.h.cell (p:=⟨w.heap.size,0,none⟩) z0).trans c0
   have g_c1:∀ x:Wd (fun w'=>Below wr.heap.size wr w'),x.w.cell? ⟨w.heap.size,1,none⟩=some (.slice A n cap):=fun x=>(x.h.cell (p:=⟨w.heap.size,1,none⟩) z0).trans c1
   repeat (go_big_quiet_step (first
    | fail))
   refine wpQuiet_nil ?_;rintro wc ⟨x,hx⟩;have hwc:Below wr.heap.size wr wc:=by rw[hx];exact x.h
   clear hx x;have gc_c0:wc.cell? ⟨w.heap.size,0,none⟩=some (.int .i64 3):=(hwc.cell (p:=⟨w.heap.size,0,none⟩) z0).trans c0;have gc_c1:wc.cell? ⟨w.heap.size,1,none⟩=some (.slice A n cap):=(hwc.cell (p:=⟨w.heap.size,1,none⟩) z0).trans c1;have zc0:=Nat.lt_of_lt_of_le z0 hwc.size;have HC:Hid (Below w.heap.size w wc):=hob.out.trans (hwc.mono hob.out.size);clear hwc;go_wp2
   go_ret2
   exact⟨.nilIface,by first|(rw[HE.out];rfl)|(simp[HE.out];done),.inl ⟨HE.out,rfl⟩,HC.out⟩
 ·have HE:Hid (aL k ms=false):=Gr k1 k2 k3;have t3:(k == 3)=false:=by simp[k3]
  go_wp2_with fail
  refine aS (fun w'=>Below wr.heap.size wr w') (by kernel_rfl) (by kernel_rfl) Qb.drew ?_
  intro hne;have g_c0:∀ x:Wd (fun w'=>Below wr.heap.size wr w'),x.w.cell? ⟨w.heap.size,0,none⟩=some (.int .i64 k):=fun x=>(x.h.cell (p:=⟨w.heap.size,0,none⟩) z0).trans c0
  have g_c1:∀ x:Wd (fun w'=>Below wr.heap.size wr w'),x.w.cell? ⟨w.heap.size,1,none⟩=some (.slice A n cap):=fun x=>(x.h.cell (p:=⟨w.heap.size,1,none⟩) z0).trans c1
  repeat (go_big_quiet_step (first
   | fail))
  refine wpQuiet_nil ?_;rintro wc ⟨x,hx⟩;have hwc:Below wr.heap.size wr wc:=by rw[hx];exact x.h
  clear hx x;have gc_c0:wc.cell? ⟨w.heap.size,0,none⟩=some (.int .i64 k):=(hwc.cell (p:=⟨w.heap.size,0,none⟩) z0).trans c0;have gc_c1:wc.cell? ⟨w.heap.size,1,none⟩=some (.slice A n cap):=(hwc.cell (p:=⟨w.heap.size,1,none⟩) z0).trans c1;have zc0:=Nat.lt_of_lt_of_le z0 hwc.size;have HC:Hid (Below w.heap.size w wc):=hob.out.trans (hwc.mono hob.out.size);clear hwc;go_wp2
  go_ret2
  exact⟨.nilIface,by first|(rw[HE.out];rfl)|(simp[HE.out];done),.inl ⟨HE.out,rfl⟩,HC.out⟩
theorem Ec (k:Int) (A:Option Addr) (n cap:Nat) (ms:List Mx) (F:List Nat) (w:World) (hx:RI mxE w A n cap ms F) (bs:∀ m,m∈ms->mS m) (bn:n<=1048576) :
  Calls prog 56 #[.agg #[.int .i64 k,.slice A n cap]] w fun e w'=>e= .returned (.bool (aL k ms))/\Below w.heap.size w w':=by
 have HX:=Qh hx;have HS:=Qh bs;clear hx bs;have HB:=Qh ((Below.refl w.heap.size w).alloc Ql (.cells #[.int .i64 k,.slice A n cap] 80))
 go_enter func56,ntmps56
 go_wp2_with fail
 refine(lj k A n cap ms F _ _ (HX.out.alloc _) Qb HS.out bn).mono ?_;rintro e w2 ⟨v,rfl,-,hb⟩;have HC:=Qh (HB.out.trans (hb.mono (by simp)))
 clear hb;go_wp2
 go_ret
 exact⟨rfl,HC.out⟩
theorem ef (A:Option Addr) (n cap:Nat) (xs:List (Mx×Mx)) (F:List Nat) (w:World) (hx:RI smE w A n cap xs F) (bn:n<=1048576) (bs:∀ x,x∈xs->smS x) :
  Calls prog 181 #[.slice A n cap] w (jV smE xs w):=by
 obtain⟨i0,hi,hz0,hz1,hz2⟩:=info_parts lq;have HLN:=Qh hx.1;have HX:=Qh hx;have HS:=Qh bs;clear hx bs;have H0:Hid (∃ css F',OX smE (w.alloc (.cells #[] 82)) w.heap.size 82 (some ⟨w.heap.size,0,none⟩) 0 0 css (xs.take 0) F'):=⟨_,_,OX.kG w Ql _⟩;have B0:Hid (Below w.heap.size w (w.alloc (.cells #[] 82))):=Qb.alloc Ql _
 go_enter func181,ntmps181
 go_wp2
 go_loopw [3,4] (fun v i wr=>∃ (j c':Nat) (A':Option Addr),j<=n/\i= .int .i64 j/\v= .slice A' j c'/\Hid (∃ css F',OX smE wr w.heap.size 82 A' j c' css (xs.take j) F')/\Hid (Below w.heap.size w wr)) (fun _ i _=>n-(intOf i).toNat)
 case atStart=>exact⟨0,0,_,Nat.zero_le _,rfl,rfl,H0,B0⟩
 case round =>
 obtain⟨j,c',A',hj,rfl,rfl,hox,hob⟩:=hrel
 by_cases hlt:j<n
 ·obtain⟨x,hxj,hmem⟩:=aH (xs:=xs) (j:=j) (by have:=HLN.out;omega)
  have HXJ:=Qh hxj;have hsx:=HS.out x hmem;have hwr:w.heap.size<=wr.heap.size:=hob.out.size;obtain⟨b,off,cs,F1,rfl,hbl,hc,_,hP⟩:=(HX.out.below hob.out).cells hxj 6 rfl;have HP:=Qh hP;obtain⟨Aa,ca,Ab,cb,Fa,Fb,rfl,hm1,hm2,_⟩:=hP;have d0:wr.cell? ⟨b,off+j*6,none⟩=some (.int .i64 x.1.r):=hc 0 (by omega)
  have d1:wr.cell? ⟨b,off+j*6+1,none⟩=some (.int .i64 x.1.c):=hc 1 (by omega)
  have d2:wr.cell? ⟨b,off+j*6+2,none⟩=some (.slice Aa x.1.v.length ca):=hc 2 (by omega)
  have d3:wr.cell? ⟨b,off+j*6+3,none⟩=some (.int .i64 x.2.r):=hc 3 (by omega)
  have d4:wr.cell? ⟨b,off+j*6+4,none⟩=some (.int .i64 x.2.c):=hc 4 (by omega)
  have d5:wr.cell? ⟨b,off+j*6+5,none⟩=some (.slice Ab x.2.v.length cb):=hc 5 (by omega)
  have i0':(0:Int)<=(j:Int):=by omega
  have i1:(j:Int)<(n:Int):=by omega
  clear hc hxj hmem
  go_wp2_with fail
  refine(Im wr _ x _ HP.out hsx).mono ?_;rintro e w4 ⟨ds,G,rfl,hQ,hG,hb4⟩;have HQ:=Qh hQ;obtain⟨Ba,da,Bb,db,Ga,Gb,rfl,hm1,hm2,_⟩:=hQ;have HG:=Qh hG;have HB4:=Qh hb4;have h4:wr.heap.size<=w4.heap.size:=hb4.size;obtain⟨css,F',hox'⟩:=hox.out;have HOX:=Qh (hox'.below hb4);have HD:Hid (∀ g,g∈G->g∉F'/\blk A'≠some g):=fun g hg=>⟨fun h=>by have:=hox'.lt g h;have:=(HG.out.2 g hg).1;omega,fun h=>by have:=(hox'.aj g h).2;have:=(HG.out.2 g hg).1;omega⟩
  have HBW:Hid (Below w.heap.size w w4):=hob.out.trans (hb4.mono hwr);clear hox hox' hb4 hG hob
  go_wp2_with (at_builtin;refine wpList_append_lies _ rfl _ _ 97 rfl w.heap.size 82 i0 (.agg #[.int .i64 0,.int .i64 0,.slice none 0 0,.int .i64 0,.int .i64 0,.slice none 0 0]) 6 80 underlying97 hi hz0 hz1 hz2 rfl (by decide) (.slice A' j c') j _ rfl (World.ownsRow.alloc HOX.out.1 _) ⟨w4.heap.size,0,none⟩ 1 1 [.int .i64 x.1.r,.int .i64 x.1.c,.slice Ba x.1.v.length da,.int .i64 x.2.r,.int .i64 x.2.c,.slice Bb x.2.v.length db] rfl rfl ?c1 ?c2 ?c3 ?c4 ?c5 ?c6 (w4.heap.size+1) ?c7 ?_)
  case c1 =>
   exact dz w4 _ _
  case c2=>intro u hu;simp at hu;rcases hu with rfl|rfl|rfl|rfl|rfl|rfl <;> rfl
  case c3=>omega
  case c4=>unfold maxLen;omega
  case c5=>omega
  case c6=>simp;omega
  case c7=>simp
  intro g cap5 w5 hown hgrow hat hlt5;obtain⟨k1,k2,k3⟩:=OX.push HOX.out HQ.out (HG.out.mono hwr) HD.out HBW.out Ql (by omega) hown hgrow hat
  rw[<-aW HXJ.out] at k1;have K1:Hid (∃ css F',OX smE w5 w.heap.size 82 (some ⟨g,0,none⟩) (j+1) cap5 css (xs.take (j+1)) F'):=⟨_,_,k1⟩;have K2:=Qh k2;clear k1 k2 k3 hown hgrow hat HOX HQ HG HD HBW HB4;go_wp2
  go_roundw
  case rel=>exact⟨j+1,cap5,_,by omega,by go_num,rfl,K1,K2⟩
  case measure=>simp[intOf];omega
 ·obtain rfl:j=n:=by omega
  go_wp2;refine bodyPost_ret (v:= .slice A' j c') (by simp[results,results181,go_sem]) rfl ?_
  obtain⟨css,F',hox'⟩:=hox.out;rw[List.take_of_length_le (by have:=HLN.out;omega)] at hox'
  exact jV.uk hox' hob.out
theorem kP (A:Option Addr) (n cap:Nat) (xs:List Mx) (F:List Nat) (w:World) (hx:RI mxE w A n cap xs F) (bn:n<=1048576) (bs:∀ x,x∈xs->mS x) :
  Calls prog 223 #[.slice A n cap] w (jV mxE xs w):=by
 obtain⟨i0,hi,hz0,hz1,hz2⟩:=info_parts rI;have HLN:=Qh hx.1;have HX:=Qh hx;have HS:=Qh bs;clear hx bs;have H0:Hid (∃ css F',OX mxE (w.alloc (.cells #[] 37)) w.heap.size 37 (some ⟨w.heap.size,0,none⟩) 0 0 css (xs.take 0) F'):=⟨_,_,OX.kG w Ql _⟩;have B0:Hid (Below w.heap.size w (w.alloc (.cells #[] 37))):=Qb.alloc Ql _
 go_enter func223,ntmps223
 go_wp2
 go_loopw [3,4] (fun v i wr=>∃ (j c':Nat) (A':Option Addr),j<=n/\i= .int .i64 j/\v= .slice A' j c'/\Hid (∃ css F',OX mxE wr w.heap.size 37 A' j c' css (xs.take j) F')/\Hid (Below w.heap.size w wr)) (fun _ i _=>n-(intOf i).toNat)
 case atStart=>exact⟨0,0,_,Nat.zero_le _,rfl,rfl,H0,B0⟩
 case round =>
 obtain⟨j,c',A',hj,rfl,rfl,hox,hob⟩:=hrel
 by_cases hlt:j<n
 ·obtain⟨x,hxj,hmem⟩:=aH (xs:=xs) (j:=j) (by have:=HLN.out;omega)
  have HXJ:=Qh hxj;have hsx:=HS.out x hmem;have hwr:w.heap.size<=wr.heap.size:=hob.out.size;obtain⟨b,off,cs,F1,rfl,hbl,hc,_,hP⟩:=(HX.out.below hob.out).cells hxj 3 rfl;have HP:=Qh hP;obtain⟨Aa,ca,rfl,hm1⟩:=hP;have d0:wr.cell? ⟨b,off+j*3,none⟩=some (.int .i64 x.r):=hc 0 (by omega)
  have d1:wr.cell? ⟨b,off+j*3+1,none⟩=some (.int .i64 x.c):=hc 1 (by omega)
  have d2:wr.cell? ⟨b,off+j*3+2,none⟩=some (.slice Aa x.v.length ca):=hc 2 (by omega)
  have i0':(0:Int)<=(j:Int):=by omega
  have i1:(j:Int)<(n:Int):=by omega
  clear hc hxj hmem
  go_wp2_with fail
  refine(BZ wr _ x _ HP.out hsx).mono ?_;rintro e w4 ⟨ds,G,rfl,hQ,hG,hb4⟩;have HQ:=Qh hQ;obtain⟨Ba,da,rfl,hm1⟩:=hQ;have HG:=Qh hG;have HB4:=Qh hb4;have h4:wr.heap.size<=w4.heap.size:=hb4.size;obtain⟨css,F',hox'⟩:=hox.out;have HOX:=Qh (hox'.below hb4);have HD:Hid (∀ g,g∈G->g∉F'/\blk A'≠some g):=fun g hg=>⟨fun h=>by have:=hox'.lt g h;have:=(HG.out.2 g hg).1;omega,fun h=>by have:=(hox'.aj g h).2;have:=(HG.out.2 g hg).1;omega⟩
  have HBW:Hid (Below w.heap.size w w4):=hob.out.trans (hb4.mono hwr);clear hox hox' hb4 hG hob
  go_wp2_with (at_builtin;refine wpList_append_lies _ rfl _ _ 69 rfl w.heap.size 37 i0 (.agg #[.int .i64 0,.int .i64 0,.slice none 0 0]) 3 40 underlying69 hi hz0 hz1 hz2 rfl (by decide) (.slice A' j c') j _ rfl (World.ownsRow.alloc HOX.out.1 _) ⟨w4.heap.size,0,none⟩ 1 1 [.int .i64 x.r,.int .i64 x.c,.slice Ba x.v.length da] rfl rfl ?c1 ?c2 ?c3 ?c4 ?c5 ?c6 (w4.heap.size+1) ?c7 ?_)
  case c1 =>
   exact dz w4 _ _
  case c2=>intro u hu;simp at hu;rcases hu with rfl|rfl|rfl <;> rfl
  case c3=>omega
  case c4=>unfold maxLen;omega
  case c5=>omega
  case c6=>simp;omega
  case c7=>simp
  intro g cap5 w5 hown hgrow hat hlt5;obtain⟨k1,k2,k3⟩:=OX.push HOX.out HQ.out (HG.out.mono hwr) HD.out HBW.out Ql (by omega) hown hgrow hat
  rw[<-aW HXJ.out] at k1;have K1:Hid (∃ css F',OX mxE w5 w.heap.size 37 (some ⟨g,0,none⟩) (j+1) cap5 css (xs.take (j+1)) F'):=⟨_,_,k1⟩;have K2:=Qh k2;clear k1 k2 k3 hown hgrow hat HOX HQ HG HD HBW HB4;go_wp2
  go_roundw
  case rel=>exact⟨j+1,cap5,_,by omega,by go_num,rfl,K1,K2⟩
  case measure=>simp[intOf];omega
 ·obtain rfl:j=n:=by omega
  go_wp2;refine bodyPost_ret (v:= .slice A' j c') (by simp[results,results223,go_sem]) rfl ?_
  obtain⟨css,F',hox'⟩:=hox.out;rw[List.take_of_length_le (by have:=HLN.out;omega)] at hox'
  exact jV.uk hox' hob.out
theorem jQ (W:World) (cs:List Value) (x:(Int×List (Mx×Mx))) (F:List Nat) (h:(kE smE).P W cs x F) (b:(kS smS) x) :
  Calls prog 131 #[.agg cs.toArray] W (sP (kE smE) x W):=by
 obtain⟨A,c,rfl,h1⟩:=h;have HX:=Qh h1;have HS:=Qh b;clear h1 b
 go_enter func131,ntmps131
 go_wp2_with fail
 obtain⟨u1,hu1⟩:∃ u,u=(((W.alloc (.cells #[.int .i64 x.1,.slice A x.2.length c] 99)).alloc (.cells #[.int .i64 0,.slice none 0 0] 99)).alloc (.cells #[.int .i64 x.1,.slice A x.2.length c] 99)):=⟨_,rfl⟩;rw[<-hu1];have hzu1:u1.heap.size<=W.heap.size+3:=by rw[hu1];simp
 have hyu1:W.heap.size+3<=u1.heap.size:=by rw[hu1];simp
 have B1_1:Blk u1 (W.heap.size) 99 #[.int .i64 x.1,.slice A x.2.length c]:=by rw[hu1];have h:=(((Blk.new W 99 #[.int .i64 x.1,.slice A x.2.length c]).alloc (.cells #[.int .i64 0,.slice none 0 0] 99)).alloc (.cells #[.int .i64 x.1,.slice A x.2.length c] 99));simpa using h
 have xb1:W.heap.size<=W.heap.size:=by omega
 have B1_2:Blk u1 (W.heap.size+1) 99 #[.int .i64 0,.slice none 0 0]:=by rw[hu1];have h:=((Blk.new (W.alloc (.cells #[.int .i64 x.1,.slice A x.2.length c] 99)) 99 #[.int .i64 0,.slice none 0 0]).alloc (.cells #[.int .i64 x.1,.slice A x.2.length c] 99));simpa using h
 have xb2:W.heap.size<=W.heap.size+1:=by omega
 have B1_3:Blk u1 (W.heap.size+2) 99 #[.int .i64 x.1,.slice A x.2.length c]:=by rw[hu1];have h:=(Blk.new ((W.alloc (.cells #[.int .i64 x.1,.slice A x.2.length c] 99)).alloc (.cells #[.int .i64 0,.slice none 0 0] 99)) 99 #[.int .i64 x.1,.slice A x.2.length c]);simpa using h
 have xb3:W.heap.size<=W.heap.size+2:=by omega
 have O1:Below W.heap.size W u1:=by rw[hu1];exact((((Below.refl W.heap.size W).alloc (by first|omega|(simp;done)|(simp;omega)) _).alloc (by first|omega|(simp;done)|(simp;omega)) _).alloc (by first|omega|(simp;done)|(simp;omega)) _)
 have m1:W.heap.size<=u1.heap.size:=by omega
 clear hu1;refine(ef A _ c x.2 F u1 (HX.out.below O1) HS.out.1 HS.out.2).mono ?_;rintro e w2 ⟨A',c',F',rfl,hri,hfr,hb⟩;have B2_1:=(B1_1.aa hb);have B2_2:=(B1_2.aa hb);have B2_3:=(B1_3.aa hb);have O2:=O1.trans (hb.mono (by omega))
 have m2:W.heap.size<=w2.heap.size:=by have:=hb.size;omega
 have HR:=Qh hri;have HF:=Qh (hfr.mono (base':=u1.heap.size) (by omega))
 have HFU:Hid (∀ g,g∈F'->u1.heap.size<=g):=fun g hg=>(HF.out.2 g hg).1
 have ub3:W.heap.size+2<u1.heap.size:=by have:=B1_3.lt;omega
 have ub2:W.heap.size+1<u1.heap.size:=by have:=B1_2.lt;omega
 clear B1_1 B1_2 B1_3 O1 hb hri hfr;have z2_1:W.heap.size<w2.heap.size:=B2_1.lt;have c2_1_0:w2.cell? ⟨W.heap.size,0,none⟩=some (.int .i64 x.1):=B2_1.cell 0;have f2_1_0:w2.frozen? ⟨W.heap.size,0,none⟩=false:=B2_1.frozen 0;have c2_1_1:w2.cell? ⟨W.heap.size,1,none⟩=some (.slice A x.2.length c):=B2_1.cell 1;have f2_1_1:w2.frozen? ⟨W.heap.size,1,none⟩=false:=B2_1.frozen 1;have z2_2:W.heap.size+1<w2.heap.size:=B2_2.lt;have c2_2_0:w2.cell? ⟨W.heap.size+1,0,none⟩=some (.int .i64 0):=B2_2.cell 0;have f2_2_0:w2.frozen? ⟨W.heap.size+1,0,none⟩=false:=B2_2.frozen 0;have c2_2_1:w2.cell? ⟨W.heap.size+1,1,none⟩=some (.slice none 0 0):=B2_2.cell 1;have f2_2_1:w2.frozen? ⟨W.heap.size+1,1,none⟩=false:=B2_2.frozen 1;have z2_3:W.heap.size+2<w2.heap.size:=B2_3.lt;have c2_3_0:w2.cell? ⟨W.heap.size+2,0,none⟩=some (.int .i64 x.1):=B2_3.cell 0;have f2_3_0:w2.frozen? ⟨W.heap.size+2,0,none⟩=false:=B2_3.frozen 0;have c2_3_1:w2.cell? ⟨W.heap.size+2,1,none⟩=some (.slice A x.2.length c):=B2_3.cell 1;have f2_3_1:w2.frozen? ⟨W.heap.size+2,1,none⟩=false:=B2_3.frozen 1;have HK:Hid (∀ g,g∈F'->(((w2.setCell ⟨W.heap.size+2,1,none⟩ (.slice A' x.2.length c')).setCell ⟨W.heap.size+1,0,none⟩ (.int .i64 x.1)).setCell ⟨W.heap.size+1,1,none⟩ (.slice A' x.2.length c')).heap[g]?=w2.heap[g]?):=fun g hg=>by
  have hg:=HFU.out g hg
  exact(Below.heap_setCell _ _ _ g (by dsimp only;omega)).trans ((Below.heap_setCell _ _ _ g (by dsimp only;omega)).trans (Below.heap_setCell _ _ _ g (by dsimp only;omega)))
 go_wp2
 exact bodyPost_ret (v:= .agg #[.int .i64 x.1,.slice A' x.2.length c']) (by simp[results,results131,go_sem,z2_1,c2_1_0,f2_1_0,c2_1_1,f2_1_1,z2_2,c2_2_0,f2_2_0,c2_2_1,f2_2_1,z2_3,c2_3_0,f2_3_0,c2_3_1,f2_3_1,(by omega:¬W.heap.size=W.heap.size+1),(by omega:¬W.heap.size+1=W.heap.size),(by omega:¬W.heap.size=W.heap.size+2),(by omega:¬W.heap.size+2=W.heap.size),(by omega:¬W.heap.size+1=W.heap.size+2),(by omega:¬W.heap.size+2=W.heap.size+1)]) rfl ⟨[.int .i64 x.1,.slice A' x.2.length c'],F',rfl,⟨A',c',rfl,HR.out.au HK.out⟩,(HF.out.mono (by omega)).au HK.out,(((O2.setCell (by dsimp only;omega) _).setCell (by dsimp only;omega) _).setCell (by dsimp only;omega) _)⟩
theorem qD (W:World) (cs:List Value) (x:(Int×List Mx)) (F:List Nat) (h:(kE mxE).P W cs x F) (b:(kS mS) x) :
  Calls prog 182 #[.agg cs.toArray] W (sP (kE mxE) x W):=by
 obtain⟨A,c,rfl,h1⟩:=h;have HX:=Qh h1;have HS:=Qh b;clear h1 b
 go_enter func182,ntmps182
 go_wp2_with fail
 obtain⟨u1,hu1⟩:∃ u,u=(((W.alloc (.cells #[.int .i64 x.1,.slice A x.2.length c] 80)).alloc (.cells #[.int .i64 0,.slice none 0 0] 80)).alloc (.cells #[.int .i64 x.1,.slice A x.2.length c] 80)):=⟨_,rfl⟩;rw[<-hu1];have hzu1:u1.heap.size<=W.heap.size+3:=by rw[hu1];simp
 have hyu1:W.heap.size+3<=u1.heap.size:=by rw[hu1];simp
 have B1_1:Blk u1 (W.heap.size) 80 #[.int .i64 x.1,.slice A x.2.length c]:=by rw[hu1];have h:=(((Blk.new W 80 #[.int .i64 x.1,.slice A x.2.length c]).alloc (.cells #[.int .i64 0,.slice none 0 0] 80)).alloc (.cells #[.int .i64 x.1,.slice A x.2.length c] 80));simpa using h
 have xb1:W.heap.size<=W.heap.size:=by omega
 have B1_2:Blk u1 (W.heap.size+1) 80 #[.int .i64 0,.slice none 0 0]:=by rw[hu1];have h:=((Blk.new (W.alloc (.cells #[.int .i64 x.1,.slice A x.2.length c] 80)) 80 #[.int .i64 0,.slice none 0 0]).alloc (.cells #[.int .i64 x.1,.slice A x.2.length c] 80));simpa using h
 have xb2:W.heap.size<=W.heap.size+1:=by omega
 have B1_3:Blk u1 (W.heap.size+2) 80 #[.int .i64 x.1,.slice A x.2.length c]:=by rw[hu1];have h:=(Blk.new ((W.alloc (.cells #[.int .i64 x.1,.slice A x.2.length c] 80)).alloc (.cells #[.int .i64 0,.slice none 0 0] 80)) 80 #[.int .i64 x.1,.slice A x.2.length c]);simpa using h
 have xb3:W.heap.size<=W.heap.size+2:=by omega
 have O1:Below W.heap.size W u1:=by rw[hu1];exact((((Below.refl W.heap.size W).alloc (by first|omega|(simp;done)|(simp;omega)) _).alloc (by first|omega|(simp;done)|(simp;omega)) _).alloc (by first|omega|(simp;done)|(simp;omega)) _)
 have m1:W.heap.size<=u1.heap.size:=by omega
 clear hu1;refine(kP A _ c x.2 F u1 (HX.out.below O1) HS.out.1 HS.out.2).mono ?_;rintro e w2 ⟨A',c',F',rfl,hri,hfr,hb⟩;have B2_1:=(B1_1.aa hb);have B2_2:=(B1_2.aa hb);have B2_3:=(B1_3.aa hb);have O2:=O1.trans (hb.mono (by omega))
 have m2:W.heap.size<=w2.heap.size:=by have:=hb.size;omega
 have HR:=Qh hri;have HF:=Qh (hfr.mono (base':=u1.heap.size) (by omega))
 have HFU:Hid (∀ g,g∈F'->u1.heap.size<=g):=fun g hg=>(HF.out.2 g hg).1
 have ub3:W.heap.size+2<u1.heap.size:=by have:=B1_3.lt;omega
 have ub2:W.heap.size+1<u1.heap.size:=by have:=B1_2.lt;omega
 clear B1_1 B1_2 B1_3 O1 hb hri hfr;have z2_1:W.heap.size<w2.heap.size:=B2_1.lt;have c2_1_0:w2.cell? ⟨W.heap.size,0,none⟩=some (.int .i64 x.1):=B2_1.cell 0;have f2_1_0:w2.frozen? ⟨W.heap.size,0,none⟩=false:=B2_1.frozen 0;have c2_1_1:w2.cell? ⟨W.heap.size,1,none⟩=some (.slice A x.2.length c):=B2_1.cell 1;have f2_1_1:w2.frozen? ⟨W.heap.size,1,none⟩=false:=B2_1.frozen 1;have z2_2:W.heap.size+1<w2.heap.size:=B2_2.lt;have c2_2_0:w2.cell? ⟨W.heap.size+1,0,none⟩=some (.int .i64 0):=B2_2.cell 0;have f2_2_0:w2.frozen? ⟨W.heap.size+1,0,none⟩=false:=B2_2.frozen 0;have c2_2_1:w2.cell? ⟨W.heap.size+1,1,none⟩=some (.slice none 0 0):=B2_2.cell 1;have f2_2_1:w2.frozen? ⟨W.heap.size+1,1,none⟩=false:=B2_2.frozen 1;have z2_3:W.heap.size+2<w2.heap.size:=B2_3.lt;have c2_3_0:w2.cell? ⟨W.heap.size+2,0,none⟩=some (.int .i64 x.1):=B2_3.cell 0;have f2_3_0:w2.frozen? ⟨W.heap.size+2,0,none⟩=false:=B2_3.frozen 0;have c2_3_1:w2.cell? ⟨W.heap.size+2,1,none⟩=some (.slice A x.2.length c):=B2_3.cell 1;have f2_3_1:w2.frozen? ⟨W.heap.size+2,1,none⟩=false:=B2_3.frozen 1;have HK:Hid (∀ g,g∈F'->(((w2.setCell ⟨W.heap.size+2,1,none⟩ (.slice A' x.2.length c')).setCell ⟨W.heap.size+1,0,none⟩ (.int .i64 x.1)).setCell ⟨W.heap.size+1,1,none⟩ (.slice A' x.2.length c')).heap[g]?=w2.heap[g]?):=fun g hg=>by
  have hg:=HFU.out g hg
  exact(Below.heap_setCell _ _ _ g (by dsimp only;omega)).trans ((Below.heap_setCell _ _ _ g (by dsimp only;omega)).trans (Below.heap_setCell _ _ _ g (by dsimp only;omega)))
 go_wp2
 exact bodyPost_ret (v:= .agg #[.int .i64 x.1,.slice A' x.2.length c']) (by simp[results,results182,go_sem,z2_1,c2_1_0,f2_1_0,c2_1_1,f2_1_1,z2_2,c2_2_0,f2_2_0,c2_2_1,f2_2_1,z2_3,c2_3_0,f2_3_0,c2_3_1,f2_3_1,(by omega:¬W.heap.size=W.heap.size+1),(by omega:¬W.heap.size+1=W.heap.size),(by omega:¬W.heap.size=W.heap.size+2),(by omega:¬W.heap.size+2=W.heap.size),(by omega:¬W.heap.size+1=W.heap.size+2),(by omega:¬W.heap.size+2=W.heap.size+1)]) rfl ⟨[.int .i64 x.1,.slice A' x.2.length c'],F',rfl,⟨A',c',rfl,HR.out.au HK.out⟩,(HF.out.mono (by omega)).au HK.out,(((O2.setCell (by dsimp only;omega) _).setCell (by dsimp only;omega) _).setCell (by dsimp only;omega) _)⟩
theorem bW (A:Option Addr) (n cap:Nat) (xs:List (Int×List (Mx×Mx))) (F:List Nat) (w:World) (hx:RI (kE smE) w A n cap xs F) (bn:n<=1048576) (bs:∀ x,x∈xs->(kS smS) x) :
  Calls prog 85 #[.slice A n cap] w (jV (kE smE) xs w):=by
 obtain⟨i0,hi,hz0,hz1,hz2⟩:=info_parts nJ;have HLN:=Qh hx.1;have HX:=Qh hx;have HS:=Qh bs;clear hx bs;have H0:Hid (∃ css F',OX (kE smE) (w.alloc (.cells #[] 99)) w.heap.size 99 (some ⟨w.heap.size,0,none⟩) 0 0 css (xs.take 0) F'):=⟨_,_,OX.kG w Ql _⟩;have B0:Hid (Below w.heap.size w (w.alloc (.cells #[] 99))):=Qb.alloc Ql _
 go_enter func85,ntmps85
 go_wp2
 go_loopw [3,4] (fun v i wr=>∃ (j c':Nat) (A':Option Addr),j<=n/\i= .int .i64 j/\v= .slice A' j c'/\Hid (∃ css F',OX (kE smE) wr w.heap.size 99 A' j c' css (xs.take j) F')/\Hid (Below w.heap.size w wr)) (fun _ i _=>n-(intOf i).toNat)
 case atStart=>exact⟨0,0,_,Nat.zero_le _,rfl,rfl,H0,B0⟩
 case round =>
 obtain⟨j,c',A',hj,rfl,rfl,hox,hob⟩:=hrel
 by_cases hlt:j<n
 ·obtain⟨x,hxj,hmem⟩:=aH (xs:=xs) (j:=j) (by have:=HLN.out;omega)
  have HXJ:=Qh hxj;have hsx:=HS.out x hmem;have hwr:w.heap.size<=wr.heap.size:=hob.out.size;obtain⟨b,off,cs,F1,rfl,hbl,hc,_,hP⟩:=(HX.out.below hob.out).cells hxj 2 rfl;have HP:=Qh hP;obtain⟨Aa,ca,rfl,hm1⟩:=hP;have d0:wr.cell? ⟨b,off+j*2,none⟩=some (.int .i64 x.1):=hc 0 (by omega)
  have d1:wr.cell? ⟨b,off+j*2+1,none⟩=some (.slice Aa x.2.length ca):=hc 1 (by omega)
  have i0':(0:Int)<=(j:Int):=by omega
  have i1:(j:Int)<(n:Int):=by omega
  clear hc hxj hmem
  go_wp2_with fail
  refine(jQ wr _ x _ HP.out hsx).mono ?_;rintro e w4 ⟨ds,G,rfl,hQ,hG,hb4⟩;have HQ:=Qh hQ;obtain⟨Ba,da,rfl,hm1⟩:=hQ;have HG:=Qh hG;have HB4:=Qh hb4;have h4:wr.heap.size<=w4.heap.size:=hb4.size;obtain⟨css,F',hox'⟩:=hox.out;have HOX:=Qh (hox'.below hb4);have HD:Hid (∀ g,g∈G->g∉F'/\blk A'≠some g):=fun g hg=>⟨fun h=>by have:=hox'.lt g h;have:=(HG.out.2 g hg).1;omega,fun h=>by have:=(hox'.aj g h).2;have:=(HG.out.2 g hg).1;omega⟩
  have HBW:Hid (Below w.heap.size w w4):=hob.out.trans (hb4.mono hwr);clear hox hox' hb4 hG hob
  go_wp2_with (at_builtin;refine wpList_append_lies _ rfl _ _ 23 rfl w.heap.size 99 i0 (.agg #[.int .i64 0,.slice none 0 0]) 2 32 underlying23 hi hz0 hz1 hz2 rfl (by decide) (.slice A' j c') j _ rfl (World.ownsRow.alloc HOX.out.1 _) ⟨w4.heap.size,0,none⟩ 1 1 [.int .i64 x.1,.slice Ba x.2.length da] rfl rfl ?c1 ?c2 ?c3 ?c4 ?c5 ?c6 (w4.heap.size+1) ?c7 ?_)
  case c1 =>
   exact dz w4 _ _
  case c2=>intro u hu;simp at hu;rcases hu with rfl|rfl <;> rfl
  case c3=>omega
  case c4=>unfold maxLen;omega
  case c5=>omega
  case c6=>simp;omega
  case c7=>simp
  intro g cap5 w5 hown hgrow hat hlt5;obtain⟨k1,k2,k3⟩:=OX.push HOX.out HQ.out (HG.out.mono hwr) HD.out HBW.out Ql (by omega) hown hgrow hat
  rw[<-aW HXJ.out] at k1;have K1:Hid (∃ css F',OX (kE smE) w5 w.heap.size 99 (some ⟨g,0,none⟩) (j+1) cap5 css (xs.take (j+1)) F'):=⟨_,_,k1⟩;have K2:=Qh k2;clear k1 k2 k3 hown hgrow hat HOX HQ HG HD HBW HB4;go_wp2
  go_roundw
  case rel=>exact⟨j+1,cap5,_,by omega,by go_num,rfl,K1,K2⟩
  case measure=>simp[intOf];omega
 ·obtain rfl:j=n:=by omega
  go_wp2;refine bodyPost_ret (v:= .slice A' j c') (by simp[results,results85,go_sem]) rfl ?_
  obtain⟨css,F',hox'⟩:=hox.out;rw[List.take_of_length_le (by have:=HLN.out;omega)] at hox'
  exact jV.uk hox' hob.out
theorem lN (A:Option Addr) (n cap:Nat) (xs:List (Int×List Mx)) (F:List Nat) (w:World) (hx:RI (kE mxE) w A n cap xs F) (bn:n<=1048576) (bs:∀ x,x∈xs->(kS mS) x) :
  Calls prog 135 #[.slice A n cap] w (jV (kE mxE) xs w):=by
 obtain⟨i0,hi,hz0,hz1,hz2⟩:=info_parts we;have HLN:=Qh hx.1;have HX:=Qh hx;have HS:=Qh bs;clear hx bs;have H0:Hid (∃ css F',OX (kE mxE) (w.alloc (.cells #[] 80)) w.heap.size 80 (some ⟨w.heap.size,0,none⟩) 0 0 css (xs.take 0) F'):=⟨_,_,OX.kG w Ql _⟩;have B0:Hid (Below w.heap.size w (w.alloc (.cells #[] 80))):=Qb.alloc Ql _
 go_enter func135,ntmps135
 go_wp2
 go_loopw [3,4] (fun v i wr=>∃ (j c':Nat) (A':Option Addr),j<=n/\i= .int .i64 j/\v= .slice A' j c'/\Hid (∃ css F',OX (kE mxE) wr w.heap.size 80 A' j c' css (xs.take j) F')/\Hid (Below w.heap.size w wr)) (fun _ i _=>n-(intOf i).toNat)
 case atStart=>exact⟨0,0,_,Nat.zero_le _,rfl,rfl,H0,B0⟩
 case round =>
 obtain⟨j,c',A',hj,rfl,rfl,hox,hob⟩:=hrel
 by_cases hlt:j<n
 ·obtain⟨x,hxj,hmem⟩:=aH (xs:=xs) (j:=j) (by have:=HLN.out;omega)
  have HXJ:=Qh hxj;have hsx:=HS.out x hmem;have hwr:w.heap.size<=wr.heap.size:=hob.out.size;obtain⟨b,off,cs,F1,rfl,hbl,hc,_,hP⟩:=(HX.out.below hob.out).cells hxj 2 rfl;have HP:=Qh hP;obtain⟨Aa,ca,rfl,hm1⟩:=hP;have d0:wr.cell? ⟨b,off+j*2,none⟩=some (.int .i64 x.1):=hc 0 (by omega)
  have d1:wr.cell? ⟨b,off+j*2+1,none⟩=some (.slice Aa x.2.length ca):=hc 1 (by omega)
  have i0':(0:Int)<=(j:Int):=by omega
  have i1:(j:Int)<(n:Int):=by omega
  clear hc hxj hmem
  go_wp2_with fail
  refine(qD wr _ x _ HP.out hsx).mono ?_;rintro e w4 ⟨ds,G,rfl,hQ,hG,hb4⟩;have HQ:=Qh hQ;obtain⟨Ba,da,rfl,hm1⟩:=hQ;have HG:=Qh hG;have HB4:=Qh hb4;have h4:wr.heap.size<=w4.heap.size:=hb4.size;obtain⟨css,F',hox'⟩:=hox.out;have HOX:=Qh (hox'.below hb4);have HD:Hid (∀ g,g∈G->g∉F'/\blk A'≠some g):=fun g hg=>⟨fun h=>by have:=hox'.lt g h;have:=(HG.out.2 g hg).1;omega,fun h=>by have:=(hox'.aj g h).2;have:=(HG.out.2 g hg).1;omega⟩
  have HBW:Hid (Below w.heap.size w w4):=hob.out.trans (hb4.mono hwr);clear hox hox' hb4 hG hob
  go_wp2_with (at_builtin;refine wpList_append_lies _ rfl _ _ 32 rfl w.heap.size 80 i0 (.agg #[.int .i64 0,.slice none 0 0]) 2 32 underlying32 hi hz0 hz1 hz2 rfl (by decide) (.slice A' j c') j _ rfl (World.ownsRow.alloc HOX.out.1 _) ⟨w4.heap.size,0,none⟩ 1 1 [.int .i64 x.1,.slice Ba x.2.length da] rfl rfl ?c1 ?c2 ?c3 ?c4 ?c5 ?c6 (w4.heap.size+1) ?c7 ?_)
  case c1 =>
   exact dz w4 _ _
  case c2=>intro u hu;simp at hu;rcases hu with rfl|rfl <;> rfl
  case c3=>omega
  case c4=>unfold maxLen;omega
  case c5=>omega
  case c6=>simp;omega
  case c7=>simp
  intro g cap5 w5 hown hgrow hat hlt5;obtain⟨k1,k2,k3⟩:=OX.push HOX.out HQ.out (HG.out.mono hwr) HD.out HBW.out Ql (by omega) hown hgrow hat
  rw[<-aW HXJ.out] at k1;have K1:Hid (∃ css F',OX (kE mxE) w5 w.heap.size 80 (some ⟨g,0,none⟩) (j+1) cap5 css (xs.take (j+1)) F'):=⟨_,_,k1⟩;have K2:=Qh k2;clear k1 k2 k3 hown hgrow hat HOX HQ HG HD HBW HB4;go_wp2
  go_roundw
  case rel=>exact⟨j+1,cap5,_,by omega,by go_num,rfl,K1,K2⟩
  case measure=>simp[intOf];omega
 ·obtain rfl:j=n:=by omega
  go_wp2;refine bodyPost_ret (v:= .slice A' j c') (by simp[results,results135,go_sem]) rfl ?_
  obtain⟨css,F',hox'⟩:=hox.out;rw[List.take_of_length_le (by have:=HLN.out;omega)] at hox'
  exact jV.uk hox' hob.out
section
def aq (p:Mx×Mx):Mx:=aE aJ p.1 p.2
def df (l:Int×List (Mx×Mx)):Int×List Mx:=(l.1,l.2.map aq)
def bu (net:List (Int×List (Mx×Mx))):Bool:=decide (net.length<=4) && net.all fun l=>aL l.1 (l.2.map aq)
def bh (net:List (Int×List (Mx×Mx))):List (Int×List Mx):=if bu net=true then net.map df else []
theorem pq (p:Mx×Mx):mS (aq p):=by
 unfold mS aq
 cases h:az p.1 p.2
 ·rw[ib h];simp[Mx.z]
 ·rw[fi h];have:=(bt h).2.2;simp only[aD]
  omega
theorem jJ {ps:List (Mx×Mx)}:∀ m,m∈ps.map aq->mS m:=fun m hm=>by
 obtain⟨p,_,rfl⟩:=List.mem_map.1 hm
 exact pq p
theorem wH {net:List (Int×List (Mx×Mx))} {k:Nat} {l:Int×List (Mx×Mx)} (hk:net[k]?=some l) (h:aL l.1 (l.2.map aq)=false):bu net=false:=by
 unfold bu;have:(net.all fun l=>aL l.1 (l.2.map aq))=false:=List.all_eq_false.2 ⟨l,List.mem_of_getElem? hk,by rw[h];decide⟩
 rw[this,Bool.and_false]
theorem Eo {net:List (Int×List (Mx×Mx))} (h:4<net.length):bu net=false:=by
 unfold bu;rw[decide_eq_false (by omega),Bool.false_and]
theorem uj {net:List (Int×List (Mx×Mx))} (hl:net.length<=4) (h:∀ k l,k<net.length->net[k]?=some l->aL l.1 (l.2.map aq)=true):bu net=true:=by
 unfold bu;rw[decide_eq_true hl,Bool.true_and];refine List.all_eq_true.2 fun l hm=>?_
 obtain⟨k,hk⟩:=List.getElem?_of_mem hm
 exact h k l (List.getElem?_eq_some_iff.1 hk).1 hk
theorem rL {net:List (Int×List (Mx×Mx))} (h:bu net=false):bh net=[]:=by unfold bh;rw[h];rfl
theorem eL {net:List (Int×List (Mx×Mx))} (h:bu net=true):bh net=net.map df:=by unfold bh;rw[h];rfl
theorem GI {α β:Type} {f:α->β} {xs:List α} {j:Nat} {x:α} (h:xs[j]?=some x):(xs.map f)[j]?=some (f x):=by rw[List.getElem?_map,h];rfl
def JN (net:List (Int×List (Mx×Mx))) (w:World) (e:Ending) (w':World):Prop:=∃ A n c F,e= .returned (.tuple #[.slice A n c,.bool (bu net)])/\RI (kE mxE) w' A n c (bh net) F/\Fr w' w.heap.size F/\Below w.heap.size w w'
theorem JN.no {net:List (Int×List (Mx×Mx))} {w w':World} {A:Option Addr} (h:bu net=false) (hb:Below w.heap.size w w'):JN net w (.returned (.tuple #[.slice A 0 0,.bool (bu net)])) w' :=
 ⟨A,0,0,[],rfl,by rw[rL h];exact RI.nil w' A (by unfold maxLen;omega),Fr.nil _ _,hb⟩
def JI (wo:World) (kd:Int) (ps:List (Mx×Mx)) (wi:World) (j:Nat) (A:Option Addr) (c:Nat):Prop :=
 Blk wi wo.heap.size 80 #[.int .i64 kd,.slice A j c]/\(∃ css F,OX mxE wi (wo.heap.size+1) 37 A j c css ((ps.map aq).take j) F)/\Below wo.heap.size wo wi
def JA (wo:World) (kd:Int) (ps:List (Mx×Mx)) (wi:World) (j:Nat) (A:Option Addr) (c g cap:Nat):Prop :=
 Blk wi wo.heap.size 80 #[.int .i64 kd,.slice A j c]/\(∃ css F,OX mxE wi (wo.heap.size+1) 37 (some ⟨g,0,none⟩) (j+1) cap css ((ps.map aq).take (j+1)) F)/\Below wo.heap.size wo wi
section
variable {wo wi wJ w1:World} {kd:Int} {ps:List (Mx×Mx)} {j c g cap cp:Nat} {A Ap:Option Addr} {p:Mx×Mx} {o:Obj} {css:List (List Value)} {F:List Nat}
theorem JI.start (wo:World) (kd:Int) (ps:List (Mx×Mx)):JI wo kd ps (wo.alloc (.cells #[.int .i64 kd,.slice none 0 0] 80)) 0 none 0 :=
 ⟨Blk.new _ _ _,⟨[],[],OX.nil _ _ _⟩,Qb.alloc Ql _⟩
theorem JI.below (h:JI wo kd ps wi j A c) (hb:Below wi.heap.size wi wJ):JI wo kd ps wJ j A c:=by
 obtain⟨h1,⟨css,F,h2⟩,h3⟩:=h
 exact⟨h1.aa hb,⟨css,F,h2.below hb⟩,h3.trans (hb.mono h3.size)⟩
theorem JI.app (h1:Blk wi wo.heap.size 80 #[.int .i64 kd,.slice A j c]) (hox:OX mxE wi (wo.heap.size+1) 37 A j c css ((ps.map aq).take j) F) (h3:Below wo.heap.size wo wi) (hb:Below wi.heap.size wi wJ)
  (hp:ps[j]?=some p) (hos:OS wJ wi.heap.size Ap (aq p).v.length cp (aq p).v)
  (hown:w1.ownsRow (wo.heap.size+1) 37 mxE.s (.slice (some ⟨g,0,none⟩) (j+1) cap) (j+1) (css.flatten++[.int .i64 (aq p).r,.int .i64 (aq p).c,.slice Ap (aq p).v.length cp]))
  (hg:(wJ.alloc o).grownBy w1 (Value.slice A j c).ownBlock) (hat:(Value.slice A j c).ownBlock=some g\/g=wJ.heap.size+1):JA wo kd ps w1 j A c g cap:=by
 have hwi:wo.heap.size<wi.heap.size:=h1.lt;have hsz:=hb.size;have hf:Fr wJ (wo.heap.size+1) (fpI Ap (aq p).v.length):=(ek hos).mono (by omega)
 have hd:∀ g',g'∈fpI Ap (aq p).v.length->g'∉F/\blk A≠some g':=fun g' hg'=>by
  have:=((ek hos).2 g' hg').1
  exact⟨fun h=>by have:=hox.lt g' h;omega,fun h=>by have:=(hox.aj g' h).2;omega⟩
 have h3':Below wo.heap.size wo wJ:=h3.trans (hb.mono (by omega))
 obtain⟨k1,k2,k3⟩:=OX.push (hox.below hb) (x:=aq p) ⟨Ap,cp,rfl,MF.aB hos⟩ hf hd h3' (by omega) (by omega) hown hg hat
 rw[<-aW (GI hp)] at k1
 exact⟨(h1.aa hb).bR k3 (hox.1.gu h1 (by decide)),⟨_,_,k1⟩,k2⟩
theorem JA.next (h:JA wo kd ps wi j A c g cap):JI wo kd ps (wi.setCell ⟨wo.heap.size,1,none⟩ (.slice (some ⟨g,0,none⟩) (j+1) cap)) (j+1) (some ⟨g,0,none⟩) cap:=by
 obtain⟨h1,⟨css,F,h2⟩,h3⟩:=h
 exact⟨h1.dc 1 _,⟨css,F,h2.lX (by dsimp only;omega) _⟩,h3.setCell (by dsimp only;omega) _⟩
end
end
def jX (a b:Mx×Mx):Mx×Mx:=(aE aJ a.1 b.1,aE aJ a.2 b.2)
def jW (p:Mx×Mx) (w:World) (e:Ending) (w':World):Prop:=∃ (A B:Option Addr) (c d:Nat),e= .returned (SMV p.1.r p.1.c A p.1.v.length c p.2.r p.2.c B p.2.v.length d)/\OS w' w.heap.size A p.1.v.length c p.1.v/\OS w' w.heap.size B p.2.v.length d p.2.v/\Below w.heap.size w w'
theorem py {a b:Mx} (h:az a b=true):bS a b=true:=by
 obtain⟨_,_,hr,hc⟩:=i_ h;unfold bS;rw[hr,hc];simp
theorem ee {a b:Mx} (h:az a b=true):1<=b.v.length/\b.v.length<=25:=by
 obtain⟨h1,h2,h3⟩:=bt h
 omega
theorem dy {m:Mx} (h:mvB m=true):1<=m.v.length/\m.v.length<=25:=by
 obtain⟨h1,h2,h3,_⟩:=cZ h;have:=e6 h2 h3
 omega
theorem bP {m:Mx} (h:mvB m=true) {A:Option Addr} {c:Nat} (w:World) (hx:SI w A m.v.length m.v):Calls prog 57 #[MV m.r m.c A m.v.length c] w fun e w'=>e= .returned (.bool true)/\Below w.heap.size w w':=by
 have:=aw m.r m.c m.v A _ c w hx (by have:=(dy h).2;omega)
 rwa [show mvB ⟨m.r,m.c,m.v⟩=true from h] at this
theorem B9 {a b:Mx} (h:bS a b=true) {A B:Option Addr} {n m p q:Nat} (w:World):Calls prog 195 #[MV a.r a.c A n p,MV b.r b.c B m q] w fun e w'=>e= .returned (.bool true)/\Below w.heap.size w w':=by
 have:=eY a.r a.c b.r b.c A B n p m q w a.v b.v
 rwa [show bS ⟨a.r,a.c,a.v⟩ ⟨b.r,b.c,b.v⟩=true from h] at this
def gx (a b:Mx) (ac bc r c:Nat):Nat->Int
 | 0=>0
 | k+1=>gx a b ac bc r c k+a.v.getD (r*ac+k) 0*b.v.getD (k*bc+c) 0
def BR (a b:Mx) (i:Nat):Int:=gx a b a.c.toNat b.c.toNat (i/b.c.toNat) (i%b.c.toNat) a.c.toNat%4096
def iz (a b:Mx):Bool:=mvB a && (mvB b && decide (a.c=b.r))
def mulM (a b:Mx):Mx:=if iz a b=true then ⟨a.r,b.c,fl (BR a b) (a.r.toNat*b.c.toNat)⟩ else Mx.z
def zF (m:Mx) (i:Nat):Int:=m.v.getD (i%m.r.toNat*m.c.toNat+i/m.r.toNat) 0
def ir (m:Mx):Mx:=if mvB m=true then ⟨m.c,m.r,fl (zF m) (m.c.toNat*m.r.toNat)⟩ else Mx.z
def ew (m:Mx) (mc r:Nat):Nat->Int
 | 0=>0
 | k+1=>ew m mc r k+m.v.getD (r*mc+k) 0
def il (m:Mx):Mx:=if mvB m=true then ⟨m.r,1,fl (fun r=>ew m m.c.toNat r m.c.toNat%4096) m.r.toNat⟩ else Mx.z
def xw (m:Mx) (cs:Int) (i:Nat):Int:=m.v.getD (i/cs.toNat) 0
def rj (m:Mx) (cs:Int):Mx:=⟨m.r,cs,fl (xw m cs) (m.r.toNat*cs.toNat)⟩
theorem ta {a b:Mx} (h:iz a b=true):mulM a b=⟨a.r,b.c,fl (BR a b) (a.r.toNat*b.c.toNat)⟩:=if_pos h
theorem qN {m:Mx} (h:mvB m=true):ir m=⟨m.c,m.r,fl (zF m) (m.c.toNat*m.r.toNat)⟩:=if_pos h
theorem qu {m:Mx} (h:mvB m=true):il m=⟨m.r,1,fl (fun r=>ew m m.c.toNat r m.c.toNat%4096) m.r.toNat⟩:=if_pos h
theorem dE {m:Mx} (h:mvB m=true) (i:Nat):0<=m.v.getD i 0/\m.v.getD i 0<=4095:=by
 obtain⟨_,_,_,hv⟩:=cZ h;rw[List.getD_eq_getElem?_getD];rcases Nat.lt_or_ge i m.v.length with hl|hl
 ·rw[List.getElem?_eq_getElem hl];have:=List.all_eq_true.1 hv m.v[i] (List.getElem_mem hl)
  exact kJ this
 ·rw[List.getElem?_eq_none hl]
  simp
theorem jD {a b:Mx} (ha:mvB a=true) (hb:mvB b=true) (ac bc r c:Nat):∀ k,0<=gx a b ac bc r c k/\gx a b ac bc r c k<=k*16769025
 | 0=>by simp[gx]
 | k+1=>by
  obtain⟨h1,h2⟩:=jD ha hb ac bc r c k;obtain⟨a1,a2⟩:=dE ha (r*ac+k);obtain⟨b1,b2⟩:=dE hb (k*bc+c);have h3:a.v.getD (r*ac+k) 0*b.v.getD (k*bc+c) 0<=4095*4095:=Int.mul_le_mul a2 b2 b1 (by omega)
  have h4:=Int.mul_nonneg a1 b1;unfold gx;refine⟨by omega,?_⟩
  push_cast
  omega
theorem n9 {m:Mx} (h:mvB m=true) (mc r:Nat):∀ k,0<=ew m mc r k/\ew m mc r k<=k*4095
 | 0=>by simp[ew]
 | k+1=>by
  obtain⟨h1,h2⟩:=n9 h mc r k;obtain⟨a1,a2⟩:=dE h (r*mc+k);unfold ew;refine⟨by omega,?_⟩
  push_cast
  omega
section
def OM (u:World) (ro co:Int) (f:Nat->Int) (wr:World) (j:Nat) (A:Option Addr) (c:Nat):Prop :=
 Blk wr u.heap.size 37 #[.int .i64 ro,.int .i64 co,.slice A j c]/\OS wr (u.heap.size+1) A j c (fl f j)/\Below u.heap.size u wr
def OMA (u:World) (ro co:Int) (f:Nat->Int) (wr:World) (j:Nat) (A:Option Addr) (c g cap:Nat):Prop :=
 Blk wr u.heap.size 37 #[.int .i64 ro,.int .i64 co,.slice A j c]/\OS wr (u.heap.size+1) (some ⟨g,0,none⟩) (j+1) cap (fl f (j+1))/\Below u.heap.size u wr
section
variable {u wr w1:World} {ro co:Int} {f:Nat->Int} {j c g cap:Nat} {A:Option Addr} {o:Obj}
theorem OM.start (u:World) (ro co:Int) (f:Nat->Int):OM u ro co f (u.alloc (.cells #[.int .i64 ro,.int .i64 co,.slice none 0 0] 37)) 0 none 0 :=
 ⟨Blk.new _ _ _,OS.nil _ _,Qb.alloc Ql _⟩
theorem OM.below (h:OM u ro co f wr j A c) (hb:Below wr.heap.size wr w1):OM u ro co f w1 j A c:=⟨h.1.aa hb,h.2.1.below hb,h.2.2.trans (hb.mono h.2.2.size)⟩
theorem OM.drewN (h:OM u ro co f wr j A c) (n:Nat):OM u ro co f (wr.drewN n) j A c:=⟨h.1.drewN n,OS.drewN h.2.1 n,below_drewN h.2.2 n⟩
theorem OM.app (h:OM u ro co f wr j A c)
  (hown:w1.ownsRow (u.heap.size+1) 3 1 (.slice (some ⟨g,0,none⟩) (j+1) cap) (j+1) ((fl f j).map (Value.int .i64)++[.int .i64 (f j)])) (hg:(wr.alloc o).grownBy w1 (Value.slice A j c).ownBlock)
  (hat:(Value.slice A j c).ownBlock=some g\/g=wr.heap.size+1):OMA u ro co f w1 j A c g cap:=by
 obtain⟨h1,h2,h3⟩:=h;have hlt:=h1.lt;obtain⟨k1,k2,k3,_⟩:=fS (wr:=wr) (h2.mono (base':=u.heap.size) (by omega)) h3 h3.size (by
  obtain⟨e1,e2⟩:=hown;refine⟨e1,?_⟩;rcases e2 with e2|⟨g',c',cur,e,hb,rest⟩
  ·exact .inl e2
  ·exact .inr ⟨g',c',cur,e,by omega,rest⟩) hg hat
 refine⟨h1.bR k3 (bf h2 h1 (by decide)),?_,k2⟩
 unfold OS;rw[dd,List.map_append]
 exact hown
theorem OMA.next (h:OMA u ro co f w1 j A c g cap):OM u ro co f (w1.setCell ⟨u.heap.size,2,none⟩ (.slice (some ⟨g,0,none⟩) (j+1) cap)) (j+1) (some ⟨g,0,none⟩) cap :=
 ⟨h.1.dc 2 _,h.2.1.dk h.1 (by decide) _,h.2.2.setCell (by dsimp only;omega) _⟩
end
end
end Go.Proofs.YtjciicheoghcdaaGreatDoor

/- Part of the proof that the law FnServiceLine of the given program returns true for every input. -/
import Derived.BigRegion
import Derived.Deep.AppendLies
import Derived.Deep.DeepCutAuto
import Derived.Deep.DrawnRows
import Derived.Deep.RegionHeld3
import Derived.Deep.RegionLaw
import Derived.Test.YtjciicheoghcdaaGreatDoorXe
import Derived.Test.YtjciicheoghcdaaGreatDoorXf
import Derived.Test.YtjciicheoghcdaaGreatDoorXg
namespace Go.Proofs.YtjciicheoghcdaaGreatDoor
open Go.RowKit
set_option linter.unusedSimpArgs false
set_option linter.unusedVariables false
set_option maxRecDepth 20000
set_option maxHeartbeats 16000000
theorem jw (r1 c1 r2 c2:Int) (v1 v2:List Int) (A1 A2:Option Addr) (n1 p1 n2 p2:Nat) (w:World) (hx0:SI w A1 n1 v1) (hy0:SI w A2 n2 v2) (bn:n1<=1048576) (bm:n2<=1048576) :
  Calls Tryz.prog 99 #[MV r1 c1 A1 n1 p1,MV r2 c2 A2 n2 p2] w (bD (aE aJ ⟨r1,c1,v1⟩ ⟨r2,c2,v2⟩) w):=by
 obtain rfl:v1.length=n1:=hx0.1;obtain rfl:v2.length=n2:=hy0.1;have HX:=Lib.hid hx0;have HY:=Lib.hid hy0;clear hx0 hy0
 cases hlk:az ⟨r1,c1,v1⟩ ⟨r2,c2,v2⟩
 ·have HLK:=Lib.hid hlk;clear hlk;refine zE ?_;intro u1 H;refine zG (aQ r1 c1 v1 A1 _ p1 u1 (SI.below HX.out H.O) (by omega)) ?_
  rintro e w2 ⟨Aa,ca,rfl,hos,hb⟩;replace H:=H.os hb hos
  dsimp only at H ⊢
  refine zN ?_;clear H;intro u3 H;refine zG (aQ r2 c2 v2 A2 _ p2 u3 (SI.below HY.out H.O) (by omega)) ?_
  rintro e w4 ⟨Ab,cb,rfl,hos,hb⟩;replace H:=H.os hb hos
  dsimp only at H ⊢
  refine zN ?_;clear H;intro u5 H;refine zB ((show Calls Tryz.prog 134 #[_,_] u5 (fun e w'=>e= .returned (.bool false)/\Below u5.heap.size u5 w') from HLK.out ▸ eD r1 c1 r2 c2 v1 v2 Aa Ab _ ca _ cb u5 (OS.si (H.o 1)) (OS.si (H.o 0)) (by omega) (by omega))) ?_;clear H;intro w6 u6 H
  refine zS_ ?_;clear H;intro u7 H
  exact (by rw [ib HLK.out];exact ⟨none,0,rfl,OS.nil _ _,H.O⟩)
 have HLK:=Lib.hid hlk;have hll:=bt hlk
 dsimp only at hll
 obtain ⟨hl1,hl2,hl3⟩:=hll;have HL1:=Lib.hid hl1;clear hl1 hlk;refine zE ?_;intro u1 H;refine zG (aQ r1 c1 v1 A1 _ p1 u1 (SI.below HX.out H.O) (by omega)) ?_
 rintro e w2 ⟨Aa,ca,rfl,hos,hb⟩;replace H:=H.os hb hos
 dsimp only at H ⊢
 refine zN ?_;clear H;intro u3 H;refine zG (aQ r2 c2 v2 A2 _ p2 u3 (SI.below HY.out H.O) (by omega)) ?_
 rintro e w4 ⟨Ab,cb,rfl,hos,hb⟩;replace H:=H.os hb hos
 dsimp only at H ⊢
 refine zN ?_;clear H;intro u5 H;refine zB ((show Calls Tryz.prog 134 #[_,_] u5 (fun e w'=>e= .returned (.bool true)/\Below u5.heap.size u5 w') from HLK.out ▸ eD r1 c1 r2 c2 v1 v2 Aa Ab _ ca _ cb u5 (OS.si (H.o 1)) (OS.si (H.o 0)) (by omega) (by omega))) ?_;clear H;intro w6 u6 H
 replace H:=H.nil;obtain ⟨gT,hgT⟩:∃ g,g=w6.heap.size:=⟨_,rfl⟩;rw [<- hgT] at H ⊢;clear hgT;rw [<- HL1.out] at H ⊢;obtain ⟨ga,rfl,_,_⟩:=(H.o 3).pos (by omega)
 obtain ⟨gb,rfl,_,_⟩:=(H.o 2).pos (by omega)
 intros
 go_loopw [6] (fun i wr=>∃ (j c':Nat) (A':Option Addr),j<=v1.length/\i= .int .i64 j/\Hid (Hq w [qO w.heap.size A' j c' (fl (pv aJ ⟨r1,c1,v1⟩ ⟨r2,c2,v2⟩) j),qB gT 37 [.int .i64 r1,.int .i64 c1,.slice A' j c'],qO w.heap.size (some ⟨gb,0,none⟩) v1.length cb v2,qO w.heap.size (some ⟨ga,0,none⟩) v1.length ca v1,qB (w.heap.size+2) 37 [.int .i64 0,.int .i64 0,.slice none 0 0],qB (w.heap.size+1) 37 [.int .i64 r2,.int .i64 c2,.slice (some ⟨gb,0,none⟩) v1.length cb],qB w.heap.size 37 [.int .i64 r1,.int .i64 c1,.slice (some ⟨ga,0,none⟩) v1.length ca]] wr)) (fun i _=>v1.length-(intOf i).toNat)
 case atStart=>exact ⟨0,0,none,Nat.zero_le _,rfl,H⟩
 case round =>
 clear H;obtain ⟨j,c',A',hj,rfl,H⟩:=hrel;have H:=H.out
 by_cases hlt:j<v1.length
 ·have i0:(0:Int)<=(j:Int):=by omega
  have i1:(j:Int)<(v1.length:Int):=by omega
  obtain ⟨x,hx⟩:∃ x,x=v1.getD j 0:=⟨_,rfl⟩;obtain ⟨y,hy⟩:∃ y,y=v2.getD j 0:=⟨_,rfl⟩;have HS:Hid (fl (pv aJ ⟨r1,c1,v1⟩ ⟨r2,c2,v2⟩) j++[aJ x y]=fl (pv aJ ⟨r1,c1,v1⟩ ⟨r2,c2,v2⟩) (j+1)):=by rw [hx,hy];exact (dd (pv aJ ⟨r1,c1,v1⟩ ⟨r2,c2,v2⟩) j).symm
  have HXX:=Lib.hid hx;have HYY:=Lib.hid hy;clear hx hy;refine zC ?_;intro C;intros;go_upto_region 9 with fail;refine zM ?_;clear H C;intro u21 H;have zga:=(a7 (H.o 3) hlt).1;have zgb:=(a7 (H.o 2) hlt).1;refine zXZ (tg [gT,(w.heap.size+1),w.heap.size,ga,gb]) ?_;clear H;intro S w22 hne H;refine zD ((And.intro (H.c 1) (And.intro (H.c 5) (H.c 6)))) ?_;intro G;have rga:=(a7 (H.o 3) hlt).2.1;rw [<- HXX.out] at rga;replace rga:=H.row rga;have rgb:=(a7 (H.o 2) hlt).2.1;rw [<- HYY.out] at rgb;replace rgb:=H.row rgb;refine yP (pG x y w22) ?_;refine yM ?_;clear H;intro w23 H;replace H:=H.r 1;refine yA (dQ (H.k 1)) True.intro ?_;clear H;intro C1 k1 w24 H;intros;refine zCr ?_;intro C;intros
  repeat (first | (refine lc' ?_;intro K hK;go_big_quiet_op;go_big_quiet_on) | refine lk' ?_)
  refine aV rfl (by rfl) (by rfl) (fun K hK=> ?_)
  unfold Oper.gives
  go_simp
  refine hK _ _ ?_;replace H:=H.H;refine aI ?_;clear C G;replace H:=((((((((H.d 1).r 6).r 6).r 6).r 6).r 6).r 6).r 6);refine zC ?_;intro C;intros;go_wp2
  go_roundw
  case rel=>exact ⟨j+1,k1,C1,by omega,by go_num,(by rw [HS.out] at H;exact (Lib.hid hq))⟩
  case measure=>simp [intOf];omega
 ·obtain rfl:j=v1.length:=by omega
  refine zS_ ?_;clear H;intro u41 H
  exact (by rw [fi HLK.out];exact ⟨A',c',by dsimp only;rw [aD],by dsimp only;rw [aD];exact (H.o 0),H.O⟩)
theorem eT (r1 c1 r2 c2:Int) (v1 v2:List Int) (A1 A2:Option Addr) (n1 p1 n2 p2:Nat) (w:World) (hx0:SI w A1 n1 v1) (hy0:SI w A2 n2 v2) (bn:n1<=1048576) (bm:n2<=1048576) :
  Calls Tryz.prog 104 #[MV r1 c1 A1 n1 p1,MV r2 c2 A2 n2 p2] w (bD (aE aJ ⟨r1,c1,v1⟩ ⟨r2,c2,v2⟩) w):=by
 have HX:=Lib.hid hx0;have HY:=Lib.hid hy0;clear hx0 hy0;obtain ⟨m,hm⟩:∃ m,m=aE aJ ⟨r1,c1,v1⟩ ⟨r2,c2,v2⟩:=⟨_,rfl⟩;rw [<- hm];have HC:Hid (∀ W:World,SI W A1 n1 v1->SI W A2 n2 v2->Calls Tryz.prog 145 #[MV r1 c1 A1 n1 p1,MV r2 c2 A2 n2 p2,.func (.func 146) #[] #[]] W (bD m W)):=by rw [hm];exact fun W h1 h2=>CV r1 c1 r2 c2 v1 v2 A1 A2 n1 p1 n2 p2 W h1 h2 bn bm
 clear hm;refine zE ?_;intro u1 H;refine zO (HC.out u1 (SI.below HX.out H.O) (SI.below HY.out H.O)) ?_;clear H;intro w2 A c u2 H;refine zS_ ?_;clear H;intro u3 H
 exact ⟨A,c,rfl,(H.o 0),H.O⟩
theorem j_ (r1 c1 r2 c2:Int) (v1 v2:List Int) (A1 A2:Option Addr) (n1 p1 n2 p2:Nat) (w:World) (hx0:SI w A1 n1 v1) (hy0:SI w A2 n2 v2) (bn:n1<=1048576) (bm:n2<=1048576) :
  Calls Tryz.prog 55 #[SMV r1 c1 A1 n1 p1 r2 c2 A2 n2 p2] w (bD (aE aJ ⟨r1,c1,v1⟩ ⟨r2,c2,v2⟩) w):=by
 have HX:=Lib.hid hx0;have HY:=Lib.hid hy0;clear hx0 hy0;obtain ⟨m,hm⟩:∃ m,m=aE aJ ⟨r1,c1,v1⟩ ⟨r2,c2,v2⟩:=⟨_,rfl⟩;rw [<- hm];have HC:Hid (∀ W:World,SI W A1 n1 v1->SI W A2 n2 v2->Calls Tryz.prog 104 #[MV r1 c1 A1 n1 p1,MV r2 c2 A2 n2 p2] W (bD m W)):=by rw [hm];exact fun W h1 h2=>eT r1 c1 r2 c2 v1 v2 A1 A2 n1 p1 n2 p2 W h1 h2 bn bm
 clear hm;refine zE ?_;intro u1 H;refine zO (HC.out u1 (SI.below HX.out H.O) (SI.below HY.out H.O)) ?_;clear H;intro w2 A c u2 H;refine zS_ ?_;clear H;intro u3 H
 exact ⟨A,c,rfl,(H.o 0),H.O⟩
theorem kL (r1 c1 r2 c2:Int) (v1 v2:List Int) (A1 A2:Option Addr) (n1 p1 n2 p2:Nat) (w:World) (hx0:SI w A1 n1 v1) (hy0:SI w A2 n2 v2) (bn:n1<=1048576) (bm:n2<=1048576) :
  Calls Tryz.prog 48 #[SMV r1 c1 A1 n1 p1 r2 c2 A2 n2 p2] w (bD (aE aJ ⟨r1,c1,v1⟩ ⟨r2,c2,v2⟩) w):=by
 obtain rfl:v1.length=n1:=hx0.1;obtain rfl:v2.length=n2:=hy0.1;have HX:=Lib.hid hx0;have HY:=Lib.hid hy0;clear hx0 hy0;obtain ⟨m,hm⟩:∃ m,m=aE aJ ⟨r1,c1,v1⟩ ⟨r2,c2,v2⟩:=⟨_,rfl⟩;rw [<- hm];have HC:Hid (∀ (Aa Ab:Option Addr) (ca cb:Nat) (W:World),SI W Aa v1.length v1->SI W Ab v2.length v2->Calls Tryz.prog 99 #[MV r1 c1 Aa v1.length ca,MV r2 c2 Ab v2.length cb] W (bD m W)):=by rw [hm];exact fun Aa Ab ca cb W h1 h2=>jw r1 c1 r2 c2 v1 v2 Aa Ab _ ca _ cb W h1 h2 bn bm
 clear hm;refine zE ?_;intro u1 H;refine zG (dR r1 c1 r2 c2 v1 v2 A1 A2 _ p1 _ p2 u1 (SI.below HX.out H.O) (SI.below HY.out H.O) bn bm) ?_;rintro e w2 ⟨Aa,Ab,ca,cb,rfl,hosa,hosb,-,hb⟩;replace H:=H.oo hb hosa hosb
 dsimp only at H ⊢
 refine zN ?_;clear H;intro u3 H;refine zO (HC.out Aa Ab ca cb u3 (OS.si (Ow.P1 (H.p 0))) (OS.si (Ow.P2 (H.p 0)))) ?_;clear H;intro w4 A c u4 H;refine zS_ ?_;clear H;intro u5 H
 exact ⟨A,c,rfl,(H.o 0),H.O⟩
theorem oQ (r1 c1 r2 c2:Int) (v1 v2:List Int) (A1 A2:Option Addr) (n1 p1 n2 p2:Nat) (w:World) (hx0:SI w A1 n1 v1) (hy0:SI w A2 n2 v2) (bn:n1<=1048576) (bm:n2<=1048576) :
  Calls Tryz.prog 168 #[MV r1 c1 A1 n1 p1,MV r2 c2 A2 n2 p2] w (bD (aE bC ⟨r1,c1,v1⟩ ⟨r2,c2,v2⟩) w):=by
 have HX:=Lib.hid hx0;have HY:=Lib.hid hy0;clear hx0 hy0;obtain ⟨m,hm⟩:∃ m,m=aE bC ⟨r1,c1,v1⟩ ⟨r2,c2,v2⟩:=⟨_,rfl⟩;rw [<- hm];have HC:Hid (∀ W:World,SI W A1 n1 v1->SI W A2 n2 v2->Calls Tryz.prog 145 #[MV r1 c1 A1 n1 p1,MV r2 c2 A2 n2 p2,.func (.func 209) #[] #[]] W (bD m W)):=by rw [hm];exact fun W h1 h2=>DG r1 c1 r2 c2 v1 v2 A1 A2 n1 p1 n2 p2 W h1 h2 bn bm
 clear hm;refine zE ?_;intro u1 H;refine zO (HC.out u1 (SI.below HX.out H.O) (SI.below HY.out H.O)) ?_;clear H;intro w2 A c u2 H;refine zS_ ?_;clear H;intro u3 H
 exact ⟨A,c,rfl,(H.o 0),H.O⟩
def MAt (w:World) (b o:Nat) (m:Mx):Prop:=∃ (A:Option Addr) (c:Nat),w.cell? ⟨b,o,none⟩=some (.int .i64 m.r)/\w.cell? ⟨b,o+1,none⟩=some (.int .i64 m.c)/\w.cell? ⟨b,o+2,none⟩=some (.slice A m.v.length c)/\SI w A m.v.length m.v/\m.v.length<=1048576/\m.v.length<=c/\c<=maxLen
theorem MAt.below {w w':World} {b o:Nat} {m:Mx} (h:MAt w b o m) (hb:Below w.heap.size w w') (hl:b<w.heap.size):MAt w' b o m:=by
 obtain ⟨A,c,h1,h2,h3,h4,h5⟩:=h
 exact ⟨A,c,(hb.cell (p:=⟨b,o,none⟩) hl).trans h1,(hb.cell (p:=⟨b,o+1,none⟩) hl).trans h2,(hb.cell (p:=⟨b,o+2,none⟩) hl).trans h3,h4.below hb,h5⟩
def MI (w:World) (A:Option Addr) (n:Nat) (ms:List Mx):Prop:=ms.length=n/\(0<n->∃ b off,A=some ⟨b,off,none⟩/\b<w.heap.size/\∀ k,k<n->MAt w b (off+k*3) (ms.getD k Mx.z))
theorem MI.below {w w':World} {A:Option Addr} {n:Nat} {ms:List Mx} (h:MI w A n ms) (hb:Below w.heap.size w w'):MI w' A n ms:=by
 refine ⟨h.1,fun hn=> ?_⟩
 obtain ⟨b,off,e,hl,hk⟩:=h.2 hn
 exact ⟨b,off,e,Nat.lt_of_lt_of_le hl hb.size,fun k hk'=>(hk k hk').below hb hl⟩
theorem MI.nil (w:World) (A:Option Addr):MI w A 0 []:=⟨rfl,fun h=>absurd h (by omega)⟩
def jN (ms:List Mx):Bool:=ms.all fun m=>mvB m && (decide (m.r=m.c) && bS m (ms.getD 0 Mx.z))
def aL (k:Int) (ms:List Mx):Bool:=if k=1 then ms.length == 2 && dfB (ms.getD 0 Mx.z) (ms.getD 1 Mx.z) else if k=2 then ms.length == 0 else if k=3 then ms.length == 3 && jN ms else false
def mr (m0 m:Mx):Bool:=mvB m && (decide (m.r=m.c) && bS m m0)
theorem iW {ms:List Mx} {k:Nat} {x:Mx} (h:ms[k]?=some x):ms.getD k Mx.z=x:=by rw [List.getD_eq_getElem?_getD,h];rfl
theorem s8 {ms:List Mx} {k:Nat} {m m0:Mx} (h0:ms[0]?=some m0) (hk:ms[k]?=some m) (h:mr m0 m=false):jN ms=false:=by
 unfold jN;rw [iW h0]
 exact List.all_eq_false.2 ⟨m,List.mem_of_getElem? hk,by rw [Bool.not_eq_true];exact h⟩
theorem x_ {ms:List Mx} {m0:Mx} (h0:ms[0]?=some m0) (h:∀ k x,k<ms.length->ms[k]?=some x->mr m0 x=true):jN ms=true:=by
 unfold jN;rw [iW h0];refine List.all_eq_true.2 fun m hm=> ?_
 obtain ⟨k,hk⟩:=List.getElem?_of_mem hm
 exact h k m (List.getElem?_eq_some_iff.1 hk).1 hk
theorem ph (A:Option Addr) (n cap:Nat) (ms:List Mx) (F:List Nat) (w:World) (hx:RI mxE w A n cap ms F) (bs:∀ m,m∈ms->mS m) (hn:0<n) (bn:n<=1048576) :
  Calls Tryz.prog 148 #[.slice A n cap] w fun e w'=>e= .returned (.bool (jN ms))/\Below w.heap.size w w':=by
 have HX:=Lib.hid hx;have HLN:=Lib.hid hx.1;have HS:=Lib.hid bs;obtain ⟨m0,hm0,hme0⟩:=aH (xs:=ms) (j:=0) (by have:=hx.1;omega)
 have HX0:=Lib.hid hm0;clear hx bs hm0 hme0
 go_enter Tryz.func148,Tryz.ntmps148
 go_wp2
 go_loopw [7] (fun i wr=>∃ j:Nat,j<=n/\i= .int .i64 j/\Hid (Below w.heap.size w wr)/\Hid (∀ k x,k<j->ms[k]?=some x->mr m0 x=true)) (fun i _=>n-(intOf i).toNat)
 case atStart=>exact ⟨0,Nat.zero_le _,rfl,Below.refl _ _,fun k x hk=>absurd hk (by omega)⟩
 case round =>
 obtain ⟨j,hj,rfl,hob,hfit⟩:=hrel
 by_cases hlt:j<n
 ·obtain ⟨m,hmj,hmem⟩:=aH (xs:=ms) (j:=j) (by have:=HLN.out;omega)
  have HXJ:=Lib.hid hmj;have hb1:m.v.length<=1048576:=HS.out m hmem;obtain ⟨b,off,cs,F1,rfl,hbl,hc,_,A1,p1,rfl,hm1⟩:=(HX.out.below hob.out).cells hmj 3 rfl;obtain ⟨b',off',cs',F2,hA',_,hd,_,A0,p0,rfl,hm2⟩:=(HX.out.below hob.out).cells HX0.out 3 rfl;injection hA' with hA';injection hA' with h1 h2;subst h1 h2;have a0:wr.cell? ⟨b,off+j*3,none⟩=some (.int .i64 m.r):=hc 0 (by omega)
  have a1:wr.cell? ⟨b,off+j*3+1,none⟩=some (.int .i64 m.c):=hc 1 (by omega)
  have a2:wr.cell? ⟨b,off+j*3+2,none⟩=some (.slice A1 m.v.length p1):=hc 2 (by omega)
  have d0:wr.cell? ⟨b,off,none⟩=some (.int .i64 m0.r):=by have:=hd 0 (by omega);simpa using this
  have d1:wr.cell? ⟨b,off+1,none⟩=some (.int .i64 m0.c):=by have:=hd 1 (by omega);simpa using this
  have d2:wr.cell? ⟨b,off+2,none⟩=some (.slice A0 m0.v.length p0):=by have:=hd 2 (by omega);simpa using this
  have HS1:=Lib.hid hm1.1;have i0:(0:Int)<=(j:Int):=by omega
  have i1:(j:Int)<(n:Int):=by omega
  have i2:(0:Int)<(n:Int):=by omega
  clear hc hd hm1 hm2 hmj hmem
  cases g1:mvB m
  ·have hfv:mr m0 m=false:=by unfold mr;simp [g1]
   have HNO:Hid (jN ms=false):=s8 HX0.out HXJ.out hfv;clear hfv
   go_wp2_with fail
   obtain ⟨u1,hu1⟩:∃ u,u=(wr.alloc (.cells #[.int .i64 m.r,.int .i64 m.c,.slice A1 m.v.length p1] 37)):=⟨_,rfl⟩;rw [<- hu1];have hzu1:u1.heap.size<=wr.heap.size+1:=by rw [hu1];simp
   have hyu1:wr.heap.size+1<=u1.heap.size:=by rw [hu1];simp
   have B1_1:Blk u1 (wr.heap.size) 37 #[.int .i64 m.r,.int .i64 m.c,.slice A1 m.v.length p1]:=by rw [hu1];have h:=(Blk.new wr 37 #[.int .i64 m.r,.int .i64 m.c,.slice A1 m.v.length p1]);simpa using h
   have xb1:wr.heap.size<=wr.heap.size:=by omega
   have O1:Below wr.heap.size wr u1:=by rw [hu1];exact ((Below.refl wr.heap.size wr).alloc (by first | omega | (simp;done) | (simp;omega)) _)
   have m1:wr.heap.size<=u1.heap.size:=by omega
   clear hu1;have z1_1:wr.heap.size<u1.heap.size:=B1_1.lt;have c1_1_0:u1.cell? ⟨wr.heap.size,0,none⟩=some (.int .i64 m.r):=B1_1.cell 0;have f1_1_0:u1.frozen? ⟨wr.heap.size,0,none⟩=false:=B1_1.frozen 0;have c1_1_1:u1.cell? ⟨wr.heap.size,1,none⟩=some (.int .i64 m.c):=B1_1.cell 1;have f1_1_1:u1.frozen? ⟨wr.heap.size,1,none⟩=false:=B1_1.frozen 1;have c1_1_2:u1.cell? ⟨wr.heap.size,2,none⟩=some (.slice A1 m.v.length p1):=B1_1.cell 2;have f1_1_2:u1.frozen? ⟨wr.heap.size,2,none⟩=false:=B1_1.frozen 2;have hbu:Below wr.heap.size wr u1:=O1;have zb:b<u1.heap.size:=Nat.lt_of_lt_of_le hbl hbu.size;have e0:u1.cell? ⟨b,off,none⟩=some (.int .i64 m0.r):=(hbu.cell (p:=⟨b,off,none⟩) hbl).trans d0;have e1:u1.cell? ⟨b,off+1,none⟩=some (.int .i64 m0.c):=(hbu.cell (p:=⟨b,off+1,none⟩) hbl).trans d1;have e2:u1.cell? ⟨b,off+2,none⟩=some (.slice A0 m0.v.length p0):=(hbu.cell (p:=⟨b,off+2,none⟩) hbl).trans d2;have HV:Hid (∀ W:World,Below u1.heap.size u1 W->Calls Tryz.prog 57 #[MV m.r m.c A1 m.v.length p1] W fun e w'=>e= .returned (.bool false)/\Below W.heap.size W w'):=by
    intro W hW;have h:=aw m.r m.c m.v A1 _ p1 W ((HS1.out.below hbu).below hW) (by omega)
    have e:mvB ⟨m.r,m.c,m.v⟩=false:=g1;rw [e] at h
    exact h
   clear g1
   go_cut [28] (fun s28 wx=>s28= .bool true/\Below u1.heap.size u1 wx)
   case first =>
    first
     | go_region_law (first
      | (go_simp;go_at_call 57;refine (HV.out _ (by first | exact Below.refl _ _ | exact (Below.refl _ _).drew)).mono ?_;rintro e wa ⟨rfl,hb⟩;have hA:Below u1.heap.size u1 wa:=bp hb (by first | exact Nat.le_refl _ | simp) (by first | exact Below.refl _ _ | exact (Below.refl _ _).drew);have HA:=Lib.hid hA;have q0:=(B1_1.aa hA).cell 0;have q1:=(B1_1.aa hA).cell 1;have q2:=(B1_1.aa hA).cell 2;have qz:=(B1_1.aa hA).lt;have r0:=(hA.cell (p:=⟨b,off,none⟩) zb).trans e0;have r1:=(hA.cell (p:=⟨b,off+1,none⟩) zb).trans e1;have r2:=(hA.cell (p:=⟨b,off+2,none⟩) zb).trans e2;have rz:=Nat.lt_of_lt_of_le zb hA.size;clear hA hb)
      | fail)
     | fail
    all_goals (go_wp2_with fail;go_meet;exact ⟨rfl,by first | exact HA.out | exact HA.out.drew⟩)
   obtain ⟨rfl,hc⟩:=hcut;have HC:Hid (Below w.heap.size w wc):=hob.out.trans ((hbu.trans (hc.mono hbu.size)).mono hob.out.size);clear hc;go_wp2
   go_ret
   exact ⟨by first | exact HNO.out | (rw [HNO.out];rfl),HC.out⟩
  by_cases g2:m.r=m.c
  ·cases g3:bS m m0
   ·have hfv:mr m0 m=false:=by unfold mr;simp [g1,g2,g3]
    have HNO:Hid (jN ms=false):=s8 HX0.out HXJ.out hfv;clear hfv;have g2b:(m.r == m.c)=true:=by simp [g2]
    have g2c:(m.r != m.c)=false:=by simp [bne,g2]
    clear g2
    go_wp2_with fail
    obtain ⟨u1,hu1⟩:∃ u,u=(wr.alloc (.cells #[.int .i64 m.r,.int .i64 m.c,.slice A1 m.v.length p1] 37)):=⟨_,rfl⟩;rw [<- hu1];have hzu1:u1.heap.size<=wr.heap.size+1:=by rw [hu1];simp
    have hyu1:wr.heap.size+1<=u1.heap.size:=by rw [hu1];simp
    have B1_1:Blk u1 (wr.heap.size) 37 #[.int .i64 m.r,.int .i64 m.c,.slice A1 m.v.length p1]:=by rw [hu1];have h:=(Blk.new wr 37 #[.int .i64 m.r,.int .i64 m.c,.slice A1 m.v.length p1]);simpa using h
    have xb1:wr.heap.size<=wr.heap.size:=by omega
    have O1:Below wr.heap.size wr u1:=by rw [hu1];exact ((Below.refl wr.heap.size wr).alloc (by first | omega | (simp;done) | (simp;omega)) _)
    have m1:wr.heap.size<=u1.heap.size:=by omega
    clear hu1;have z1_1:wr.heap.size<u1.heap.size:=B1_1.lt;have c1_1_0:u1.cell? ⟨wr.heap.size,0,none⟩=some (.int .i64 m.r):=B1_1.cell 0;have f1_1_0:u1.frozen? ⟨wr.heap.size,0,none⟩=false:=B1_1.frozen 0;have c1_1_1:u1.cell? ⟨wr.heap.size,1,none⟩=some (.int .i64 m.c):=B1_1.cell 1;have f1_1_1:u1.frozen? ⟨wr.heap.size,1,none⟩=false:=B1_1.frozen 1;have c1_1_2:u1.cell? ⟨wr.heap.size,2,none⟩=some (.slice A1 m.v.length p1):=B1_1.cell 2;have f1_1_2:u1.frozen? ⟨wr.heap.size,2,none⟩=false:=B1_1.frozen 2;have hbu:Below wr.heap.size wr u1:=O1;have zb:b<u1.heap.size:=Nat.lt_of_lt_of_le hbl hbu.size;have e0:u1.cell? ⟨b,off,none⟩=some (.int .i64 m0.r):=(hbu.cell (p:=⟨b,off,none⟩) hbl).trans d0;have e1:u1.cell? ⟨b,off+1,none⟩=some (.int .i64 m0.c):=(hbu.cell (p:=⟨b,off+1,none⟩) hbl).trans d1;have e2:u1.cell? ⟨b,off+2,none⟩=some (.slice A0 m0.v.length p0):=(hbu.cell (p:=⟨b,off+2,none⟩) hbl).trans d2;have HV:Hid (∀ W:World,Below u1.heap.size u1 W->Calls Tryz.prog 57 #[MV m.r m.c A1 m.v.length p1] W fun e w'=>e= .returned (.bool true)/\Below W.heap.size W w'):=by
     intro W hW;have h:=aw m.r m.c m.v A1 _ p1 W ((HS1.out.below hbu).below hW) (by omega)
     have e:mvB ⟨m.r,m.c,m.v⟩=true:=g1;rw [e] at h
     exact h
    have HL:Hid (∀ W:World,Calls Tryz.prog 195 #[MV m.r m.c A1 m.v.length p1,MV m0.r m0.c A0 m0.v.length p0] W fun e w'=>e= .returned (.bool false)/\Below W.heap.size W w'):=by
     intro W;have h:=eY m.r m.c m0.r m0.c A1 A0 m.v.length p1 m0.v.length p0 W m.v m0.v;have e:bS ⟨m.r,m.c,m.v⟩ ⟨m0.r,m0.c,m0.v⟩=false:=g3;rw [e] at h
     exact h
    clear g1 g3
    go_cut [28] (fun s28 wx=>s28= .bool true/\Below u1.heap.size u1 wx)
    case first =>
     first
      | go_region_law (first
       | (go_simp;go_at_call 57;refine (HV.out _ (by first | exact Below.refl _ _ | exact (Below.refl _ _).drew)).mono ?_;rintro e wa ⟨rfl,hb⟩;have hA:Below u1.heap.size u1 wa:=bp hb (by first | exact Nat.le_refl _ | simp) (by first | exact Below.refl _ _ | exact (Below.refl _ _).drew);have HA:=Lib.hid hA;have q0:=(B1_1.aa hA).cell 0;have q1:=(B1_1.aa hA).cell 1;have q2:=(B1_1.aa hA).cell 2;have qz:=(B1_1.aa hA).lt;have r0:=(hA.cell (p:=⟨b,off,none⟩) zb).trans e0;have r1:=(hA.cell (p:=⟨b,off+1,none⟩) zb).trans e1;have r2:=(hA.cell (p:=⟨b,off+2,none⟩) zb).trans e2;have rz:=Nat.lt_of_lt_of_le zb hA.size;clear hA hb)
       | (go_simp;go_at_call 195;refine (HL.out _).mono ?_;rintro e wb ⟨rfl,hb⟩;have hB:Below u1.heap.size u1 wb:=bp hb (by first | exact HA.out.size | (simp;exact HA.out.size)) (by first | exact HA.out | exact HA.out.drew);have HB:=Lib.hid hB;clear hB hb)
       | fail)
      | fail
     all_goals (go_wp2_with fail;go_meet;exact ⟨rfl,by first | exact HB.out | exact HB.out.drew⟩)
    obtain ⟨rfl,hc⟩:=hcut;have HC:Hid (Below w.heap.size w wc):=hob.out.trans ((hbu.trans (hc.mono hbu.size)).mono hob.out.size);clear hc;go_wp2
    go_ret
    exact ⟨by first | exact HNO.out | (rw [HNO.out];rfl),HC.out⟩
   ·have hfv:mr m0 m=true:=by unfold mr;simp [g1,g2,g3]
    have HYES:Hid (∀ k x,k<j+1->ms[k]?=some x->mr m0 x=true):=by
     intro k x hk hx
     by_cases hkj:k<j
     ·exact hfit.out k x hkj hx
     ·obtain rfl:k=j:=by omega
      rw [HXJ.out] at hx;injection hx with hx;subst hx
      exact hfv
    clear hfv;have g2b:(m.r == m.c)=true:=by simp [g2]
    have g2c:(m.r != m.c)=false:=by simp [bne,g2]
    clear g2
    go_wp2_with fail
    obtain ⟨u1,hu1⟩:∃ u,u=(wr.alloc (.cells #[.int .i64 m.r,.int .i64 m.c,.slice A1 m.v.length p1] 37)):=⟨_,rfl⟩;rw [<- hu1];have hzu1:u1.heap.size<=wr.heap.size+1:=by rw [hu1];simp
    have hyu1:wr.heap.size+1<=u1.heap.size:=by rw [hu1];simp
    have B1_1:Blk u1 (wr.heap.size) 37 #[.int .i64 m.r,.int .i64 m.c,.slice A1 m.v.length p1]:=by rw [hu1];have h:=(Blk.new wr 37 #[.int .i64 m.r,.int .i64 m.c,.slice A1 m.v.length p1]);simpa using h
    have xb1:wr.heap.size<=wr.heap.size:=by omega
    have O1:Below wr.heap.size wr u1:=by rw [hu1];exact ((Below.refl wr.heap.size wr).alloc (by first | omega | (simp;done) | (simp;omega)) _)
    have m1:wr.heap.size<=u1.heap.size:=by omega
    clear hu1;have z1_1:wr.heap.size<u1.heap.size:=B1_1.lt;have c1_1_0:u1.cell? ⟨wr.heap.size,0,none⟩=some (.int .i64 m.r):=B1_1.cell 0;have f1_1_0:u1.frozen? ⟨wr.heap.size,0,none⟩=false:=B1_1.frozen 0;have c1_1_1:u1.cell? ⟨wr.heap.size,1,none⟩=some (.int .i64 m.c):=B1_1.cell 1;have f1_1_1:u1.frozen? ⟨wr.heap.size,1,none⟩=false:=B1_1.frozen 1;have c1_1_2:u1.cell? ⟨wr.heap.size,2,none⟩=some (.slice A1 m.v.length p1):=B1_1.cell 2;have f1_1_2:u1.frozen? ⟨wr.heap.size,2,none⟩=false:=B1_1.frozen 2;have hbu:Below wr.heap.size wr u1:=O1;have zb:b<u1.heap.size:=Nat.lt_of_lt_of_le hbl hbu.size;have e0:u1.cell? ⟨b,off,none⟩=some (.int .i64 m0.r):=(hbu.cell (p:=⟨b,off,none⟩) hbl).trans d0;have e1:u1.cell? ⟨b,off+1,none⟩=some (.int .i64 m0.c):=(hbu.cell (p:=⟨b,off+1,none⟩) hbl).trans d1;have e2:u1.cell? ⟨b,off+2,none⟩=some (.slice A0 m0.v.length p0):=(hbu.cell (p:=⟨b,off+2,none⟩) hbl).trans d2;have HV:Hid (∀ W:World,Below u1.heap.size u1 W->Calls Tryz.prog 57 #[MV m.r m.c A1 m.v.length p1] W fun e w'=>e= .returned (.bool true)/\Below W.heap.size W w'):=by
     intro W hW;have h:=aw m.r m.c m.v A1 _ p1 W ((HS1.out.below hbu).below hW) (by omega)
     have e:mvB ⟨m.r,m.c,m.v⟩=true:=g1;rw [e] at h
     exact h
    have HL:Hid (∀ W:World,Calls Tryz.prog 195 #[MV m.r m.c A1 m.v.length p1,MV m0.r m0.c A0 m0.v.length p0] W fun e w'=>e= .returned (.bool true)/\Below W.heap.size W w'):=by
     intro W;have h:=eY m.r m.c m0.r m0.c A1 A0 m.v.length p1 m0.v.length p0 W m.v m0.v;have e:bS ⟨m.r,m.c,m.v⟩ ⟨m0.r,m0.c,m0.v⟩=true:=g3;rw [e] at h
     exact h
    clear g1 g3
    go_cut [28] (fun s28 wx=>s28= .bool false/\Below u1.heap.size u1 wx)
    case first =>
     first
      | go_region_law (first
       | (go_simp;go_at_call 57;refine (HV.out _ (by first | exact Below.refl _ _ | exact (Below.refl _ _).drew)).mono ?_;rintro e wa ⟨rfl,hb⟩;have hA:Below u1.heap.size u1 wa:=bp hb (by first | exact Nat.le_refl _ | simp) (by first | exact Below.refl _ _ | exact (Below.refl _ _).drew);have HA:=Lib.hid hA;have q0:=(B1_1.aa hA).cell 0;have q1:=(B1_1.aa hA).cell 1;have q2:=(B1_1.aa hA).cell 2;have qz:=(B1_1.aa hA).lt;have r0:=(hA.cell (p:=⟨b,off,none⟩) zb).trans e0;have r1:=(hA.cell (p:=⟨b,off+1,none⟩) zb).trans e1;have r2:=(hA.cell (p:=⟨b,off+2,none⟩) zb).trans e2;have rz:=Nat.lt_of_lt_of_le zb hA.size;clear hA hb)
       | (go_simp;go_at_call 195;refine (HL.out _).mono ?_;rintro e wb ⟨rfl,hb⟩;have hB:Below u1.heap.size u1 wb:=bp hb (by first | exact HA.out.size | (simp;exact HA.out.size)) (by first | exact HA.out | exact HA.out.drew);have HB:=Lib.hid hB;clear hB hb)
       | fail)
      | fail
     all_goals (go_wp2_with fail;go_meet;exact ⟨rfl,by first | exact HB.out | exact HB.out.drew⟩)
    obtain ⟨rfl,hc⟩:=hcut;have HC:Hid (Below w.heap.size w wc):=hob.out.trans ((hbu.trans (hc.mono hbu.size)).mono hob.out.size);clear hc;go_wp2
    go_roundw
    case rel=>exact ⟨j+1,by omega,by go_num,HC,HYES⟩
    case measure=>simp [intOf];omega
  ·have hfv:mr m0 m=false:=by unfold mr;simp [g1,g2]
   have HNO:Hid (jN ms=false):=s8 HX0.out HXJ.out hfv;clear hfv;have g2b:(m.r == m.c)=false:=by simp [g2]
   have g2c:(m.r != m.c)=true:=by simp [bne,g2]
   clear g2
   go_wp2_with fail
   obtain ⟨u1,hu1⟩:∃ u,u=(wr.alloc (.cells #[.int .i64 m.r,.int .i64 m.c,.slice A1 m.v.length p1] 37)):=⟨_,rfl⟩;rw [<- hu1];have hzu1:u1.heap.size<=wr.heap.size+1:=by rw [hu1];simp
   have hyu1:wr.heap.size+1<=u1.heap.size:=by rw [hu1];simp
   have B1_1:Blk u1 (wr.heap.size) 37 #[.int .i64 m.r,.int .i64 m.c,.slice A1 m.v.length p1]:=by rw [hu1];have h:=(Blk.new wr 37 #[.int .i64 m.r,.int .i64 m.c,.slice A1 m.v.length p1]);simpa using h
   have xb1:wr.heap.size<=wr.heap.size:=by omega
   have O1:Below wr.heap.size wr u1:=by rw [hu1];exact ((Below.refl wr.heap.size wr).alloc (by first | omega | (simp;done) | (simp;omega)) _)
   have m1:wr.heap.size<=u1.heap.size:=by omega
   clear hu1;have z1_1:wr.heap.size<u1.heap.size:=B1_1.lt;have c1_1_0:u1.cell? ⟨wr.heap.size,0,none⟩=some (.int .i64 m.r):=B1_1.cell 0;have f1_1_0:u1.frozen? ⟨wr.heap.size,0,none⟩=false:=B1_1.frozen 0;have c1_1_1:u1.cell? ⟨wr.heap.size,1,none⟩=some (.int .i64 m.c):=B1_1.cell 1;have f1_1_1:u1.frozen? ⟨wr.heap.size,1,none⟩=false:=B1_1.frozen 1;have c1_1_2:u1.cell? ⟨wr.heap.size,2,none⟩=some (.slice A1 m.v.length p1):=B1_1.cell 2;have f1_1_2:u1.frozen? ⟨wr.heap.size,2,none⟩=false:=B1_1.frozen 2;have hbu:Below wr.heap.size wr u1:=O1;have zb:b<u1.heap.size:=Nat.lt_of_lt_of_le hbl hbu.size;have e0:u1.cell? ⟨b,off,none⟩=some (.int .i64 m0.r):=(hbu.cell (p:=⟨b,off,none⟩) hbl).trans d0;have e1:u1.cell? ⟨b,off+1,none⟩=some (.int .i64 m0.c):=(hbu.cell (p:=⟨b,off+1,none⟩) hbl).trans d1;have e2:u1.cell? ⟨b,off+2,none⟩=some (.slice A0 m0.v.length p0):=(hbu.cell (p:=⟨b,off+2,none⟩) hbl).trans d2;have HV:Hid (∀ W:World,Below u1.heap.size u1 W->Calls Tryz.prog 57 #[MV m.r m.c A1 m.v.length p1] W fun e w'=>e= .returned (.bool true)/\Below W.heap.size W w'):=by
    intro W hW;have h:=aw m.r m.c m.v A1 _ p1 W ((HS1.out.below hbu).below hW) (by omega)
    have e:mvB ⟨m.r,m.c,m.v⟩=true:=g1;rw [e] at h
    exact h
   clear g1
   go_cut [28] (fun s28 wx=>s28= .bool true/\Below u1.heap.size u1 wx)
   case first =>
    first
     | go_region_law (first
      | (go_simp;go_at_call 57;refine (HV.out _ (by first | exact Below.refl _ _ | exact (Below.refl _ _).drew)).mono ?_;rintro e wa ⟨rfl,hb⟩;have hA:Below u1.heap.size u1 wa:=bp hb (by first | exact Nat.le_refl _ | simp) (by first | exact Below.refl _ _ | exact (Below.refl _ _).drew);have HA:=Lib.hid hA;have q0:=(B1_1.aa hA).cell 0;have q1:=(B1_1.aa hA).cell 1;have q2:=(B1_1.aa hA).cell 2;have qz:=(B1_1.aa hA).lt;have r0:=(hA.cell (p:=⟨b,off,none⟩) zb).trans e0;have r1:=(hA.cell (p:=⟨b,off+1,none⟩) zb).trans e1;have r2:=(hA.cell (p:=⟨b,off+2,none⟩) zb).trans e2;have rz:=Nat.lt_of_lt_of_le zb hA.size;clear hA hb)
      | fail)
     | fail
    all_goals (go_wp2_with fail;go_meet;exact ⟨rfl,by first | exact HA.out | exact HA.out.drew⟩)
   obtain ⟨rfl,hc⟩:=hcut;have HC:Hid (Below w.heap.size w wc):=hob.out.trans ((hbu.trans (hc.mono hbu.size)).mono hob.out.size);clear hc;go_wp2
   go_ret
   exact ⟨by first | exact HNO.out | (rw [HNO.out];rfl),HC.out⟩
 ·obtain rfl:j=n:=by omega
  have he:jN ms=true:=x_ HX0.out fun k x hk hx=>hfit.out k x (by have:=HLN.out;omega) hx
  have HE:=Lib.hid he;clear he;go_wp2
  go_ret
  exact ⟨by first | exact HE.out | (rw [HE.out];rfl),hob.out⟩
end Go.Proofs.YtjciicheoghcdaaGreatDoor

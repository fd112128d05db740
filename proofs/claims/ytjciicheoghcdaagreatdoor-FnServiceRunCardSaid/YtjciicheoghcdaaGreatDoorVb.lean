/- Part of the proof: the law FnServiceRun is true for every input. -/
import Derived.Deep.AppendLies
import Derived.Deep.DeepCutAuto
import Derived.Deep.DrawnRows
import Derived.Deep.RegionHeld3
import Derived.Deep.RegionLaw
import Derived.IntWalk
import Derived.Laws.BytesArg
import Derived.Laws.Concat
import Derived.Lib.ItoaMem
import Derived.Test.YtjciicheoghcdaaGreatDoorVa
namespace Go.Proofs.YtjciicheoghcdaaGreatDoor
open Go.RowKit Go.Proofs.Tryz
set_option linter.all false
set_option maxRecDepth 20000
set_option maxHeartbeats 16000000
structure Mx where
 r:Int
 c:Int
 v:List Int
def Mx.z:Mx:=⟨0,0,[]⟩
def side (n:Int):Bool:=decide (1<=n/\n<=5)
def mvB (m:Mx):Bool:=side m.r && (side m.c && (decide ((m.v.length:Int)=m.r*m.c) && m.v.all rv))
@[reducible] def MV (r c:Int) (A:Option Addr) (n cap:Nat):Value:= .agg #[.int .i64 r,.int .i64 c,.slice A n cap]
theorem bI {n:Int} (h:side n=true):1<=n/\n<=5:=of_decide_eq_true h
theorem e6 {r c:Int} (h1:side r=true) (h2:side c=true):1<=r*c/\r*c<=25:=by
 obtain⟨a,b⟩:=bI h1;obtain⟨d,e⟩:=bI h2;have h3:r*c<=5*5:=Int.mul_le_mul b e (by omega) (by omega)
 have h4:1*1<=r*c:=Int.mul_le_mul a d (by omega) (by omega)
 omega
theorem dt (n:Int) (w:World):Calls prog 106 #[.int .i64 n] w fun e w'=>e= .returned (.bool (side n))/\w=w':=by
 by_cases h1:1<=n
 ·by_cases h2:n<=5
  ·have e:side n=true:=decide_eq_true ⟨h1,h2⟩;rw[e];clear e
   go_enter func106,ntmps106
   go_wp2
   go_ret
   exact⟨rfl,rfl⟩
  ·have e:side n=false:=decide_eq_false (fun h=>h2 h.2)
   rw[e];clear e
   go_enter func106,ntmps106
   go_wp2
   go_ret
   exact⟨rfl,rfl⟩
 ·have e:side n=false:=decide_eq_false (fun h=>h1 h.1)
  rw[e];clear e
  go_enter func106,ntmps106
  go_wp2
  go_ret
  exact⟨rfl,rfl⟩
theorem aw (r c:Int) (v:List Int) (A:Option Addr) (n cap:Nat) (w:World) (hx0:SI w A n v) (bn:n<=281474976710656) :
  Calls prog 57 #[MV r c A n cap] w fun e w'=>e= .returned (.bool (mvB ⟨r,c,v⟩))/\Below w.heap.size w w':=by
 have hlen:=hx0.1;have hx:=Qh hx0;clear hx0
 cases h1:side r
 ·have e:mvB ⟨r,c,v⟩=false:=by simp[mvB,h1]
  rw[e];clear e hlen
  go_enter func57,ntmps57
  go_wp2_with fail
  obtain⟨u1,hu1⟩:∃ u,u=(w.alloc (.cells #[.int .i64 r,.int .i64 c,.slice A n cap] 37)):=⟨_,rfl⟩;rw[<-hu1];have hzu1:u1.heap.size<=w.heap.size+1:=by rw[hu1];simp
  have hyu1:w.heap.size+1<=u1.heap.size:=by rw[hu1];simp
  have B1_1:Blk u1 (w.heap.size) 37 #[.int .i64 r,.int .i64 c,.slice A n cap]:=by rw[hu1];have h:=(Blk.new w 37 #[.int .i64 r,.int .i64 c,.slice A n cap]);simpa using h
  have xb1:w.heap.size<=w.heap.size:=by omega
  have O1:Below w.heap.size w u1:=by rw[hu1];exact((Below.refl w.heap.size w).alloc (by first|omega|(simp;done)|(simp;omega)) _)
  have m1:w.heap.size<=u1.heap.size:=by omega
  clear hu1;refine Qc (dt r u1) ?_;have z1_1:w.heap.size<u1.heap.size:=B1_1.lt;have c1_1_0:u1.cell? ⟨w.heap.size,0,none⟩=some (.int .i64 r):=B1_1.cell 0;have f1_1_0:u1.frozen? ⟨w.heap.size,0,none⟩=false:=B1_1.frozen 0;have c1_1_1:u1.cell? ⟨w.heap.size,1,none⟩=some (.int .i64 c):=B1_1.cell 1;have f1_1_1:u1.frozen? ⟨w.heap.size,1,none⟩=false:=B1_1.frozen 1;have c1_1_2:u1.cell? ⟨w.heap.size,2,none⟩=some (.slice A n cap):=B1_1.cell 2;have f1_1_2:u1.frozen? ⟨w.heap.size,2,none⟩=false:=B1_1.frozen 2;go_wp2
  go_ret
  exact⟨rfl,O1⟩
 cases h2:side c
 ·have e:mvB ⟨r,c,v⟩=false:=by simp[mvB,h2]
  rw[e];clear e hlen
  go_enter func57,ntmps57
  go_wp2_with fail
  obtain⟨u1,hu1⟩:∃ u,u=(w.alloc (.cells #[.int .i64 r,.int .i64 c,.slice A n cap] 37)):=⟨_,rfl⟩;rw[<-hu1];have hzu1:u1.heap.size<=w.heap.size+1:=by rw[hu1];simp
  have hyu1:w.heap.size+1<=u1.heap.size:=by rw[hu1];simp
  have B1_1:Blk u1 (w.heap.size) 37 #[.int .i64 r,.int .i64 c,.slice A n cap]:=by rw[hu1];have h:=(Blk.new w 37 #[.int .i64 r,.int .i64 c,.slice A n cap]);simpa using h
  have xb1:w.heap.size<=w.heap.size:=by omega
  have O1:Below w.heap.size w u1:=by rw[hu1];exact((Below.refl w.heap.size w).alloc (by first|omega|(simp;done)|(simp;omega)) _)
  have m1:w.heap.size<=u1.heap.size:=by omega
  clear hu1;refine Qc (dt r u1) ?_;have z1_1:w.heap.size<u1.heap.size:=B1_1.lt;have c1_1_0:u1.cell? ⟨w.heap.size,0,none⟩=some (.int .i64 r):=B1_1.cell 0;have f1_1_0:u1.frozen? ⟨w.heap.size,0,none⟩=false:=B1_1.frozen 0;have c1_1_1:u1.cell? ⟨w.heap.size,1,none⟩=some (.int .i64 c):=B1_1.cell 1;have f1_1_1:u1.frozen? ⟨w.heap.size,1,none⟩=false:=B1_1.frozen 1;have c1_1_2:u1.cell? ⟨w.heap.size,2,none⟩=some (.slice A n cap):=B1_1.cell 2;have f1_1_2:u1.frozen? ⟨w.heap.size,2,none⟩=false:=B1_1.frozen 2
  go_wp2_with fail
  refine Qc (dt c u1) ?_;go_wp2
  go_ret
  exact⟨rfl,O1⟩
 obtain⟨m1,m2⟩:=e6 h1 h2;have q1:=IntWalk.i64_in (r*c) (by omega)
 by_cases hl:(n:Int)=r*c
 ·have e:mvB ⟨r,c,v⟩=v.all rv:=by simp[mvB,h1,h2,hlen,hl]
  rw[e];have hlb:((n:Int) == r*c)=true:=by simp[hl]
  clear e hlen hl
  cases ha:v.all rv
  all_goals
   go_enter func57,ntmps57
   go_wp2_with fail
   obtain⟨u1,hu1⟩:∃ u,u=(w.alloc (.cells #[.int .i64 r,.int .i64 c,.slice A n cap] 37)):=⟨_,rfl⟩;rw[<-hu1];have hzu1:u1.heap.size<=w.heap.size+1:=by rw[hu1];simp
   have hyu1:w.heap.size+1<=u1.heap.size:=by rw[hu1];simp
   have B1_1:Blk u1 (w.heap.size) 37 #[.int .i64 r,.int .i64 c,.slice A n cap]:=by rw[hu1];have h:=(Blk.new w 37 #[.int .i64 r,.int .i64 c,.slice A n cap]);simpa using h
   have xb1:w.heap.size<=w.heap.size:=by omega
   have O1:Below w.heap.size w u1:=by rw[hu1];exact((Below.refl w.heap.size w).alloc (by first|omega|(simp;done)|(simp;omega)) _)
   have m1:w.heap.size<=u1.heap.size:=by omega
   clear hu1;refine Qc (dt r u1) ?_;have z1_1:w.heap.size<u1.heap.size:=B1_1.lt;have c1_1_0:u1.cell? ⟨w.heap.size,0,none⟩=some (.int .i64 r):=B1_1.cell 0;have f1_1_0:u1.frozen? ⟨w.heap.size,0,none⟩=false:=B1_1.frozen 0;have c1_1_1:u1.cell? ⟨w.heap.size,1,none⟩=some (.int .i64 c):=B1_1.cell 1;have f1_1_1:u1.frozen? ⟨w.heap.size,1,none⟩=false:=B1_1.frozen 1;have c1_1_2:u1.cell? ⟨w.heap.size,2,none⟩=some (.slice A n cap):=B1_1.cell 2;have f1_1_2:u1.frozen? ⟨w.heap.size,2,none⟩=false:=B1_1.frozen 2
   go_wp2_with fail
   refine Qc (dt c u1) ?_
   go_wp2_with fail
   refine Qc (iY A n cap v u1 (SI.below hx.out O1) (by omega)) ?_;go_wp2
   go_ret
   exact⟨rfl,O1⟩
 ·have e:mvB ⟨r,c,v⟩=false:=by simp[mvB,hlen,hl]
  rw[e];have hlb:((n:Int) == r*c)=false:=by simp[hl]
  clear e hlen hl
  go_enter func57,ntmps57
  go_wp2_with fail
  obtain⟨u1,hu1⟩:∃ u,u=(w.alloc (.cells #[.int .i64 r,.int .i64 c,.slice A n cap] 37)):=⟨_,rfl⟩;rw[<-hu1];have hzu1:u1.heap.size<=w.heap.size+1:=by rw[hu1];simp
  have hyu1:w.heap.size+1<=u1.heap.size:=by rw[hu1];simp
  have B1_1:Blk u1 (w.heap.size) 37 #[.int .i64 r,.int .i64 c,.slice A n cap]:=by rw[hu1];have h:=(Blk.new w 37 #[.int .i64 r,.int .i64 c,.slice A n cap]);simpa using h
  have xb1:w.heap.size<=w.heap.size:=by omega
  have O1:Below w.heap.size w u1:=by rw[hu1];exact((Below.refl w.heap.size w).alloc (by first|omega|(simp;done)|(simp;omega)) _)
  have m1:w.heap.size<=u1.heap.size:=by omega
  clear hu1;refine Qc (dt r u1) ?_;have z1_1:w.heap.size<u1.heap.size:=B1_1.lt;have c1_1_0:u1.cell? ⟨w.heap.size,0,none⟩=some (.int .i64 r):=B1_1.cell 0;have f1_1_0:u1.frozen? ⟨w.heap.size,0,none⟩=false:=B1_1.frozen 0;have c1_1_1:u1.cell? ⟨w.heap.size,1,none⟩=some (.int .i64 c):=B1_1.cell 1;have f1_1_1:u1.frozen? ⟨w.heap.size,1,none⟩=false:=B1_1.frozen 1;have c1_1_2:u1.cell? ⟨w.heap.size,2,none⟩=some (.slice A n cap):=B1_1.cell 2;have f1_1_2:u1.frozen? ⟨w.heap.size,2,none⟩=false:=B1_1.frozen 2
  go_wp2_with fail
  refine Qc (dt c u1) ?_;go_wp2
  go_ret
  exact⟨rfl,O1⟩
theorem aT (x:Int) {b:Bool} (h:side x=b) (w:World):Calls prog 53 #[.int .i64 x,.int .i64 1,.int .i64 5] w fun e w'=>e= .returned (.bool b)/\w=w':=by
 subst h
 exact lL x 1 5 w
theorem yd {r c:Int} {v:List Int} (h:v.length=0) (m:1<=r*c):mvB ⟨r,c,v⟩=false:=by
 have:¬(0:Int)=r*c:=by omega
 simp[mvB,h,this]
theorem AE {r c:Int} {v:List Int} (h:v.all rv=false):mvB ⟨r,c,v⟩=false:=by simp[mvB,h]
theorem aM (r c:Int) (v:List Int) (A:Option Addr) (n cap:Nat) (w:World) (hx0:SI w A n v) (bn:n<=281474976710656) :
  Calls prog 89 #[MV r c A n cap] w fun e w'=>e= .returned (.bool (mvB ⟨r,c,v⟩))/\Below w.heap.size w w':=by
 obtain⟨u1,hu1⟩:∃ u,u=w.alloc (.cells #[.int .i64 r,.int .i64 c,.slice A n cap] 37):=⟨_,rfl⟩;have B1:Blk u1 w.heap.size 37 #[.int .i64 r,.int .i64 c,.slice A n cap]:=by rw[hu1];exact Blk.new w _ _
 have HO1:Hid (Below w.heap.size w u1):=by rw[hu1];exact Qb.alloc Ql _
 have HX:Hid (SI u1 A n v):=SI.below hx0 (by rw[hu1];exact Qb.alloc Ql _)
 have HLN:=Qh hx0.1;have c0:u1.cell? ⟨w.heap.size,0,none⟩=some (.int .i64 r):=B1.cell 0;have c1:u1.cell? ⟨w.heap.size,1,none⟩=some (.int .i64 c):=B1.cell 1;have c2:u1.cell? ⟨w.heap.size,2,none⟩=some (.slice A n cap):=B1.cell 2;clear hx0 B1
 by_cases h0:n=0
 ·subst h0;have HALL:Hid (v.all rv=true):=by rw[List.eq_nil_of_length_eq_zero HLN.out];rfl
  go_enter func89,ntmps89
  go_wp2;rw[<-hu1];clear hu1;refine wp_loop_rounds 1 ?_;rw[rounds_succ]
  cases h1:side r
  ·have e:mvB ⟨r,c,v⟩=false:=by simp[mvB,h1]
   have HE:=Qh e;clear e
   go_wp2_with fail
   refine Qc (aT r h1 u1) ?_;go_wp2
   go_ret
   exact⟨dn HE.out.symm,HO1.out⟩
  cases h2:side c
  ·have e:mvB ⟨r,c,v⟩=false:=by simp[mvB,h2]
   have HE:=Qh e;clear e
   go_wp2_with fail
   refine Qc (aT r h1 u1) ?_
   go_wp2_with fail
   refine Qc (aT c h2 u1) ?_;go_wp2
   go_ret
   exact⟨dn HE.out.symm,HO1.out⟩
  obtain⟨m1,m2⟩:=e6 h1 h2;have q1:=IntWalk.i64_in (r*c) (by omega)
  have e:mvB ⟨r,c,v⟩=false:=yd HLN.out m1;have HE:=Qh e;have hlb:((0:Int) == r*c)=false:=by simp;omega
  clear e
  go_wp2_with fail
  refine Qc (aT r h1 u1) ?_
  go_wp2_with fail
  refine Qc (aT c h2 u1) ?_;go_wp2
  go_ret
  exact⟨dn HE.out.symm,HO1.out⟩
 obtain⟨b,off,rfl,hb,hc⟩:=HX.out.2 (by omega)
 have HC:=Qh hc;clear hc HX
 go_enter func89,ntmps89
 go_wp2;rw[<-hu1];clear hu1
 go_loop [3] (fun i=>∃ k:Nat,k<=n/\i= .int .i64 k/\Hid ((v.take k).all rv=true)) (fun i=>n-(intOf i).toNat)
 case atStart=>exact⟨0,Nat.zero_le _,rfl,by simp[Hid]⟩
 case round =>
  obtain⟨k,hk,rfl,heq⟩:=hrel
  by_cases hlt:k<n
  ·obtain⟨x,ex⟩:∃ x,x=v.getD k 0:=⟨_,rfl⟩;have cx:u1.cell? ⟨b,off+k,none⟩=some (.int .i64 x):=by rw[ex];exact HC.out k hlt
   have EX:=Qh ex;have i0:(0:Int)<=(k:Int):=by omega
   have i1:(k:Int)<(n:Int):=by omega
   clear ex
   by_cases hxv:0<=x/\x<=4095
   ·go_wp2_with fail
    refine Qc (ak x hxv _) ?_;go_wp2
    go_round
    case rel=>exact⟨k+1,by omega,by go_num,k_ (by rw[HLN.out];exact hlt) heq.out (by rw[<-EX.out];exact aR hxv)⟩
    case measure=>simp[intOf];omega
   ·have HF:Hid (mvB ⟨r,c,v⟩=false):=AE (pO (j7 (k:=k) (by rw[HLN.out];exact hlt)) (by rw[<-EX.out];exact bF hxv))
    go_wp2_with fail
    refine Qc (bM x hxv _) ?_;go_wp2
    go_ret
    exact⟨dn HF.out.symm,HO1.out⟩
  ·obtain rfl:n=k:=by omega
   have HALL:Hid (v.all rv=true):=by
    have h:=heq.out
    rwa [List.take_of_length_le (by rw[HLN.out];exact Nat.le_refl _)] at h
   clear heq
   cases h1:side r
   ·have e:mvB ⟨r,c,v⟩=false:=by simp[mvB,h1]
    have HE:=Qh e;clear e
    go_wp2_with fail
    refine Qc (aT r h1 u1) ?_;go_wp2
    go_ret
    exact⟨dn HE.out.symm,HO1.out⟩
   cases h2:side c
   ·have e:mvB ⟨r,c,v⟩=false:=by simp[mvB,h2]
    have HE:=Qh e;clear e
    go_wp2_with fail
    refine Qc (aT r h1 u1) ?_
    go_wp2_with fail
    refine Qc (aT c h2 u1) ?_;go_wp2
    go_ret
    exact⟨dn HE.out.symm,HO1.out⟩
   obtain⟨m1,m2⟩:=e6 h1 h2;have q1:=IntWalk.i64_in (r*c) (by omega)
   by_cases hl:(n:Int)=r*c
   ·have e:mvB ⟨r,c,v⟩=true:=by simp[mvB,h1,h2,HLN.out,hl,HALL.out]
    have HE:=Qh e;have hlb:((n:Int) == r*c)=true:=by simp[hl]
    clear e hl
    go_wp2_with fail
    refine Qc (aT r h1 u1) ?_
    go_wp2_with fail
    refine Qc (aT c h2 u1) ?_;go_wp2
    go_ret
    exact⟨dn HE.out.symm,HO1.out⟩
   ·have e:mvB ⟨r,c,v⟩=false:=by simp[mvB,HLN.out,hl]
    have HE:=Qh e;have hlb:((n:Int) == r*c)=false:=by simp[hl]
    clear e hl
    go_wp2_with fail
    refine Qc (aT r h1 u1) ?_
    go_wp2_with fail
    refine Qc (aT c h2 u1) ?_;go_wp2
    go_ret
    exact⟨dn HE.out.symm,HO1.out⟩
section
theorem DQ {q n:Int} (hn:0<n) (h0:0<=q) (h1:q<n+n):∃ d:Int,q.tdiv n=d/\0<=d/\d<2:=by
 refine⟨q/n,Int.tdiv_eq_ediv_of_nonneg h0,Int.ediv_nonneg h0 (by omega),?_⟩
 exact Int.ediv_lt_of_lt_mul hn (by omega)
theorem D_ (x y:Int) (d:Int) (h0:0<=d) (h1:d<2):∃ v:Int,[Value.int .i64 x,Value.int .i64 y][d.toNat]?=some (.int .i64 v)/\(v=x\/v=y):=by
 have hd:d=0\/d=1:=by omega
 rcases hd with rfl|rfl
 ·exact⟨x,rfl,.inl rfl⟩
 ·exact⟨y,rfl,.inr rfl⟩
def Mi (rb:Nat) (r c:Int) (w:World) (P:Nat) (W:World) (j:Nat) (A:Option Addr) (cp:Nat) (xs:List Int):Prop :=
 Blk W w.heap.size 37 #[.int .i64 0,.int .i64 0,.slice none 0 0]/\Blk W (w.heap.size+1) 37 #[.int .i64 r,.int .i64 c,.slice A j cp]/\OS W w.heap.size A j cp xs/\aZ rb w W/\Rd W rb P
section
variable {rb P P':Nat} {r c:Int} {w W W' w1:World} {j cp g cap:Nat} {A:Option Addr} {xs:List Int} {x:Int} {o:Obj}
theorem Mi.start (h:Rd w rb P):Mi rb r c w P ((w.alloc (.cells #[.int .i64 0,.int .i64 0,.slice none 0 0] 37)).alloc (.cells #[.int .i64 r,.int .i64 c,.slice none 0 0] 37)) 0 none 0 []:=by
 refine⟨(Blk.new _ _ _).alloc _,?_,OS.nil _ _,((aZ.refl rb w).alloc _).alloc _,(h.alloc _).alloc _⟩;have h:=Blk.new (w.alloc (.cells #[.int .i64 0,.int .i64 0,.slice none 0 0] 37)) 37 #[.int .i64 r,.int .i64 c,.slice none 0 0]
 simpa using h
theorem Mi.alloc (h:Mi rb r c w P W j A cp xs) (o:Obj):Mi rb r c w P (W.alloc o) j A cp xs:=⟨h.1.alloc o,h.2.1.alloc o,h.2.2.1.alloc o,h.2.2.2.1.alloc o,h.2.2.2.2.alloc o⟩
theorem Mi.drew (h:Mi rb r c w P W j A cp xs):Mi rb r c w P W.drew j A cp xs:=⟨h.1,h.2.1,h.2.2.1,h.2.2.2.1.drew,h.2.2.2.2⟩
theorem Mi.rd (h:Mi rb r c w P W j A cp xs):Rd W rb P:=h.2.2.2.2
theorem Mi.os (h:Mi rb r c w P W j A cp xs):OS W w.heap.size A j cp xs:=h.2.2.1
theorem Mi.lt (h:Mi rb r c w P W j A cp xs):w.heap.size+1<W.heap.size:=h.2.1.lt
theorem Mi.kx (h:Mi rb r c w P W j A cp xs):W.cell? ⟨w.heap.size+1,2,none⟩=some (.slice A j cp):=h.2.1.cell 2
theorem Mi.DC (h:Mi rb r c w P W j A cp xs):W.frozen? ⟨w.heap.size+1,2,none⟩=false:=h.2.1.frozen 2
theorem Mi.only (h:Mi rb r c w P W j A cp xs) (hr:rb<w.heap.size) (ho:aZ rb W W') (hr':Rd W' rb P'):Mi rb r c w P' W' j A cp xs :=
 ⟨h.1.only ho (by omega),h.2.1.only ho (by omega),h.2.2.1.only ho hr,h.2.2.2.1.trans ho,hr'⟩
def Ma (rb:Nat) (r c:Int) (w:World) (P:Nat) (W:World) (j:Nat) (A:Option Addr) (cp g cap:Nat) (xs:List Int):Prop :=
 Blk W w.heap.size 37 #[.int .i64 0,.int .i64 0,.slice none 0 0]/\Blk W (w.heap.size+1) 37 #[.int .i64 r,.int .i64 c,.slice A j cp]/\OS W w.heap.size (some ⟨g,0,none⟩) (j+1) cap xs/\aZ rb w W/\Rd W rb P
theorem Mi.app (h:Mi rb r c w P W j A cp xs) (hr:rb<w.heap.size)
  (hown:w1.ownsRow w.heap.size 3 1 (.slice (some ⟨g,0,none⟩) (j+1) cap) (j+1) (xs.map (Value.int .i64)++[.int .i64 x])) (hg:(W.alloc o).grownBy w1 (Value.slice A j cp).ownBlock)
  (hat:(Value.slice A j cp).ownBlock=some g\/g=W.heap.size+1):Ma rb r c w P w1 j A cp g cap (xs++[x]):=by
 obtain⟨h1,h2,h3,h4,h5⟩:=h;obtain⟨k1,_,k3,_⟩:=fS (wr:=W) h3 (Below.refl w.heap.size W) h4.size hown hg hat;have n1:=bf h3 h1 (by decide)
 have n2:=bf h3 h2 (by decide)
 have hne:∀ i,i<w.heap.size->some i≠blk A:=fun i hi e=>by have:=(h3.aj i e.symm).1;omega
 have hs:=h4.size;refine⟨h1.bR k3 n1,h2.bR k3 n2,k1,⟨k3.os.trans h4.os,k3.tape.trans h4.tape,k3.output.trans h4.output,Nat.le_trans h4.size k3.size,fun i hi hnr=>(k3.block i (by omega) (hne i hi)).trans (h4.block i hi hnr)⟩,h5.au fun i hi=>k3.block i (by omega) (hne i (by omega))⟩
theorem Ma.next (h:Ma rb r c w P w1 j A cp g cap xs) (hr:rb<w.heap.size):Mi rb r c w P (w1.setCell ⟨w.heap.size+1,2,none⟩ (.slice (some ⟨g,0,none⟩) (j+1) cap)) (j+1) (some ⟨g,0,none⟩) cap xs:=by
 obtain⟨h1,h2,h3,h4,h5⟩:=h
 exact⟨h1.far (p:=⟨w.heap.size+1,2,none⟩) (by dsimp only;omega) _,h2.dc 2 _,h3.dk h2 (by decide) _,h4.setCell (.inr (by dsimp only;omega)) _,h5.setCell (by dsimp only;omega) _⟩
theorem Mi.mono (h:Mi rb r c w P W j A cp xs) (hP:P<=P'):Mi rb r c w P' W j A cp xs:=⟨h.1,h.2.1,h.2.2.1,h.2.2.2.1,h.2.2.2.2.mono hP⟩
end
end
section
attribute [local go_sem ↓] Go.wp_at_zero Go.wp_at_succ
section
variable {rb P P':Nat} {r c:Int} {w W W' w1:World} {j cp g cap:Nat} {A:Option Addr} {xs:List Int} {x:Int} {o:Obj}
theorem Mi.Fw (h:Mi rb r c w P W j A cp xs) (hr:rb<w.heap.size) (x:Int):Mi rb x c w P (W.setCell ⟨w.heap.size+1,0,none⟩ (.int .i64 x)) j A cp xs:=by
 obtain⟨h1,h2,h3,h4,h5⟩:=h
 exact⟨h1.far (p:=⟨w.heap.size+1,0,none⟩) (by dsimp only;omega) _,h2.dc 0 _,h3.dk h2 (by decide) _,h4.setCell (.inr (by dsimp only;omega)) _,h5.setCell (by dsimp only;omega) _⟩
theorem Mi.Fv (h:Mi rb r c w P W j A cp xs) (hr:rb<w.heap.size) (x:Int):Mi rb r x w P (W.setCell ⟨w.heap.size+1,1,none⟩ (.int .i64 x)) j A cp xs:=by
 obtain⟨h1,h2,h3,h4,h5⟩:=h
 exact⟨h1.far (p:=⟨w.heap.size+1,1,none⟩) (by dsimp only;omega) _,h2.dc 1 _,h3.dk h2 (by decide) _,h4.setCell (.inr (by dsimp only;omega)) _,h5.setCell (by dsimp only;omega) _⟩
theorem Mi.ne1 (h:Mi rb r c w P W j (some ⟨g,0,none⟩) cp xs):¬g=w.heap.size:=fun e=>bf h.2.2.1 h.1 (by decide) (by subst e;rfl)
theorem Mi.ne2 (h:Mi rb r c w P W j (some ⟨g,0,none⟩) cp xs):¬g=w.heap.size+1:=fun e=>bf h.2.2.1 h.2.1 (by decide) (by subst e;rfl)
theorem Mi.EV (h:Mi rb r c w P W j (some ⟨g,0,none⟩) cp xs) (hr:rb<w.heap.size) (x:Int):Mi rb r c w P (W.setCell ⟨g,0,none⟩ (.int .i64 x)) j (some ⟨g,0,none⟩) cp (xs.set 0 x):=by
 have n1:=h.ne1;have n2:=h.ne2;obtain⟨h1,h2,h3,h4,h5⟩:=h;have hb:=(h3.aj g rfl).1;refine⟨h1.far (p:=⟨g,0,none⟩) (by dsimp only;omega) _,h2.far (p:=⟨g,0,none⟩) (by dsimp only;omega) _,?_,h4.setCell (.inr hb) _,h5.setCell (by dsimp only;omega) _⟩
 have h:=(World.ownsRow.stored h3 0 (.int .i64 x)).1;rw[<-List.map_set] at h
 exact h
theorem Mi.Fs (h:Mi rb r c w P W j (some ⟨g,0,none⟩) cp xs) (hj:0<j):(∃ y:Value,W.cell? ⟨g,0,none⟩=some y)/\W.frozen? ⟨g,0,none⟩=false/\g<W.heap.size:=by
 have h3:=h.2.2.1;obtain⟨b',off',e,_,hc⟩:=h3.si.2 hj;injection e with e;injection e with e1 e2;subst e1 e2
 exact⟨⟨_,hc 0 hj⟩,h3.frozen 0 g rfl,(h3.aj g rfl).2⟩
def Dm (w:World) (rb P:Nat) (e:Ending) (w':World):Prop:=∃ (r c:Int) (A:Option Addr) (cp:Nat) (v:List Int),e= .returned (.agg #[.int .i64 r,.int .i64 c,.slice A v.length cp])/\OS w' w.heap.size A v.length cp v/\v.length<=26/\Rd w' rb P/\aZ rb w w'
theorem Mi.fin {a b d:Value} (h:Mi rb r c w P W j A cp xs) (hr:rb<w.heap.size) (hj:j<=26) (hP:P<=P') :
  Dm w rb P' (.returned (.agg #[.int .i64 r,.int .i64 c,.slice A j cp])) (((W.setCell ⟨w.heap.size,0,none⟩ a).setCell ⟨w.heap.size,1,none⟩ b).setCell ⟨w.heap.size,2,none⟩ d):=by
 obtain⟨h1,h2,h3,h4,h5⟩:=h;have hl:=h3.len;subst hl
 exact⟨r,c,A,cp,xs,rfl,((h3.dk h1 (by decide) _).dk (h1.dc 0 _) (by decide) _).dk ((h1.dc 0 _).dc 1 _) (by decide) _,hj,(((h5.setCell (by dsimp only;omega) _).setCell (by dsimp only;omega) _).setCell (by dsimp only;omega) _).mono hP,
  ((h4.setCell (.inr Ql) _).setCell (.inr Ql) _).setCell (.inr Ql) _⟩
end
theorem FK (w:World) {x y v d:Int} (hv:[Value.int .i64 x,Value.int .i64 y][d.toNat]?=some (.int .i64 v)):(w.alloc (.cells #[.int .i64 x,.int .i64 y] 3)).cell? ⟨w.heap.size,d.toNat,none⟩=some (.int .i64 v) :=
 (cell_of_row _ _ _ _ _ _ (heap_alloc_new w _)).trans (by simpa using hv)
theorem Fq (x y z:Int) (d:Int) (h0:0<=d) (h1:d<3):∃ v:Int,[Value.int .i64 x,Value.int .i64 y,Value.int .i64 z][d.toNat]?=some (.int .i64 v):=by
 have hd:d=0\/d=1\/d=2:=by omega
 rcases hd with rfl|rfl|rfl
 ·exact⟨x,rfl⟩
 ·exact⟨y,rfl⟩
 ·exact⟨z,rfl⟩
theorem EP (w:World) {x y z v d:Int} (hv:[Value.int .i64 x,Value.int .i64 y,Value.int .i64 z][d.toNat]?=some (.int .i64 v)):(w.alloc (.cells #[.int .i64 x,.int .i64 y,.int .i64 z] 3)).cell? ⟨w.heap.size,d.toNat,none⟩=some (.int .i64 v) :=
 (cell_of_row _ _ _ _ _ _ (heap_alloc_new w _)).trans (by simpa using hv)
theorem Et (rb P:Nat) (r c n0:Int) (hr:1<=r/\r<=5) (hc:1<=c/\c<=5) (hn:0<=n0/\n0<=1000000) (w:World) (h:Rd w rb P) (hP:P<1000000):Calls prog 121 #[.pointer (some ⟨rb,0,none⟩),.int .i64 r,.int .i64 c,.int .i64 n0] w (Dm w rb (P+220)):=by
 obtain⟨i0',hi,hz0,hz1,hz2⟩:=info_parts eU;have hrw:=h.lt;have N0:r*c<=5*5:=Int.mul_le_mul hr.2 hc.2 (by omega) (by omega)
 have N1:0<r*c:=Int.mul_pos (by omega) (by omega)
 obtain⟨N,hN⟩:∃ N:Nat,r*c=(N:Int):=⟨(r*c).toNat,by omega⟩
 have hN1:1<=N:=by omega
 have hN2:N<=25:=by omega
 have hNl:N+1<=26:=by omega
 clear N0 N1;have hwN:IntKind.i64.wrap (r*c)=(N:Int):=by rw[hN];exact IntWalk.i64_in _ (by omega)
 have hNn:(0:Int)<(N:Int):=by omega
 have hM0:=Qh (Mi.start (r:=r) (c:=c) h);have HN:=Qh hN;obtain⟨c1,c2⟩:=hc;clear h hr hN
 go_enter func121,ntmps121
 go_wp2
 go_loopw [10] (fun v10 wr=>∃ (j:Nat) (A:Option Addr) (cp:Nat) (xs:List Int),j<=N/\v10= .int .i64 (j:Int)/\Hid (Mi rb r c w (P+8*j) wr j A cp xs)) (fun k _=>((N:Int)-intOf k).toNat)
 case atStart=>exact⟨0,none,0,[],by omega,by go_num,hM0⟩
 case round =>
  obtain⟨j,A,cp,xs,hj,rfl,hm⟩:=hrel;clear hM0
  by_cases hk:j<N
  ·have hk':(j:Int)<(N:Int):=by omega
   have MD:=Qh hm.out.drew;have hP2:P+8*j<1000200:=by omega
   have C1:Hid (∀ W:World,Rd W rb (P+8*j)->Calls prog 71 #[.pointer (some ⟨rb,0,none⟩),.int .i64 64] W (Pk W rb (P+8*j+1) 64)):=fun W h=>FE rb _ 64 W h (by omega)
   have C2:Hid (∀ (x:Int) (W:World),Calls prog 132 #[.int .i64 x] W fun e w'=>∃ y:Int,e= .returned (.int .i64 y)/\W=w'):=fun x W=>(bG x W).mono fun e w' h=>⟨_,h.1,h.2⟩
   have C3:Hid (∀ W:World,Rd W rb (P+8*j+1)->Calls prog 162 #[.pointer (some ⟨rb,0,none⟩),.int .i64 0] W (Rg0 W rb (P+8*j+1+6))):=fun W h=>DV rb _ W h (by omega)
   have C4:Hid (∀ W:World,Rd W rb (P+8*j+1+6)->Calls prog 71 #[.pointer (some ⟨rb,0,none⟩),.int .i64 4] W (Pk W rb (P+8*j+1+6+1) 4)):=fun W h=>FE rb _ 4 W h (by omega)
   have H2:Hid (j+1<=maxLen):=by unfold maxLen;show j+1<=_;omega
   have H3:Hid ((j+1)*8<=140737488355328):=by show (j+1)*8<=_;omega
   have cM:wr.cell? ⟨w.heap.size+1,2,none⟩=some (.slice A j cp):=hm.out.kx;have zM:=hm.out.lt
   go_upto_region 5 with fail
   go_region_law (first
    | (refine step_append_lies _ (by rfl) _ _ _ (by rfl) w.heap.size 3 i0' (.int .i64 0) 1 8 underlying35 hi hz0 hz1 hz2 rfl (by omega) (.slice A j cp) j _ (by rfl) (World.ownsRow.alloc MC.out.os _) ⟨wc.heap.size,0,none⟩ 1 1 [.int .i64 v] (by rfl) rfl (fun jj u h=>HN1.out jj u h) H1.out (by omega) H2.out H3.out H4.out (wc.heap.size+1) H5.out ?_;intro g cap w1 hown hgrow hat hlt1;have HA:=Qh (Mi.app MC.out hrw hown hgrow hat);clear hown hgrow hat;have kT:=HA.out.2.1.cell 2;have fT:=HA.out.2.1.frozen 2;have zT:=HA.out.2.1.lt)
    | (refine step_append_lies _ (by rfl) _ _ _ (by rfl) w.heap.size 3 i0' (.int .i64 0) 1 8 underlying35 hi hz0 hz1 hz2 rfl (by omega) (.slice A j cp) j _ (by rfl) (World.ownsRow.alloc (MC.out.alloc (.cells #[.int .i64 xx,.int .i64 yy] 3)).os _) ⟨wc.heap.size+1,0,none⟩ 1 1 [.int .i64 v] (by rfl) rfl (fun jj u h=>HN1.out jj u h) H1.out (by omega) H2.out H3.out H4.out (wc.heap.size+1+1) H5.out ?_;intro g cap w1 hown hgrow hat hlt1;have HA:=Qh (Mi.app (MC.out.alloc (.cells #[.int .i64 xx,.int .i64 yy] 3)) hrw hown hgrow (hat.imp id fun e=>e.trans (by rw[World.size_alloc])));clear hown hgrow hat;have kT:=HA.out.2.1.cell 2;have fT:=HA.out.2.1.frozen 2;have zT:=HA.out.2.1.lt)
    | (go_simp;go_at_call 71;(with_reducible refine(C1.out _ MD.out.rd).mono ?_);rintro e wa ⟨a,rfl,a0,a1,r',o'⟩;have a2:a<=63:=(by omega);have MA:=Qh (MD.out.only hrw o' r');have cA:=MA.out.kx;have fA:=MA.out.DC;have zA:=MA.out.lt;clear a1 r' o')
    | (go_simp;go_at_call 132;refine(C2.out _ _).mono ?_;rintro e w' ⟨xx,rfl,rfl⟩)
    | (go_simp;go_at_call 162;(with_reducible refine(C3.out _ MA.out.rd).mono ?_);rintro e wb ⟨yy,rfl,y0,y1,r',o'⟩;have MB:=Qh (MA.out.only hrw o' r');have cB:=MB.out.kx;have fB:=MB.out.DC;have zB:=MB.out.lt;clear y0 y1 r' o')
    | (go_simp;go_at_call 71;(with_reducible refine(C4.out _ (MB.out.alloc _).rd).mono ?_);rintro e wc ⟨q,rfl,q0,q1,r',o'⟩;have q2:q<6:=(by omega);clear q1;obtain⟨d,hd,d0,d1⟩:=DQ (q:=q) (n:=3) (by omega) q0 q2;have hwd:=IntWalk.i64_in d (by omega);obtain⟨v,hv,hvv⟩:=D_ xx yy d d0 d1;have MC:=Qh ((MB.out.alloc (.cells #[.int .i64 xx,.int .i64 yy] 3)).only hrw o' r');have cC:=MC.out.kx;have fC:=MC.out.DC;have zC:=MC.out.lt;have zb:wb.heap.size<wc.heap.size:=(by have:=o'.size;simp at this;omega);have cX:wc.cell? ⟨wb.heap.size,d.toNat,none⟩=some (.int .i64 v):=(o'.cell (by simp) (by omega)).trans (FK wb hv);have HN1:=Qh (cell_one_new wc (.int .i64 v) 3);have H1:Hid (∀ u∈[Value.int .i64 v],u.oneCell'=true):=(by intro u hu;simp at hu;subst hu;rfl);have H4:Hid (w.heap.size<=(wc.alloc (.cells #[.int .i64 v] 3)).heap.size):=(by show w.heap.size<=_;simp;omega);have H5:Hid ((wc.alloc (.cells #[.int .i64 v] 3)).heap.size=wc.heap.size+1):=(by show _=_;simp);have cL:(wc.alloc (.cells #[.int .i64 v] 3)).cell? ⟨w.heap.size+1,2,none⟩=some (.slice A j cp):=(MC.out.alloc (.cells #[.int .i64 v] 3)).kx;clear hvv r' o' hv)
    | (go_simp;go_at_call 71;(with_reducible refine(C4.out _ MB.out.rd).mono ?_);rintro e wc ⟨q,rfl,q0,q1,r',o'⟩;have q2:q<6:=(by omega);clear q1;obtain⟨d,hd,d0,d1⟩:=DQ (q:=q) (n:=3) (by omega) q0 q2;have hwd:=IntWalk.i64_in d (by omega);obtain⟨v,hv,hvv⟩:=D_ xx yy d d0 d1;have MC:=Qh (MB.out.only hrw o' r');have cC:=MC.out.kx;have fC:=MC.out.DC;have zC:=MC.out.lt;have cX:(wc.alloc (.cells #[.int .i64 xx,.int .i64 yy] 3)).cell? ⟨wc.heap.size,d.toNat,none⟩=some (.int .i64 v):=FK wc hv;have hv2:=hv;obtain⟨_,hve⟩:=List.getElem?_eq_some_iff.1 hv2;have HN1:Hid (∀ jj u,[Value.int .i64 v][jj]?=some u->((wc.alloc (.cells #[.int .i64 xx,.int .i64 yy] 3)).alloc (.cells #[.int .i64 v] 3)).cell? ((⟨wc.heap.size+1,0,none⟩:Addr).add jj)=some u):=(by have h:=cell_one_new (wc.alloc (.cells #[.int .i64 xx,.int .i64 yy] 3)) (.int .i64 v) 3;rw[World.size_alloc] at h;exact h);have H1:Hid (∀ u∈[Value.int .i64 v],u.oneCell'=true):=(by intro u hu;simp at hu;subst hu;rfl);have H4:Hid (w.heap.size<=((wc.alloc (.cells #[.int .i64 xx,.int .i64 yy] 3)).alloc (.cells #[.int .i64 v] 3)).heap.size):=(by show w.heap.size<=_;simp;omega);have H5:Hid (((wc.alloc (.cells #[.int .i64 xx,.int .i64 yy] 3)).alloc (.cells #[.int .i64 v] 3)).heap.size=(wc.heap.size+1)+1):=(by show _=_;simp);have cL0:(wc.alloc (.cells #[.int .i64 xx,.int .i64 yy] 3)).cell? ⟨w.heap.size+1,2,none⟩=some (.slice A j cp):=(MC.out.alloc (.cells #[.int .i64 xx,.int .i64 yy] 3)).kx;have cL:((wc.alloc (.cells #[.int .i64 xx,.int .i64 yy] 3)).alloc (.cells #[.int .i64 v] 3)).cell? ⟨w.heap.size+1,2,none⟩=some (.slice A j cp):=((MC.out.alloc (.cells #[.int .i64 xx,.int .i64 yy] 3)).alloc (.cells #[.int .i64 v] 3)).kx;clear hvv r' o'))
   all_goals
    go_wp2
    go_roundw
    case rel=>exact⟨j+1,some ⟨g,0,none⟩,cap,xs++[v],by omega,by go_num,Qh ((Ma.next HA.out hrw).mono (by omega))⟩
    case measure=>simp[intOf];omega
  ·obtain rfl:j=N:=by omega
   go_wp2_with fail
   refine(EG rb (P+8*j) n0 hn wr hm.out.rd (by omega)).mono ?_
   rintro e w4 ⟨od,rfl,r',o'⟩;have M4:=Qh (hm.out.only hrw o' r');clear r' o' hm
   cases od
   ·have za1:w.heap.size<w4.heap.size:=by have:=M4.out.lt;omega
    have za2:w.heap.size+1<w4.heap.size:=M4.out.lt;have ca00:w4.cell? ⟨w.heap.size,0,none⟩=some (.int .i64 0):=M4.out.1.cell 0;have fa00:w4.frozen? ⟨w.heap.size,0,none⟩=false:=M4.out.1.frozen 0;have ca01:w4.cell? ⟨w.heap.size,1,none⟩=some (.int .i64 0):=M4.out.1.cell 1;have fa01:w4.frozen? ⟨w.heap.size,1,none⟩=false:=M4.out.1.frozen 1;have ca02:w4.cell? ⟨w.heap.size,2,none⟩=some (.slice none 0 0):=M4.out.1.cell 2;have fa02:w4.frozen? ⟨w.heap.size,2,none⟩=false:=M4.out.1.frozen 2;have ca10:w4.cell? ⟨w.heap.size+1,0,none⟩=some (.int .i64 r):=M4.out.2.1.cell 0;have fa10:w4.frozen? ⟨w.heap.size+1,0,none⟩=false:=M4.out.2.1.frozen 0;have ca11:w4.cell? ⟨w.heap.size+1,1,none⟩=some (.int .i64 c):=M4.out.2.1.cell 1;have fa11:w4.frozen? ⟨w.heap.size+1,1,none⟩=false:=M4.out.2.1.frozen 1;have ca12:w4.cell? ⟨w.heap.size+1,2,none⟩=some (.slice A j cp):=M4.out.2.1.cell 2;have fa12:w4.frozen? ⟨w.heap.size+1,2,none⟩=false:=M4.out.2.1.frozen 2;go_wp2
    exact bodyPost_ret (v:= .agg #[.int .i64 r,.int .i64 c,.slice A j cp]) (by simp[results,results121,go_sem,za1,za2,ca00,fa00,ca01,fa01,ca02,fa02,ca10,fa10,ca11,fa11,ca12,fa12,(by omega:¬w.heap.size=w.heap.size+1),(by omega:¬w.heap.size+1=w.heap.size)]) rfl (Mi.fin (M4.out) hrw (by omega) (by omega))
   ·go_wp2_with fail
    refine(FE rb (P+8*j+1) 4 w4 M4.out.rd (by omega)).mono ?_
    rintro e w5 ⟨v,rfl,v0,v1,r',o'⟩;have M5:=Qh (M4.out.only hrw o' r');clear r' o' M4;have hv:v=0\/v=1\/v=2\/v=3:=by omega
    clear v0 v1;rcases hv with rfl|rfl|rfl|rfl
    ·go_wp2_with fail
     refine(FE rb (P+8*j+1+1) 3 _ (M5.out.alloc _).rd (by omega)).mono ?_
     rintro e w6 ⟨q,rfl,q0,q1,r',o'⟩;have q2:q<3:=by omega
     obtain⟨x,hx⟩:=Fq 0 6 (-1) q q0 q2;have z5:=M5.out.lt;have cX:w6.cell? ⟨w5.heap.size,q.toNat,none⟩=some (.int .i64 x):=(o'.cell (by simp) (by omega)).trans (EP w5 hx)
     have zX:w5.heap.size<w6.heap.size:=by have:=o'.size;simp at this;omega
     have M6:=Qh ((M5.out.alloc (.cells #[.int .i64 0,.int .i64 6,.int .i64 (-1)] 3)).only hrw o' r');clear r' o' q1 hx M5;have za1:w.heap.size<w6.heap.size:=by have:=M6.out.lt;omega
     have za2:w.heap.size+1<w6.heap.size:=M6.out.lt;have ca00:w6.cell? ⟨w.heap.size,0,none⟩=some (.int .i64 0):=M6.out.1.cell 0;have fa00:w6.frozen? ⟨w.heap.size,0,none⟩=false:=M6.out.1.frozen 0;have ca01:w6.cell? ⟨w.heap.size,1,none⟩=some (.int .i64 0):=M6.out.1.cell 1;have fa01:w6.frozen? ⟨w.heap.size,1,none⟩=false:=M6.out.1.frozen 1;have ca02:w6.cell? ⟨w.heap.size,2,none⟩=some (.slice none 0 0):=M6.out.1.cell 2;have fa02:w6.frozen? ⟨w.heap.size,2,none⟩=false:=M6.out.1.frozen 2;have ca10:w6.cell? ⟨w.heap.size+1,0,none⟩=some (.int .i64 r):=M6.out.2.1.cell 0;have fa10:w6.frozen? ⟨w.heap.size+1,0,none⟩=false:=M6.out.2.1.frozen 0;have ca11:w6.cell? ⟨w.heap.size+1,1,none⟩=some (.int .i64 c):=M6.out.2.1.cell 1;have fa11:w6.frozen? ⟨w.heap.size+1,1,none⟩=false:=M6.out.2.1.frozen 1;have ca12:w6.cell? ⟨w.heap.size+1,2,none⟩=some (.slice A j cp):=M6.out.2.1.cell 2;have fa12:w6.frozen? ⟨w.heap.size+1,2,none⟩=false:=M6.out.2.1.frozen 2;go_wp2
     exact bodyPost_ret (v:= .agg #[.int .i64 x,.int .i64 c,.slice A j cp]) (by simp[results,results121,go_sem,za1,za2,ca00,fa00,ca01,fa01,ca02,fa02,ca10,fa10,ca11,fa11,ca12,fa12,cX,zX,q0,q2,(by omega:¬w.heap.size=w.heap.size+1),(by omega:¬w.heap.size+1=w.heap.size)]) rfl (Mi.fin (M6.out.Fw hrw x) hrw (by omega) (by omega))
    ·have za1:w.heap.size<w5.heap.size:=by have:=M5.out.lt;omega
     have za2:w.heap.size+1<w5.heap.size:=M5.out.lt;have ca00:w5.cell? ⟨w.heap.size,0,none⟩=some (.int .i64 0):=M5.out.1.cell 0;have fa00:w5.frozen? ⟨w.heap.size,0,none⟩=false:=M5.out.1.frozen 0;have ca01:w5.cell? ⟨w.heap.size,1,none⟩=some (.int .i64 0):=M5.out.1.cell 1;have fa01:w5.frozen? ⟨w.heap.size,1,none⟩=false:=M5.out.1.frozen 1;have ca02:w5.cell? ⟨w.heap.size,2,none⟩=some (.slice none 0 0):=M5.out.1.cell 2;have fa02:w5.frozen? ⟨w.heap.size,2,none⟩=false:=M5.out.1.frozen 2;have ca10:w5.cell? ⟨w.heap.size+1,0,none⟩=some (.int .i64 r):=M5.out.2.1.cell 0;have fa10:w5.frozen? ⟨w.heap.size+1,0,none⟩=false:=M5.out.2.1.frozen 0;have ca11:w5.cell? ⟨w.heap.size+1,1,none⟩=some (.int .i64 c):=M5.out.2.1.cell 1;have fa11:w5.frozen? ⟨w.heap.size+1,1,none⟩=false:=M5.out.2.1.frozen 1;have ca12:w5.cell? ⟨w.heap.size+1,2,none⟩=some (.slice A j cp):=M5.out.2.1.cell 2;have fa12:w5.frozen? ⟨w.heap.size+1,2,none⟩=false:=M5.out.2.1.frozen 2;have qc:=IntWalk.i64_in (c+1) (by omega)
     go_wp2
     exact bodyPost_ret (v:= .agg #[.int .i64 r,.int .i64 (c+1),.slice A j cp]) (by simp[results,results121,go_sem,za1,za2,ca00,fa00,ca01,fa01,ca02,fa02,ca10,fa10,ca11,fa11,ca12,fa12,qc,(by omega:¬w.heap.size=w.heap.size+1),(by omega:¬w.heap.size+1=w.heap.size)]) rfl (Mi.fin (M5.out.Fv hrw (c+1)) hrw (by omega) (by omega))
    ·have c52:=M5.out.kx;have z5:=M5.out.lt
     go_wp2_with (at_builtin;refine wpList_append_lies _ rfl _ _ 35 rfl w.heap.size 3 i0' (.int .i64 0) 1 8 underlying35 hi hz0 hz1 hz2 rfl (by decide) (.slice A j cp) j _ rfl (World.ownsRow.alloc M5.out.os _) ⟨w5.heap.size,0,none⟩ 1 1 [.int .i64 1] rfl rfl ?c1 ?c2 ?c3 ?c4 ?c5 ?c6 (w5.heap.size+1) ?c7 ?_)
     case c1=>exact cell_one_new _ _ _
     case c2=>intro u hu;simp at hu;subst hu;rfl
     case c3=>omega
     case c4=>unfold maxLen;omega
     case c5=>omega
     case c6=>simp;omega
     case c7=>simp
     intro g cap w6 hown hgrow hat hlt;have HA:=Qh (Mi.app M5.out hrw hown hgrow hat);clear hown hgrow hat c52;have za1:w.heap.size<w6.heap.size:=HA.out.1.lt;have za2:w.heap.size+1<w6.heap.size:=HA.out.2.1.lt;have ca00:w6.cell? ⟨w.heap.size,0,none⟩=some (.int .i64 0):=HA.out.1.cell 0;have fa00:w6.frozen? ⟨w.heap.size,0,none⟩=false:=HA.out.1.frozen 0;have ca01:w6.cell? ⟨w.heap.size,1,none⟩=some (.int .i64 0):=HA.out.1.cell 1;have fa01:w6.frozen? ⟨w.heap.size,1,none⟩=false:=HA.out.1.frozen 1;have ca02:w6.cell? ⟨w.heap.size,2,none⟩=some (.slice none 0 0):=HA.out.1.cell 2;have fa02:w6.frozen? ⟨w.heap.size,2,none⟩=false:=HA.out.1.frozen 2;have ca10:w6.cell? ⟨w.heap.size+1,0,none⟩=some (.int .i64 r):=HA.out.2.1.cell 0;have fa10:w6.frozen? ⟨w.heap.size+1,0,none⟩=false:=HA.out.2.1.frozen 0;have ca11:w6.cell? ⟨w.heap.size+1,1,none⟩=some (.int .i64 c):=HA.out.2.1.cell 1;have fa11:w6.frozen? ⟨w.heap.size+1,1,none⟩=false:=HA.out.2.1.frozen 1;have ca12:w6.cell? ⟨w.heap.size+1,2,none⟩=some (.slice A j cp):=HA.out.2.1.cell 2;have fa12:w6.frozen? ⟨w.heap.size+1,2,none⟩=false:=HA.out.2.1.frozen 2;go_wp2
     exact bodyPost_ret (v:= .agg #[.int .i64 r,.int .i64 c,.slice (some ⟨g,0,none⟩) (j+1) cap]) (by simp[results,results121,go_sem,za1,za2,ca00,fa00,ca01,fa01,ca02,fa02,ca10,fa10,ca11,fa11,ca12,fa12,(by omega:¬w.heap.size=w.heap.size+1),(by omega:¬w.heap.size+1=w.heap.size)]) rfl (Mi.fin (HA.out.next hrw) hrw (by omega) (by omega))
    ·obtain⟨g,rfl,_,_⟩:=M5.out.os.pos (by omega)
     have M5D:=Qh M5.out.drew;have c52:w5.cell? ⟨w.heap.size+1,2,none⟩=some (.slice (some ⟨g,0,none⟩) j cp):=M5.out.kx;have z5:=M5.out.lt;have C5:Hid (∀ W:World,Rd W rb (P+8*j+1+1)->Calls prog 71 #[.pointer (some ⟨rb,0,none⟩),.int .i64 2] W (Pk W rb (P+8*j+1+1+1) 2)):=fun W h=>FE rb _ 2 W h (by omega)
     go_upto_region 8 with fail
     go_region_with (first
      | (go_at_call 71;(with_reducible refine(C5.out _ (M5.out.alloc _).drew.rd).mono ?_);rintro e w6 ⟨q,rfl,q0,q1,r',o'⟩;have q2:q<2:=(by omega);clear q1;obtain⟨x,hx,hxx⟩:=D_ (-1) 4096 q q0 q2;have M6:=Qh ((M5.out.alloc (.cells #[.int .i64 (-1),.int .i64 4096] 3)).drew.only hrw o' r');have c62:w6.cell? ⟨w.heap.size+1,2,none⟩=some (.slice (some ⟨g,0,none⟩) j cp):=M6.out.kx;have z6:=M6.out.lt;obtain⟨⟨y,cy⟩,fy,zy⟩:=M6.out.Fs hN1;have zb:w5.heap.size<w6.heap.size:=(by have:=o'.size;simp at this;omega);have cX:w6.cell? ⟨w5.heap.size,q.toNat,none⟩=some (.int .i64 x):=(o'.cell (by simp) (by simp;omega)).trans (FK w5 hx);clear hxx r' o')
      | (go_at_call 71;(with_reducible refine(C5.out _ M5D.out.rd).mono ?_);rintro e w6 ⟨q,rfl,q0,q1,r',o'⟩;have q2:q<2:=(by omega);clear q1;obtain⟨x,hx,hxx⟩:=D_ (-1) 4096 q q0 q2;have M6:=Qh (M5D.out.only hrw o' r');have c62:w6.cell? ⟨w.heap.size+1,2,none⟩=some (.slice (some ⟨g,0,none⟩) j cp):=M6.out.kx;have z6:=M6.out.lt;obtain⟨⟨y,cy⟩,fy,zy⟩:=M6.out.Fs hN1;have cX:=FK w6 hx;have hx2:=hx;obtain⟨_,hxe⟩:=List.getElem?_eq_some_iff.1 hx2;clear hxx r' o')
      | fail)
     all_goals
      first
      | (obtain⟨W8,hW⟩:∃ u,u=(w6.setCell ⟨g,0,none⟩ (.int .i64 x)).alloc (.cells #[.int .i64 (-1),.int .i64 4096] 3):=⟨_,rfl⟩;rw[<-hW];have M8:=Qh ((M6.out.EV hrw x).alloc (.cells #[.int .i64 (-1),.int .i64 4096] 3));rw[<-hW] at M8)
      | (obtain⟨W8,hW⟩:∃ u,u=(w6.setCell ⟨g,0,none⟩ (.int .i64 x)):=⟨_,rfl⟩;rw[<-hW];have M8:=Qh ((M6.out.EV hrw x));rw[<-hW] at M8)
      clear hW M6 c62 cy fy zy cX c52 z5 z6;have za1:w.heap.size<W8.heap.size:=by have:=M8.out.lt;omega
      have za2:w.heap.size+1<W8.heap.size:=M8.out.lt;have ca00:W8.cell? ⟨w.heap.size,0,none⟩=some (.int .i64 0):=M8.out.1.cell 0;have fa00:W8.frozen? ⟨w.heap.size,0,none⟩=false:=M8.out.1.frozen 0;have ca01:W8.cell? ⟨w.heap.size,1,none⟩=some (.int .i64 0):=M8.out.1.cell 1;have fa01:W8.frozen? ⟨w.heap.size,1,none⟩=false:=M8.out.1.frozen 1;have ca02:W8.cell? ⟨w.heap.size,2,none⟩=some (.slice none 0 0):=M8.out.1.cell 2;have fa02:W8.frozen? ⟨w.heap.size,2,none⟩=false:=M8.out.1.frozen 2;have ca10:W8.cell? ⟨w.heap.size+1,0,none⟩=some (.int .i64 r):=M8.out.2.1.cell 0;have fa10:W8.frozen? ⟨w.heap.size+1,0,none⟩=false:=M8.out.2.1.frozen 0;have ca11:W8.cell? ⟨w.heap.size+1,1,none⟩=some (.int .i64 c):=M8.out.2.1.cell 1;have fa11:W8.frozen? ⟨w.heap.size+1,1,none⟩=false:=M8.out.2.1.frozen 1;have ca12:W8.cell? ⟨w.heap.size+1,2,none⟩=some (.slice (some ⟨g,0,none⟩) j cp):=M8.out.2.1.cell 2;have fa12:W8.frozen? ⟨w.heap.size+1,2,none⟩=false:=M8.out.2.1.frozen 2;go_wp2
      exact bodyPost_ret (v:= .agg #[.int .i64 r,.int .i64 c,.slice (some ⟨g,0,none⟩) j cp]) (by simp[results,results121,go_sem,za1,za2,ca00,fa00,ca01,fa01,ca02,fa02,ca10,fa10,ca11,fa11,ca12,fa12,(by omega:¬w.heap.size=w.heap.size+1),(by omega:¬w.heap.size+1=w.heap.size)]) rfl (Mi.fin (M8.out) hrw (by omega) (by omega))
end
def bs (l:List UInt8):ByteArray:=⟨l.toArray⟩
theorem bN (a b:List UInt8):bs a++bs b=bs (a++b):=by
 show ByteArray.append _ _=_
 simp[bs,ByteArray.append,ByteArray.copySlice]
theorem aK (a:List UInt8):(bs a).size=a.length:=by simp[bs,ByteArray.size]
theorem fe (s:ByteArray):bs s.data.toList=s:=by cases s;rfl
theorem xD (a:List UInt8):(bs a).data.toList=a:=rfl
theorem gU {a b:List UInt8} (h:bs a=bs b):a=b:=by
 have:=congrArg (fun s=>s.data.toList) h
 simpa [bs] using this
theorem Cc (xs:List Int):strOfNums xs=bs (xs.map fun n=>UInt8.ofNat n.toNat):=rfl
theorem yt (d:Int):((strOfNums [d]).size:Int)<=8388608:=by rw[strOfNums_size];simp
theorem vH (W:World) (d:Int):(convert 22 9 (.slice (some ⟨W.heap.size,0,none⟩) 1 1)).run prog (W.alloc (.cells #[.int .u8 d] 5))= .ok (.string (strOfNums [d])) (W.alloc (.cells #[.int .u8 d] 5)):=by
 refine run_convert_bytes_arg (P:=prog) (W.alloc (.cells #[.int .u8 d] 5)) 22 5 underlying22 underlying5 W.heap.size 0 1 1 [d] rfl ?_ 9 underlying9;intro i hi;obtain rfl:i=0:=by omega
 exact(Blk.new W 5 #[.int .u8 d]).cell 0
theorem vQ {m:Int} (h0:0<=m) (h:m<=9):Lib.decDigits m.toNat=[UInt8.ofNat (48+m%10).toNat]:=by
 rw[Lib.decDigits,dif_pos (by omega)]
 congr 2
 omega
theorem Af {m:Int} (h:9<m):Lib.decDigits m.toNat=Lib.decDigits (m/10).toNat++[UInt8.ofNat (48+m%10).toNat]:=by
 rw[Lib.decDigits,dif_neg (by omega)]
 have e1:m.toNat/10=(m/10).toNat:=by omega
 have e2:48+m.toNat%10=(48+m%10).toNat:=by omega
 rw[e1,e2]
theorem e7 (u:Nat):1<=(Lib.decDigits u).length/\(Lib.decDigits u).length<=u+1:=by
 induction u using Nat.strongRecOn with
 | _ u ih =>
  rw[Lib.decDigits]
  split
  ·simp
  ·have:=ih (u/10) (by omega)
   simp only[List.length_append,List.length_cons,List.length_nil]
   omega
def dec (n:Int):List UInt8:=Lib.decDigits n.toNat
def Dd (n m:Int) (s:ByteArray):Prop:=∃ r,s=bs (UInt8.ofNat (48+m%10).toNat::r)/\Lib.decDigits n.toNat=Lib.decDigits m.toNat++r
theorem Dd.start (n:Int):Dd n n (strOfNums [48+n%10]):=⟨[],rfl,by simp⟩
theorem Dd.step {n m:Int} {s:ByteArray} (h:Dd n m s) (hm:9<m):Dd n (m/10) (strOfNums [48+m/10%10]++s):=by
 obtain⟨r,rfl,h2⟩:=h;refine⟨UInt8.ofNat (48+m%10).toNat::r,?_,?_⟩
 ·rw[Cc,bN];rfl
 ·rw[h2,Af hm,List.append_assoc];rfl
theorem Dd.fin {n m:Int} {s:ByteArray} (h:Dd n m s) (h0:0<=m) (hm:m<=9):s=bs (Lib.decDigits n.toNat):=by
 obtain⟨r,rfl,h2⟩:=h;rw[h2,vQ h0 hm]
 rfl
theorem Dd.size {n m:Int} {s:ByteArray} (h:Dd n m s) (hn:n<=1000000):(s.size:Int)<=8388608:=by
 obtain⟨r,rfl,h2⟩:=h;have h3:=e7 n.toNat;rw[h2,List.length_append] at h3;have h4:=e7 m.toNat;rw[aK,List.length_cons]
 omega
theorem Be {s:ByteArray} (h:(s.size:Int)<=8388608) (d:Int):(9223372036854775807<(strOfNums [d]).size+s.size)=False:=by
 rw[strOfNums_size];simp only[List.length_cons,List.length_nil,eq_iff_iff,iff_false]
 omega
theorem bT {a b:ByteArray} (h:a=b):Ending.returned (.string a)= .returned (.string b):=by rw[h]
theorem eO (n:Int) (h0:0<=n) (h1:n<=1000000) (w:World):Calls prog 101 #[.int .i64 n] w fun e w'=>e= .returned (.string (bs (Lib.decDigits n.toNat)))/\Below w.heap.size w w':=by
 have kc:=vH;have ks:=yt
 go_enter func101,ntmps101
 go_wp2
 go_loopw [0,3] (fun q o wr=>∃ (m:Int) (s:ByteArray),q= .int .i64 m/\o= .string s/\0<=m/\m<=n/\Hid (Dd n m s)/\Hid (Below w.heap.size w wr)) (fun q _ _=>(intOf q).toNat)
 case atStart=>exact⟨n,_,rfl,rfl,h0,Int.le_refl _,Dd.start n,Qb.alloc Ql _⟩
 case round =>
  obtain⟨m,s,rfl,rfl,m0,m1,hd,hb⟩:=hrel;have hsz:=hd.out.size h1
  by_cases hm:9<m
  ·have hss:=Be hsz;clear hsz;go_wp2
   go_roundw
   case rel=>exact⟨m/10,_,rfl,rfl,by omega,by omega,hd.out.step hm,hb.out.alloc hb.out.size _⟩
   case measure=>simp[intOf];omega
  ·have HF:=Qh (hd.out.fin m0 (by omega))
   clear hd;go_wp2
   go_ret
   exact⟨bT HF.out,hb.out⟩
section
def VO (w:World) (base:Nat) (T:TypeId) (s:Nat) (A:Option Addr) (n cap:Nat) (vs:List Value):Prop:=w.ownsRow base T s (.slice A n cap) n vs
section
variable {w w':World} {base n cap s:Nat} {A:Option Addr} {vs:List Value} {T:TypeId}
theorem VO.len (h:VO w base T s A n cap vs):vs.length=n*s:=h.1
theorem VO.dC (h:VO w base T s A n cap vs):n<=cap/\cap<=maxLen:=by
 rcases h.2 with⟨e,e'⟩|⟨g,c,cur,e,_,_,h1,h2,_⟩
 ·injection e with e1 e2 e3;subst e3;subst e';exact⟨Nat.le_refl _,by unfold maxLen;omega⟩
 ·injection e with e1 e2 e3;subst e3;exact⟨h1,h2⟩
theorem VO.pos (h:VO w base T s A n cap vs) (hn:0<n):∃ g,A=some ⟨g,0,none⟩/\base<=g/\g<w.heap.size:=by
 rcases h.2 with⟨e,e'⟩|⟨g,c,cur,e,hb,hh,_⟩
 ·omega
 ·injection e with e1
  exact⟨g,e1,hb,(Array.getElem?_eq_some_iff.1 hh).1⟩
theorem VO.aj (h:VO w base T s A n cap vs):∀ g,blk A=some g->base<=g/\g<w.heap.size:=fun g hg=>h.lt g (by rw[aO];exact hg)
theorem VO.frozen {g:Nat} (h:VO w base T s (some ⟨g,0,none⟩) n cap vs) (j:Nat):w.frozen? ⟨g,j,none⟩=false:=World.ownsRow.frozenAt h j
theorem VO.cell {g:Nat} (h:VO w base T s (some ⟨g,0,none⟩) n cap vs) (j:Nat) (hj:j<n*s):w.cell? ⟨g,j,none⟩=vs[j]?:=World.ownsRow.cellAt h j hj
theorem VO.au (h:VO w base T s A n cap vs) (hs:w.heap.size<=w'.heap.size) (hk:∀ g,blk A=some g->g<w.heap.size->w'.heap[g]?=w.heap[g]?):VO w' base T s A n cap vs:=by
 refine⟨h.1,?_⟩;rcases h.2 with hn|⟨g,c,cur,e,hb,hh,rest⟩
 ·exact .inl hn
 ·refine .inr ⟨g,c,cur,e,hb,?_,rest⟩;rw[hk g (by injection e with e1;rw[e1];rfl) (Array.getElem?_eq_some_iff.1 hh).1]
  exact hh
theorem VO.below (h:VO w base T s A n cap vs) (hb:Below w.heap.size w w'):VO w' base T s A n cap vs:=h.au hb.size fun g _ hg=>hb.block g hg
theorem VO.alloc (h:VO w base T s A n cap vs) (o:Obj):VO (w.alloc o) base T s A n cap vs:=h.au (by simp) fun g _ hg=>Below.heap_alloc w o g hg
theorem VO.drewN (h:VO w base T s A n cap vs) (k:Nat):VO (w.drewN k) base T s A n cap vs:=h
theorem VO.bR {B:Option Addr} (h:VO w base T s A n cap vs) (ho:bJ B w w') (ha:eJ A B):VO w' base T s A n cap vs :=
 h.au ho.size fun g hg hl=>ho.block g hl (fun e=>ha g hg e.symm)
theorem VO.only {rb:Nat} (h:VO w base T s A n cap vs) (ho:aZ rb w w') (hr:rb<base):VO w' base T s A n cap vs:=h.au ho.size fun g hg hl=>ho.block g hl (fun e=>by injection e;have:=(h.aj g hg).1;omega)
theorem VO.far {p:Addr} (h:VO w base T s A n cap vs) (hp:blk A≠some p.block) (u:Value):VO (w.setCell p u) base T s A n cap vs :=
 h.au (by simp[World.setCell]) fun g hg _=>Below.heap_setCell w p u g (fun e=>hp (by rw[hg,e]))
theorem VO.lX {p:Addr} (h:VO w base T s A n cap vs) (hp:p.block<base) (u:Value):VO (w.setCell p u) base T s A n cap vs:=h.far (fun e=>by have:=(h.aj _ e).1;omega) u
theorem VO.nil (w:World) (base:Nat) (T:TypeId) (s:Nat):VO w base T s none 0 0 []:=World.ownsRow_nil w base _ _
theorem VO.kG (w:World) {base:Nat} (hb:base<=w.heap.size) (T:TypeId) (s:Nat):VO (w.alloc (.cells #[] T)) base T s (some ⟨w.heap.size,0,none⟩) 0 0 [] :=
 ⟨by simp,.inr ⟨w.heap.size,0,_,rfl,hb,Blk.new w T #[],Nat.le_refl _,by unfold maxLen;omega,by simp,by simp⟩⟩
theorem VO.mono {base':Nat} (h:VO w base T s A n cap vs) (hb:base'<=base):VO w base' T s A n cap vs:=by
 refine⟨h.1,?_⟩;rcases h.2 with hn|⟨g,c,cur,e,hg,rest⟩
 ·exact .inl hn
 ·exact .inr ⟨g,c,cur,e,by omega,rest⟩
theorem VO.store {g:Nat} (h:VO w base T s (some ⟨g,0,none⟩) n cap vs) (j:Nat) (x:Value):VO (w.setCell ⟨g,j,none⟩ x) base T s (some ⟨g,0,none⟩) n cap (vs.set j x):=(World.ownsRow.stored h j x).1
theorem VO.push {B k c g cap' m:Nat} {wr w1:World} {ys:List Value} {o:Obj} (h:VO wr base T s A k c vs) (hb:Below B w wr) (hB:B<=base) (hbs:base<=wr.heap.size)
  (hown:w1.ownsRow base T s (.slice (some ⟨g,0,none⟩) m cap') m (vs++ys)) (hg:(wr.alloc o).grownBy w1 (Value.slice A k c).ownBlock)
  (hat:(Value.slice A k c).ownBlock=some g\/g=wr.heap.size+1) :
  VO w1 base T s (some ⟨g,0,none⟩) m cap' (vs++ys)/\Below B w w1/\bJ A wr w1/\(blk A=some g\/wr.heap.size<=g):=by
 rw[aO] at hg hat;refine⟨hown,(hb.alloc (by omega) o).grown hg (by simp;omega) (fun g hg'=>Nat.le_trans hB (h.aj g hg').1),⟨hg.os,hg.tape,hg.output,by have:=hg.size;simp at this;omega,fun i hi hne=>(hg.block i (by simp;omega) hne).trans (Below.heap_alloc wr o i hi)⟩,?_⟩
 rcases hat with h|h
 ·exact .inl h
 ·exact .inr (by omega)
end
theorem VO.gu {w:World} {base n c s h:Nat} {A:Option Addr} {vs:List Value} {T t:TypeId} {cs:Array Value} (ho:VO w base T s A n c vs) (hb:Blk w h t cs) (hne:T≠t):blk A≠some h:=by
 intro e;rcases ho.2 with⟨e1,_⟩|⟨g2,cap,cur,e1,_,hh,_⟩
 ·injection e1 with e1;subst e1;cases e
 ·injection e1 with e1;subst e1;injection e with e
  dsimp only at e
  subst e;unfold Blk at hb;rw[hb] at hh;injection hh with hh;injection hh with _ hh
  exact hne hh.symm
theorem Blk.BW {w w':World} {base n c s g:Nat} {A:Option Addr} {vs:List Value} {T t:TypeId} {cs:Array Value} (h:Blk w g t cs) (ho:bJ A w w') (hv:VO w base T s A n c vs) (hne:T≠t):Blk w' g t cs :=
 (ho.block g h.lt (fun e=>hv.gu h hne e.symm)).trans h
theorem fk (w:World) (T:TypeId) (x:Value):∀ j u,[x][j]?=some u->(w.alloc (.cells #[x] T)).cell? ((⟨w.heap.size,0,none⟩:Addr).add j)=some u:=by
 intro j u hu;have hj:j=0:=by
  rcases Nat.lt_or_ge j 1 with h|h
  ·omega
  ·rw[List.getElem?_eq_none (by simpa using h)] at hu;cases hu
 subst hj;have hadd:(⟨w.heap.size,0,none⟩:Addr).add 0=⟨w.heap.size,0,none⟩:=by unfold Addr.add;split <;> simp_all
 rw[hadd]
 exact((Blk.new w T #[x]).cell 0).trans (by simpa using hu)
theorem dz (w:World) (T:TypeId) (xs:List Value):∀ j u,xs[j]?=some u->(w.alloc (.cells xs.toArray T)).cell? ((⟨w.heap.size,0,none⟩:Addr).add j)=some u:=by
 intro j u hu;have hadd:(⟨w.heap.size,0,none⟩:Addr).add j=⟨w.heap.size,j,none⟩:=by unfold Addr.add;split <;> simp_all
 rw[hadd]
 exact((Blk.new w T xs.toArray).cell j).trans (by simpa using hu)
end
end Go.Proofs.YtjciicheoghcdaaGreatDoor

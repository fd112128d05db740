/- Part of the proof of FnServiceAnswer. -/
import Derived.Deep.AppendLies
import Derived.Test.YtjciicheoghcdaaGreatDoorUb
import Derived.Test.YtjciicheoghcdaaGreatDoorUd
namespace Go.Proofs.YtjciicheoghcdaaGreatDoor
open Go.RowKit Go.Proofs.Tryz
set_option linter.all false
set_option maxRecDepth 20000
set_option maxHeartbeats 16000000
section
def VO (w:World) (base:Nat) (T:TypeId) (s:Nat) (A:Option Addr) (n cap:Nat) (vs:List Value):Prop:=w.ownsRow base T s (.slice A n cap) n vs
section
variable {w w':World} {base n cap s:Nat} {A:Option Addr} {vs:List Value} {T:TypeId}
theorem VO.len (h:VO w base T s A n cap vs):vs.length=n*s:=h.1
theorem VO.dC (h:VO w base T s A n cap vs):n<=cap/\cap<=maxLen:=by
 rcases h.2 with⟨e,e'⟩|⟨g,c,cur,e,_,_,h1,h2,_⟩
 ·injection e with e1 e2 e3;subst e3;subst e';exact⟨Nat.le_refl _,by unfold maxLen;omega⟩
 ·injection e with e1 e2 e3;subst e3;exact⟨h1,h2⟩
theorem VO.pos (h:VO w base T s A n cap vs) (hn:0<n):∃ g,A=some ⟨g,0,none⟩/\base<=g/\g<w.heap.size:=by
 rcases h.2 with⟨e,e'⟩|⟨g,c,cur,e,hb,hh,_⟩
 ·omega
 ·injection e with e1
  exact⟨g,e1,hb,(Array.getElem?_eq_some_iff.1 hh).1⟩
theorem VO.aj (h:VO w base T s A n cap vs):∀ g,blk A=some g->base<=g/\g<w.heap.size:=fun g hg=>h.lt g (by rw[aO];exact hg)
theorem VO.frozen {g:Nat} (h:VO w base T s (some ⟨g,0,none⟩) n cap vs) (j:Nat):w.frozen? ⟨g,j,none⟩=false:=World.ownsRow.frozenAt h j
theorem VO.cell {g:Nat} (h:VO w base T s (some ⟨g,0,none⟩) n cap vs) (j:Nat) (hj:j<n*s):w.cell? ⟨g,j,none⟩=vs[j]?:=World.ownsRow.cellAt h j hj
theorem VO.au (h:VO w base T s A n cap vs) (hs:w.heap.size<=w'.heap.size) (hk:∀ g,blk A=some g->g<w.heap.size->w'.heap[g]?=w.heap[g]?):VO w' base T s A n cap vs:=by
 refine⟨h.1,?_⟩;rcases h.2 with hn|⟨g,c,cur,e,hb,hh,rest⟩
 ·exact .inl hn
 ·refine .inr ⟨g,c,cur,e,hb,?_,rest⟩;rw[hk g (by injection e with e1;rw[e1];rfl) (Array.getElem?_eq_some_iff.1 hh).1]
  exact hh
theorem VO.below (h:VO w base T s A n cap vs) (hb:Below w.heap.size w w'):VO w' base T s A n cap vs:=h.au hb.size fun g _ hg=>hb.block g hg
theorem VO.alloc (h:VO w base T s A n cap vs) (o:Obj):VO (w.alloc o) base T s A n cap vs:=h.au (by simp) fun g _ hg=>Below.heap_alloc w o g hg
theorem VO.drewN (h:VO w base T s A n cap vs) (k:Nat):VO (w.drewN k) base T s A n cap vs:=h
theorem VO.bR {B:Option Addr} (h:VO w base T s A n cap vs) (ho:bJ B w w') (ha:eJ A B):VO w' base T s A n cap vs :=
 h.au ho.size fun g hg hl=>ho.block g hl (fun e=>ha g hg e.symm)
theorem VO.only {rb:Nat} (h:VO w base T s A n cap vs) (ho:aZ rb w w') (hr:rb<base):VO w' base T s A n cap vs:=h.au ho.size fun g hg hl=>ho.block g hl (fun e=>by injection e;have:=(h.aj g hg).1;omega)
theorem VO.far {p:Addr} (h:VO w base T s A n cap vs) (hp:blk A≠some p.block) (u:Value):VO (w.setCell p u) base T s A n cap vs :=
 h.au (by simp[World.setCell]) fun g hg _=>Below.heap_setCell w p u g (fun e=>hp (by rw[hg,e]))
theorem VO.lX {p:Addr} (h:VO w base T s A n cap vs) (hp:p.block<base) (u:Value):VO (w.setCell p u) base T s A n cap vs:=h.far (fun e=>by have:=(h.aj _ e).1;omega) u
theorem VO.nil (w:World) (base:Nat) (T:TypeId) (s:Nat):VO w base T s none 0 0 []:=World.ownsRow_nil w base _ _
theorem VO.kG (w:World) {base:Nat} (hb:base<=w.heap.size) (T:TypeId) (s:Nat):VO (w.alloc (.cells #[] T)) base T s (some ⟨w.heap.size,0,none⟩) 0 0 [] :=
 ⟨by simp,.inr ⟨w.heap.size,0,_,rfl,hb,Blk.new w T #[],Nat.le_refl _,by unfold maxLen;omega,by simp,by simp⟩⟩
theorem VO.mono {base':Nat} (h:VO w base T s A n cap vs) (hb:base'<=base):VO w base' T s A n cap vs:=by
 refine⟨h.1,?_⟩;rcases h.2 with hn|⟨g,c,cur,e,hg,rest⟩
 ·exact .inl hn
 ·exact .inr ⟨g,c,cur,e,by omega,rest⟩
theorem VO.store {g:Nat} (h:VO w base T s (some ⟨g,0,none⟩) n cap vs) (j:Nat) (x:Value):VO (w.setCell ⟨g,j,none⟩ x) base T s (some ⟨g,0,none⟩) n cap (vs.set j x):=(World.ownsRow.stored h j x).1
theorem VO.push {B k c g cap' m:Nat} {wr w1:World} {ys:List Value} {o:Obj} (h:VO wr base T s A k c vs) (hb:Below B w wr) (hB:B<=base) (hbs:base<=wr.heap.size)
  (hown:w1.ownsRow base T s (.slice (some ⟨g,0,none⟩) m cap') m (vs++ys)) (hg:(wr.alloc o).grownBy w1 (Value.slice A k c).ownBlock)
  (hat:(Value.slice A k c).ownBlock=some g\/g=wr.heap.size+1) :
  VO w1 base T s (some ⟨g,0,none⟩) m cap' (vs++ys)/\Below B w w1/\bJ A wr w1/\(blk A=some g\/wr.heap.size<=g):=by
 rw[aO] at hg hat;refine⟨hown,(hb.alloc (by omega) o).grown hg (by simp;omega) (fun g hg'=>Nat.le_trans hB (h.aj g hg').1),⟨hg.os,hg.tape,hg.output,by have:=hg.size;simp at this;omega,fun i hi hne=>(hg.block i (by simp;omega) hne).trans (Below.heap_alloc wr o i hi)⟩,?_⟩
 rcases hat with h|h
 ·exact .inl h
 ·exact .inr (by omega)
end
theorem VO.gu {w:World} {base n c s h:Nat} {A:Option Addr} {vs:List Value} {T t:TypeId} {cs:Array Value} (ho:VO w base T s A n c vs) (hb:Blk w h t cs) (hne:T≠t):blk A≠some h:=by
 intro e;rcases ho.2 with⟨e1,_⟩|⟨g2,cap,cur,e1,_,hh,_⟩
 ·injection e1 with e1;subst e1;cases e
 ·injection e1 with e1;subst e1;injection e with e
  dsimp only at e
  subst e;unfold Blk at hb;rw[hb] at hh;injection hh with hh;injection hh with _ hh
  exact hne hh.symm
theorem Blk.BW {w w':World} {base n c s g:Nat} {A:Option Addr} {vs:List Value} {T t:TypeId} {cs:Array Value} (h:Blk w g t cs) (ho:bJ A w w') (hv:VO w base T s A n c vs) (hne:T≠t):Blk w' g t cs :=
 (ho.block g h.lt (fun e=>hv.gu h hne e.symm)).trans h
theorem fk (w:World) (T:TypeId) (x:Value):∀ j u,[x][j]?=some u->(w.alloc (.cells #[x] T)).cell? ((⟨w.heap.size,0,none⟩:Addr).add j)=some u:=by
 intro j u hu;have hj:j=0:=by
  rcases Nat.lt_or_ge j 1 with h|h
  ·omega
  ·rw[List.getElem?_eq_none (by simpa using h)] at hu;cases hu
 subst hj;have hadd:(⟨w.heap.size,0,none⟩:Addr).add 0=⟨w.heap.size,0,none⟩:=by unfold Addr.add;split <;> simp_all
 rw[hadd]
 exact((Blk.new w T #[x]).cell 0).trans (by simpa using hu)
theorem dz (w:World) (T:TypeId) (xs:List Value):∀ j u,xs[j]?=some u->(w.alloc (.cells xs.toArray T)).cell? ((⟨w.heap.size,0,none⟩:Addr).add j)=some u:=by
 intro j u hu;have hadd:(⟨w.heap.size,0,none⟩:Addr).add j=⟨w.heap.size,j,none⟩:=by unfold Addr.add;split <;> simp_all
 rw[hadd]
 exact((Blk.new w T xs.toArray).cell j).trans (by simpa using hu)
end
structure Mx where
 r:Int
 c:Int
 v:List Int
def Mx.z:Mx:=⟨0,0,[]⟩
def side (n:Int):Bool:=decide (1<=n/\n<=5)
def mvB (m:Mx):Bool:=side m.r && (side m.c && (decide ((m.v.length:Int)=m.r*m.c) && m.v.all rv))
@[reducible] def MV (r c:Int) (A:Option Addr) (n cap:Nat):Value:= .agg #[.int .i64 r,.int .i64 c,.slice A n cap]
theorem bI {n:Int} (h:side n=true):1<=n/\n<=5:=of_decide_eq_true h
theorem e6 {r c:Int} (h1:side r=true) (h2:side c=true):1<=r*c/\r*c<=25:=by
 obtain⟨a,b⟩:=bI h1;obtain⟨d,e⟩:=bI h2;have h3:r*c<=5*5:=Int.mul_le_mul b e (by omega) (by omega)
 have h4:1*1<=r*c:=Int.mul_le_mul a d (by omega) (by omega)
 omega
theorem dt (n:Int) (w:World):Calls prog 106 #[.int .i64 n] w fun e w'=>e= .returned (.bool (side n))/\w=w':=by
 by_cases h1:1<=n
 ·by_cases h2:n<=5
  ·have e:side n=true:=decide_eq_true ⟨h1,h2⟩;rw[e];clear e
   go_enter func106,ntmps106
   go_wp2
   go_ret
   exact⟨rfl,rfl⟩
  ·have e:side n=false:=decide_eq_false (fun h=>h2 h.2)
   rw[e];clear e
   go_enter func106,ntmps106
   go_wp2
   go_ret
   exact⟨rfl,rfl⟩
 ·have e:side n=false:=decide_eq_false (fun h=>h1 h.1)
  rw[e];clear e
  go_enter func106,ntmps106
  go_wp2
  go_ret
  exact⟨rfl,rfl⟩
theorem aw (r c:Int) (v:List Int) (A:Option Addr) (n cap:Nat) (w:World) (hx0:SI w A n v) (bn:n<=281474976710656) :
  Calls prog 57 #[MV r c A n cap] w fun e w'=>e= .returned (.bool (mvB ⟨r,c,v⟩))/\Below w.heap.size w w':=by
 have hlen:=hx0.1;have hx:=Qh hx0;clear hx0
 cases h1:side r
 ·have e:mvB ⟨r,c,v⟩=false:=by simp[mvB,h1]
  rw[e];clear e hlen
  go_enter func57,ntmps57
  go_wp2_with fail
  obtain⟨u1,hu1⟩:∃ u,u=(w.alloc (.cells #[.int .i64 r,.int .i64 c,.slice A n cap] 37)):=⟨_,rfl⟩;rw[<-hu1];have hzu1:u1.heap.size<=w.heap.size+1:=by rw[hu1];simp
  have hyu1:w.heap.size+1<=u1.heap.size:=by rw[hu1];simp
  have B1_1:Blk u1 (w.heap.size) 37 #[.int .i64 r,.int .i64 c,.slice A n cap]:=by rw[hu1];have h:=(Blk.new w 37 #[.int .i64 r,.int .i64 c,.slice A n cap]);simpa using h
  have xb1:w.heap.size<=w.heap.size:=by omega
  have O1:Below w.heap.size w u1:=by rw[hu1];exact((Below.refl w.heap.size w).alloc (by first|omega|(simp;done)|(simp;omega)) _)
  have m1:w.heap.size<=u1.heap.size:=by omega
  clear hu1;refine Qc (dt r u1) ?_;have z1_1:w.heap.size<u1.heap.size:=B1_1.lt;have c1_1_0:u1.cell? ⟨w.heap.size,0,none⟩=some (.int .i64 r):=B1_1.cell 0;have f1_1_0:u1.frozen? ⟨w.heap.size,0,none⟩=false:=B1_1.frozen 0;have c1_1_1:u1.cell? ⟨w.heap.size,1,none⟩=some (.int .i64 c):=B1_1.cell 1;have f1_1_1:u1.frozen? ⟨w.heap.size,1,none⟩=false:=B1_1.frozen 1;have c1_1_2:u1.cell? ⟨w.heap.size,2,none⟩=some (.slice A n cap):=B1_1.cell 2;have f1_1_2:u1.frozen? ⟨w.heap.size,2,none⟩=false:=B1_1.frozen 2;go_wp2
  go_ret
  exact⟨rfl,O1⟩
 cases h2:side c
 ·have e:mvB ⟨r,c,v⟩=false:=by simp[mvB,h2]
  rw[e];clear e hlen
  go_enter func57,ntmps57
  go_wp2_with fail
  obtain⟨u1,hu1⟩:∃ u,u=(w.alloc (.cells #[.int .i64 r,.int .i64 c,.slice A n cap] 37)):=⟨_,rfl⟩;rw[<-hu1];have hzu1:u1.heap.size<=w.heap.size+1:=by rw[hu1];simp
  have hyu1:w.heap.size+1<=u1.heap.size:=by rw[hu1];simp
  have B1_1:Blk u1 (w.heap.size) 37 #[.int .i64 r,.int .i64 c,.slice A n cap]:=by rw[hu1];have h:=(Blk.new w 37 #[.int .i64 r,.int .i64 c,.slice A n cap]);simpa using h
  have xb1:w.heap.size<=w.heap.size:=by omega
  have O1:Below w.heap.size w u1:=by rw[hu1];exact((Below.refl w.heap.size w).alloc (by first|omega|(simp;done)|(simp;omega)) _)
  have m1:w.heap.size<=u1.heap.size:=by omega
  clear hu1;refine Qc (dt r u1) ?_;have z1_1:w.heap.size<u1.heap.size:=B1_1.lt;have c1_1_0:u1.cell? ⟨w.heap.size,0,none⟩=some (.int .i64 r):=B1_1.cell 0;have f1_1_0:u1.frozen? ⟨w.heap.size,0,none⟩=false:=B1_1.frozen 0;have c1_1_1:u1.cell? ⟨w.heap.size,1,none⟩=some (.int .i64 c):=B1_1.cell 1;have f1_1_1:u1.frozen? ⟨w.heap.size,1,none⟩=false:=B1_1.frozen 1;have c1_1_2:u1.cell? ⟨w.heap.size,2,none⟩=some (.slice A n cap):=B1_1.cell 2;have f1_1_2:u1.frozen? ⟨w.heap.size,2,none⟩=false:=B1_1.frozen 2
  go_wp2_with fail
  refine Qc (dt c u1) ?_;go_wp2
  go_ret
  exact⟨rfl,O1⟩
 obtain⟨m1,m2⟩:=e6 h1 h2;have q1:=IntWalk.i64_in (r*c) (by omega)
 by_cases hl:(n:Int)=r*c
 ·have e:mvB ⟨r,c,v⟩=v.all rv:=by simp[mvB,h1,h2,hlen,hl]
  rw[e];have hlb:((n:Int) == r*c)=true:=by simp[hl]
  clear e hlen hl
  cases ha:v.all rv
  all_goals
   go_enter func57,ntmps57
   go_wp2_with fail
   obtain⟨u1,hu1⟩:∃ u,u=(w.alloc (.cells #[.int .i64 r,.int .i64 c,.slice A n cap] 37)):=⟨_,rfl⟩;rw[<-hu1];have hzu1:u1.heap.size<=w.heap.size+1:=by rw[hu1];simp
   have hyu1:w.heap.size+1<=u1.heap.size:=by rw[hu1];simp
   have B1_1:Blk u1 (w.heap.size) 37 #[.int .i64 r,.int .i64 c,.slice A n cap]:=by rw[hu1];have h:=(Blk.new w 37 #[.int .i64 r,.int .i64 c,.slice A n cap]);simpa using h
   have xb1:w.heap.size<=w.heap.size:=by omega
   have O1:Below w.heap.size w u1:=by rw[hu1];exact((Below.refl w.heap.size w).alloc (by first|omega|(simp;done)|(simp;omega)) _)
   have m1:w.heap.size<=u1.heap.size:=by omega
   clear hu1;refine Qc (dt r u1) ?_;have z1_1:w.heap.size<u1.heap.size:=B1_1.lt;have c1_1_0:u1.cell? ⟨w.heap.size,0,none⟩=some (.int .i64 r):=B1_1.cell 0;have f1_1_0:u1.frozen? ⟨w.heap.size,0,none⟩=false:=B1_1.frozen 0;have c1_1_1:u1.cell? ⟨w.heap.size,1,none⟩=some (.int .i64 c):=B1_1.cell 1;have f1_1_1:u1.frozen? ⟨w.heap.size,1,none⟩=false:=B1_1.frozen 1;have c1_1_2:u1.cell? ⟨w.heap.size,2,none⟩=some (.slice A n cap):=B1_1.cell 2;have f1_1_2:u1.frozen? ⟨w.heap.size,2,none⟩=false:=B1_1.frozen 2
   go_wp2_with fail
   refine Qc (dt c u1) ?_
   go_wp2_with fail
   refine Qc (iY A n cap v u1 (SI.below hx.out O1) (by omega)) ?_;go_wp2
   go_ret
   exact⟨rfl,O1⟩
 ·have e:mvB ⟨r,c,v⟩=false:=by simp[mvB,hlen,hl]
  rw[e];have hlb:((n:Int) == r*c)=false:=by simp[hl]
  clear e hlen hl
  go_enter func57,ntmps57
  go_wp2_with fail
  obtain⟨u1,hu1⟩:∃ u,u=(w.alloc (.cells #[.int .i64 r,.int .i64 c,.slice A n cap] 37)):=⟨_,rfl⟩;rw[<-hu1];have hzu1:u1.heap.size<=w.heap.size+1:=by rw[hu1];simp
  have hyu1:w.heap.size+1<=u1.heap.size:=by rw[hu1];simp
  have B1_1:Blk u1 (w.heap.size) 37 #[.int .i64 r,.int .i64 c,.slice A n cap]:=by rw[hu1];have h:=(Blk.new w 37 #[.int .i64 r,.int .i64 c,.slice A n cap]);simpa using h
  have xb1:w.heap.size<=w.heap.size:=by omega
  have O1:Below w.heap.size w u1:=by rw[hu1];exact((Below.refl w.heap.size w).alloc (by first|omega|(simp;done)|(simp;omega)) _)
  have m1:w.heap.size<=u1.heap.size:=by omega
  clear hu1;refine Qc (dt r u1) ?_;have z1_1:w.heap.size<u1.heap.size:=B1_1.lt;have c1_1_0:u1.cell? ⟨w.heap.size,0,none⟩=some (.int .i64 r):=B1_1.cell 0;have f1_1_0:u1.frozen? ⟨w.heap.size,0,none⟩=false:=B1_1.frozen 0;have c1_1_1:u1.cell? ⟨w.heap.size,1,none⟩=some (.int .i64 c):=B1_1.cell 1;have f1_1_1:u1.frozen? ⟨w.heap.size,1,none⟩=false:=B1_1.frozen 1;have c1_1_2:u1.cell? ⟨w.heap.size,2,none⟩=some (.slice A n cap):=B1_1.cell 2;have f1_1_2:u1.frozen? ⟨w.heap.size,2,none⟩=false:=B1_1.frozen 2
  go_wp2_with fail
  refine Qc (dt c u1) ?_;go_wp2
  go_ret
  exact⟨rfl,O1⟩
theorem aT (x:Int) {b:Bool} (h:side x=b) (w:World):Calls prog 53 #[.int .i64 x,.int .i64 1,.int .i64 5] w fun e w'=>e= .returned (.bool b)/\w=w':=by
 subst h
 exact lL x 1 5 w
theorem yd {r c:Int} {v:List Int} (h:v.length=0) (m:1<=r*c):mvB ⟨r,c,v⟩=false:=by
 have:¬(0:Int)=r*c:=by omega
 simp[mvB,h,this]
theorem AE {r c:Int} {v:List Int} (h:v.all rv=false):mvB ⟨r,c,v⟩=false:=by simp[mvB,h]
theorem aM (r c:Int) (v:List Int) (A:Option Addr) (n cap:Nat) (w:World) (hx0:SI w A n v) (bn:n<=281474976710656) :
  Calls prog 89 #[MV r c A n cap] w fun e w'=>e= .returned (.bool (mvB ⟨r,c,v⟩))/\Below w.heap.size w w':=by
 obtain⟨u1,hu1⟩:∃ u,u=w.alloc (.cells #[.int .i64 r,.int .i64 c,.slice A n cap] 37):=⟨_,rfl⟩;have B1:Blk u1 w.heap.size 37 #[.int .i64 r,.int .i64 c,.slice A n cap]:=by rw[hu1];exact Blk.new w _ _
 have HO1:Hid (Below w.heap.size w u1):=by rw[hu1];exact Qb.alloc Ql _
 have HX:Hid (SI u1 A n v):=SI.below hx0 (by rw[hu1];exact Qb.alloc Ql _)
 have HLN:=Qh hx0.1;have c0:u1.cell? ⟨w.heap.size,0,none⟩=some (.int .i64 r):=B1.cell 0;have c1:u1.cell? ⟨w.heap.size,1,none⟩=some (.int .i64 c):=B1.cell 1;have c2:u1.cell? ⟨w.heap.size,2,none⟩=some (.slice A n cap):=B1.cell 2;clear hx0 B1
 by_cases h0:n=0
 ·subst h0;have HALL:Hid (v.all rv=true):=by rw[List.eq_nil_of_length_eq_zero HLN.out];rfl
  go_enter func89,ntmps89
  go_wp2;rw[<-hu1];clear hu1;refine wp_loop_rounds 1 ?_;rw[rounds_succ]
  cases h1:side r
  ·have e:mvB ⟨r,c,v⟩=false:=by simp[mvB,h1]
   have HE:=Qh e;clear e
   go_wp2_with fail
   refine Qc (aT r h1 u1) ?_;go_wp2
   go_ret
   exact⟨dn HE.out.symm,HO1.out⟩
  cases h2:side c
  ·have e:mvB ⟨r,c,v⟩=false:=by simp[mvB,h2]
   have HE:=Qh e;clear e
   go_wp2_with fail
   refine Qc (aT r h1 u1) ?_
   go_wp2_with fail
   refine Qc (aT c h2 u1) ?_;go_wp2
   go_ret
   exact⟨dn HE.out.symm,HO1.out⟩
  obtain⟨m1,m2⟩:=e6 h1 h2;have q1:=IntWalk.i64_in (r*c) (by omega)
  have e:mvB ⟨r,c,v⟩=false:=yd HLN.out m1;have HE:=Qh e;have hlb:((0:Int) == r*c)=false:=by simp;omega
  clear e
  go_wp2_with fail
  refine Qc (aT r h1 u1) ?_
  go_wp2_with fail
  refine Qc (aT c h2 u1) ?_;go_wp2
  go_ret
  exact⟨dn HE.out.symm,HO1.out⟩
 obtain⟨b,off,rfl,hb,hc⟩:=HX.out.2 (by omega)
 have HC:=Qh hc;clear hc HX
 go_enter func89,ntmps89
 go_wp2;rw[<-hu1];clear hu1
 go_loop [3] (fun i=>∃ k:Nat,k<=n/\i= .int .i64 k/\Hid ((v.take k).all rv=true)) (fun i=>n-(intOf i).toNat)
 case atStart=>exact⟨0,Nat.zero_le _,rfl,by simp[Hid]⟩
 case round =>
  obtain⟨k,hk,rfl,heq⟩:=hrel
  by_cases hlt:k<n
  ·obtain⟨x,ex⟩:∃ x,x=v.getD k 0:=⟨_,rfl⟩;have cx:u1.cell? ⟨b,off+k,none⟩=some (.int .i64 x):=by rw[ex];exact HC.out k hlt
   have EX:=Qh ex;have i0:(0:Int)<=(k:Int):=by omega
   have i1:(k:Int)<(n:Int):=by omega
   clear ex
   by_cases hxv:0<=x/\x<=4095
   ·go_wp2_with fail
    refine Qc (ak x hxv _) ?_;go_wp2
    go_round
    case rel=>exact⟨k+1,by omega,by go_num,k_ (by rw[HLN.out];exact hlt) heq.out (by rw[<-EX.out];exact aR hxv)⟩
    case measure=>simp[intOf];omega
   ·have HF:Hid (mvB ⟨r,c,v⟩=false):=AE (pO (j7 (k:=k) (by rw[HLN.out];exact hlt)) (by rw[<-EX.out];exact bF hxv))
    go_wp2_with fail
    refine Qc (bM x hxv _) ?_;go_wp2
    go_ret
    exact⟨dn HF.out.symm,HO1.out⟩
  ·obtain rfl:n=k:=by omega
   have HALL:Hid (v.all rv=true):=by
    have h:=heq.out
    rwa [List.take_of_length_le (by rw[HLN.out];exact Nat.le_refl _)] at h
   clear heq
   cases h1:side r
   ·have e:mvB ⟨r,c,v⟩=false:=by simp[mvB,h1]
    have HE:=Qh e;clear e
    go_wp2_with fail
    refine Qc (aT r h1 u1) ?_;go_wp2
    go_ret
    exact⟨dn HE.out.symm,HO1.out⟩
   cases h2:side c
   ·have e:mvB ⟨r,c,v⟩=false:=by simp[mvB,h2]
    have HE:=Qh e;clear e
    go_wp2_with fail
    refine Qc (aT r h1 u1) ?_
    go_wp2_with fail
    refine Qc (aT c h2 u1) ?_;go_wp2
    go_ret
    exact⟨dn HE.out.symm,HO1.out⟩
   obtain⟨m1,m2⟩:=e6 h1 h2;have q1:=IntWalk.i64_in (r*c) (by omega)
   by_cases hl:(n:Int)=r*c
   ·have e:mvB ⟨r,c,v⟩=true:=by simp[mvB,h1,h2,HLN.out,hl,HALL.out]
    have HE:=Qh e;have hlb:((n:Int) == r*c)=true:=by simp[hl]
    clear e hl
    go_wp2_with fail
    refine Qc (aT r h1 u1) ?_
    go_wp2_with fail
    refine Qc (aT c h2 u1) ?_;go_wp2
    go_ret
    exact⟨dn HE.out.symm,HO1.out⟩
   ·have e:mvB ⟨r,c,v⟩=false:=by simp[mvB,HLN.out,hl]
    have HE:=Qh e;have hlb:((n:Int) == r*c)=false:=by simp[hl]
    clear e hl
    go_wp2_with fail
    refine Qc (aT r h1 u1) ?_
    go_wp2_with fail
    refine Qc (aT c h2 u1) ?_;go_wp2
    go_ret
    exact⟨dn HE.out.symm,HO1.out⟩
def bD (m:Mx) (w:World) (e:Ending) (w':World):Prop:=∃ (A:Option Addr) (c:Nat),e= .returned (MV m.r m.c A m.v.length c)/\OS w' w.heap.size A m.v.length c m.v/\Below w.heap.size w w'
def bS (a b:Mx):Bool:=decide (a.r=b.r) && decide (a.c=b.c)
theorem eY (r1 c1 r2 c2:Int) (A1 A2:Option Addr) (n1 p1 n2 p2:Nat) (w:World) (v1 v2:List Int):Calls prog 195 #[MV r1 c1 A1 n1 p1,MV r2 c2 A2 n2 p2] w fun e w'=>e= .returned (.bool (bS ⟨r1,c1,v1⟩ ⟨r2,c2,v2⟩))/\Below w.heap.size w w':=by
 by_cases h1:r1=r2
 ·have e1:(r1 == r2)=true:=by simp[h1]
  have es:bS ⟨r1,c1,v1⟩ ⟨r2,c2,v2⟩=(c1 == c2):=by simp[bS,h1,BEq.beq]
  rw[es];clear h1 es
  go_enter func195,ntmps195
  go_wp2
  go_ret
  exact⟨rfl,(((Below.refl w.heap.size w).alloc (by first|omega|(simp;done)|(simp;omega)) _).alloc (by first|omega|(simp;done)|(simp;omega)) _)⟩
 ·have e1:(r1 == r2)=false:=by simp[h1]
  have es:bS ⟨r1,c1,v1⟩ ⟨r2,c2,v2⟩=false:=by simp[bS,h1]
  rw[es];clear h1 es
  go_enter func195,ntmps195
  go_wp2
  go_ret
  exact⟨rfl,(((Below.refl w.heap.size w).alloc (by first|omega|(simp;done)|(simp;omega)) _).alloc (by first|omega|(simp;done)|(simp;omega)) _)⟩
theorem di {r c:Int} {n:Nat} (hn:r*c=(n:Int)) (bn:n<=1048576) (w:World) :
  Calls prog 196 #[.int .i64 r,.int .i64 c] w (bD ⟨r,c,List.replicate n 0⟩ w):=by
 have q1:=IntWalk.i64_in (r*c) (by omega)
 have hmk:∀ W:World,(Instr.makeSlice 35 (.int .i64 (r*c)) (.int .i64 (r*c))).run prog W= .ok (.slice (some ⟨W.heap.size,0,none⟩) n n) (W.alloc (ZB n)):=by rw[hn];exact fun W=>jc n (by omega) W
 clear hn;have F3:=OS.sN (w.alloc (.cells #[.int .i64 r,.int .i64 c,.slice (some ⟨w.heap.size+1,0,none⟩) n n] 37)) n (by omega)
 simp only[World.size_alloc] at F3;have FB:Below w.heap.size w ((w.alloc (.cells #[.int .i64 r,.int .i64 c,.slice (some ⟨w.heap.size+1,0,none⟩) n n] 37)).alloc (ZB n)):=(Qb.alloc Ql _).alloc (by simp) _
 have HF:=Qh F3;have HB:=Qh FB;clear F3 FB
 go_enter func196,ntmps196
 go_wp2;refine bodyPost_ret (v:=MV r c (some ⟨w.heap.size+1,0,none⟩) n n) (by simp[results,results196,go_sem]) rfl ?_
 refine⟨some ⟨w.heap.size+1,0,none⟩,n,by rw[List.length_replicate],?_,HB.out⟩
 rw[List.length_replicate]
 exact HF.out.mono (by omega)
theorem aQ (r c:Int) (v:List Int) (A:Option Addr) (n cap:Nat) (w:World) (hx0:SI w A n v) (bn:n<=1048576) :
  Calls prog 92 #[MV r c A n cap] w (bD ⟨r,c,v⟩ w):=by
 obtain⟨i0',hi,hz0,hz1,hz2⟩:=info_parts eU;have HLN:=Qh hx0.1
 by_cases h0:n=0
 ·subst h0;have e0:v=[]:=List.eq_nil_of_length_eq_zero HLN.out;subst e0;clear hx0
  cases A
  all_goals
   go_enter func92,ntmps92
   go_wp2;refine bodyPost_ret (v:=MV r c (some ⟨w.heap.size+3,0,none⟩) 0 0) (by simp[results,results92,go_sem]) rfl ?_
   exact⟨_,0,rfl,yf _ (by omega) (by simp),(by repeat (first|assumption|exact Below.refl _ _|apply Below.drew|(refine Below.setCell ?_ (by(first|omega|(simp <;> omega))) _)|(refine Below.alloc ?_ (by(first|omega|(simp <;> omega))) _)|(refine bp (by assumption) (by(first|omega|(simp <;> omega))) ?_)))⟩
 ·obtain⟨b,off,rfl,hb,hc0⟩:=hx0.2 (by omega)
  have hc:=Qh hc0;clear hc0 hx0
  go_enter func92,ntmps92
  obtain⟨u1,hu1⟩:∃ u,u=((((w.alloc (.cells #[.int .i64 r,.int .i64 c,.slice (some ⟨b,off,none⟩) n cap] 37)).alloc (.cells #[.int .i64 0,.int .i64 0,.slice none 0 0] 37)).alloc (.cells #[.int .i64 r,.int .i64 c,.slice (some ⟨b,off,none⟩) n cap] 37)).alloc (.cells #[] 3)):=⟨_,rfl⟩;have hzu1:u1.heap.size<=w.heap.size+4:=by rw[hu1];simp
  have hyu1:w.heap.size+4<=u1.heap.size:=by rw[hu1];simp
  have B1_1:Blk u1 (w.heap.size) 37 #[.int .i64 r,.int .i64 c,.slice (some ⟨b,off,none⟩) n cap]:=by rw[hu1];have h:=((((Blk.new w 37 #[.int .i64 r,.int .i64 c,.slice (some ⟨b,off,none⟩) n cap]).alloc (.cells #[.int .i64 0,.int .i64 0,.slice none 0 0] 37)).alloc (.cells #[.int .i64 r,.int .i64 c,.slice (some ⟨b,off,none⟩) n cap] 37)).alloc (.cells #[] 3));simpa using h
  have xb1:w.heap.size<=w.heap.size:=by omega
  have B1_2:Blk u1 (w.heap.size+1) 37 #[.int .i64 0,.int .i64 0,.slice none 0 0]:=by rw[hu1];have h:=(((Blk.new (w.alloc (.cells #[.int .i64 r,.int .i64 c,.slice (some ⟨b,off,none⟩) n cap] 37)) 37 #[.int .i64 0,.int .i64 0,.slice none 0 0]).alloc (.cells #[.int .i64 r,.int .i64 c,.slice (some ⟨b,off,none⟩) n cap] 37)).alloc (.cells #[] 3));simpa using h
  have xb2:w.heap.size<=w.heap.size+1:=by omega
  have B1_3:Blk u1 (w.heap.size+2) 37 #[.int .i64 r,.int .i64 c,.slice (some ⟨b,off,none⟩) n cap]:=by rw[hu1];have h:=((Blk.new ((w.alloc (.cells #[.int .i64 r,.int .i64 c,.slice (some ⟨b,off,none⟩) n cap] 37)).alloc (.cells #[.int .i64 0,.int .i64 0,.slice none 0 0] 37)) 37 #[.int .i64 r,.int .i64 c,.slice (some ⟨b,off,none⟩) n cap]).alloc (.cells #[] 3));simpa using h
  have xb3:w.heap.size<=w.heap.size+2:=by omega
  have O1:Below w.heap.size w u1:=by rw[hu1];exact(((((Below.refl w.heap.size w).alloc (by first|omega|(simp;done)|(simp;omega)) _).alloc (by first|omega|(simp;done)|(simp;omega)) _).alloc (by first|omega|(simp;done)|(simp;omega)) _).alloc (by first|omega|(simp;done)|(simp;omega)) _)
  have m1:w.heap.size<=u1.heap.size:=by omega
  have HF1:Hid (OS u1 w.heap.size (some ⟨w.heap.size+3,0,none⟩) 0 0 []):=by rw[hu1];have h:=mT (((w.alloc (.cells #[.int .i64 r,.int .i64 c,.slice (some ⟨b,off,none⟩) n cap] 37)).alloc (.cells #[.int .i64 0,.int .i64 0,.slice none 0 0] 37)).alloc (.cells #[.int .i64 r,.int .i64 c,.slice (some ⟨b,off,none⟩) n cap] 37)) (base:=w.heap.size) (by simp only[World.size_alloc];omega);simp only[World.size_alloc] at h;exact h
  have F1_o:OS u1 w.heap.size (some ⟨w.heap.size+3,0,none⟩) 0 0 []:=HF1.out;have z1_1:w.heap.size<u1.heap.size:=B1_1.lt;have c1_1_0:u1.cell? ⟨w.heap.size,0,none⟩=some (.int .i64 r):=B1_1.cell 0;have f1_1_0:u1.frozen? ⟨w.heap.size,0,none⟩=false:=B1_1.frozen 0;have c1_1_1:u1.cell? ⟨w.heap.size,1,none⟩=some (.int .i64 c):=B1_1.cell 1;have f1_1_1:u1.frozen? ⟨w.heap.size,1,none⟩=false:=B1_1.frozen 1;have c1_1_2:u1.cell? ⟨w.heap.size,2,none⟩=some (.slice (some ⟨b,off,none⟩) n cap):=B1_1.cell 2;have f1_1_2:u1.frozen? ⟨w.heap.size,2,none⟩=false:=B1_1.frozen 2;have z1_2:w.heap.size+1<u1.heap.size:=B1_2.lt;have c1_2_0:u1.cell? ⟨w.heap.size+1,0,none⟩=some (.int .i64 0):=B1_2.cell 0;have f1_2_0:u1.frozen? ⟨w.heap.size+1,0,none⟩=false:=B1_2.frozen 0;have c1_2_1:u1.cell? ⟨w.heap.size+1,1,none⟩=some (.int .i64 0):=B1_2.cell 1;have f1_2_1:u1.frozen? ⟨w.heap.size+1,1,none⟩=false:=B1_2.frozen 1;have c1_2_2:u1.cell? ⟨w.heap.size+1,2,none⟩=some (.slice none 0 0):=B1_2.cell 2;have f1_2_2:u1.frozen? ⟨w.heap.size+1,2,none⟩=false:=B1_2.frozen 2;have z1_3:w.heap.size+2<u1.heap.size:=B1_3.lt;have c1_3_0:u1.cell? ⟨w.heap.size+2,0,none⟩=some (.int .i64 r):=B1_3.cell 0;have f1_3_0:u1.frozen? ⟨w.heap.size+2,0,none⟩=false:=B1_3.frozen 0;have c1_3_1:u1.cell? ⟨w.heap.size+2,1,none⟩=some (.int .i64 c):=B1_3.cell 1;have f1_3_1:u1.frozen? ⟨w.heap.size+2,1,none⟩=false:=B1_3.frozen 1;have c1_3_2:u1.cell? ⟨w.heap.size+2,2,none⟩=some (.slice (some ⟨b,off,none⟩) n cap):=B1_3.cell 2;have f1_3_2:u1.frozen? ⟨w.heap.size+2,2,none⟩=false:=B1_3.frozen 2;have HC:∀ k,k<n->u1.cell? ⟨b,off+k,none⟩=some (.int .i64 (v.getD k 0)):=fun k hk=>(O1.cell (p:=⟨b,off+k,none⟩) hb).trans (hc.out k hk)
  go_wp2_with (at_builtin;rw[<-hu1];refine wpList_append_lies _ rfl _ _ 35 rfl w.heap.size 3 i0' (.int .i64 0) 1 8 underlying35 hi hz0 hz1 hz2 rfl (by decide) (.slice (some ⟨w.heap.size+3,0,none⟩) (0) 0) (0) _ rfl F1_o ⟨b,off,none⟩ n cap ((v).map (Value.int .i64)) rfl (by simp[HLN.out]) ?c1 ?c2 ?c3 ?c4 ?c5 ?c6 u1.heap.size ?c7 ?_)
  case c1=>exact ux HLN.out HC
  case c2=>simp[Value.oneCell']
  case c3=>omega
  case c4=>unfold maxLen;omega
  case c5=>omega
  case c6=>first|omega|(simp;omega)
  case c7=>simp
  intro g2 p2 w2 hown hgrow hat _;rw[<-hu1] at hgrow;clear hu1;obtain⟨hos,hon⟩:=yg (ys:=v) F1_o hgrow (Below.refl u1.heap.size u1) (by simpa using hown)
  clear hown hgrow;clear hat;have B2_1:=Blk.bR B1_1 hon (bf F1_o B1_1 (by decide))
  have B2_2:=Blk.bR B1_2 hon (bf F1_o B1_2 (by decide))
  have B2_3:=Blk.bR B1_3 hon (bf F1_o B1_3 (by decide))
  have O2:=O1.trans (bJ.toBelow hon (B:=w.heap.size) (fun g hg=>(F1_o.aj g hg).1) (by omega))
  have m2:w.heap.size<=w2.heap.size:=O2.size;rw[List.nil_append,Nat.zero_add] at hos;have F2_o:=hos;clear B1_1 B1_2 B1_3 F1_o O1 z1_1 c1_1_0 f1_1_0 c1_1_1 f1_1_1 c1_1_2 f1_1_2 z1_2 c1_2_0 f1_2_0 c1_2_1 f1_2_1 c1_2_2 f1_2_2 z1_3 c1_3_0 f1_3_0 c1_3_1 f1_3_1 c1_3_2 f1_3_2 hos hon;have z2_1:w.heap.size<w2.heap.size:=B2_1.lt;have c2_1_0:w2.cell? ⟨w.heap.size,0,none⟩=some (.int .i64 r):=B2_1.cell 0;have f2_1_0:w2.frozen? ⟨w.heap.size,0,none⟩=false:=B2_1.frozen 0;have c2_1_1:w2.cell? ⟨w.heap.size,1,none⟩=some (.int .i64 c):=B2_1.cell 1;have f2_1_1:w2.frozen? ⟨w.heap.size,1,none⟩=false:=B2_1.frozen 1;have c2_1_2:w2.cell? ⟨w.heap.size,2,none⟩=some (.slice (some ⟨b,off,none⟩) n cap):=B2_1.cell 2;have f2_1_2:w2.frozen? ⟨w.heap.size,2,none⟩=false:=B2_1.frozen 2;have z2_2:w.heap.size+1<w2.heap.size:=B2_2.lt;have c2_2_0:w2.cell? ⟨w.heap.size+1,0,none⟩=some (.int .i64 0):=B2_2.cell 0;have f2_2_0:w2.frozen? ⟨w.heap.size+1,0,none⟩=false:=B2_2.frozen 0;have c2_2_1:w2.cell? ⟨w.heap.size+1,1,none⟩=some (.int .i64 0):=B2_2.cell 1;have f2_2_1:w2.frozen? ⟨w.heap.size+1,1,none⟩=false:=B2_2.frozen 1;have c2_2_2:w2.cell? ⟨w.heap.size+1,2,none⟩=some (.slice none 0 0):=B2_2.cell 2;have f2_2_2:w2.frozen? ⟨w.heap.size+1,2,none⟩=false:=B2_2.frozen 2;have z2_3:w.heap.size+2<w2.heap.size:=B2_3.lt;have c2_3_0:w2.cell? ⟨w.heap.size+2,0,none⟩=some (.int .i64 r):=B2_3.cell 0;have f2_3_0:w2.frozen? ⟨w.heap.size+2,0,none⟩=false:=B2_3.frozen 0;have c2_3_1:w2.cell? ⟨w.heap.size+2,1,none⟩=some (.int .i64 c):=B2_3.cell 1;have f2_3_1:w2.frozen? ⟨w.heap.size+2,1,none⟩=false:=B2_3.frozen 1;have c2_3_2:w2.cell? ⟨w.heap.size+2,2,none⟩=some (.slice (some ⟨b,off,none⟩) n cap):=B2_3.cell 2;have f2_3_2:w2.frozen? ⟨w.heap.size+2,2,none⟩=false:=B2_3.frozen 2;go_wp2
  exact bodyPost_ret (v:=MV r c (some ⟨g2,0,none⟩) n p2) (by simp[results,results92,go_sem,z2_1,c2_1_0,f2_1_0,c2_1_1,f2_1_1,c2_1_2,f2_1_2,z2_2,c2_2_0,f2_2_0,c2_2_1,f2_2_1,c2_2_2,f2_2_2,z2_3,c2_3_0,f2_3_0,c2_3_1,f2_3_1,c2_3_2,f2_3_2,(by omega:¬w.heap.size=w.heap.size+1),(by omega:¬w.heap.size+1=w.heap.size),(by omega:¬w.heap.size=w.heap.size+2),(by omega:¬w.heap.size+2=w.heap.size),(by omega:¬w.heap.size+1=w.heap.size+2),(by omega:¬w.heap.size+2=w.heap.size+1)]) rfl ⟨_,_,by rw[HLN.out],by rw[HLN.out];exact((((F2_o.dk B2_3 (by decide) _).dk (B2_2.far (p:=⟨w.heap.size+2,2,none⟩) (by dsimp only;omega) (.slice (some ⟨g2,0,none⟩) n p2)) (by decide) _).dk ((B2_2.far (p:=⟨w.heap.size+2,2,none⟩) (by dsimp only;omega) (.slice (some ⟨g2,0,none⟩) n p2)).dc 0 (.int .i64 r)) (by decide) _).dk (((B2_2.far (p:=⟨w.heap.size+2,2,none⟩) (by dsimp only;omega) (.slice (some ⟨g2,0,none⟩) n p2)).dc 0 (.int .i64 r)).dc 1 (.int .i64 c)) (by decide) _),((((O2.setCell (by dsimp only;omega) _).setCell (by dsimp only;omega) _).setCell (by dsimp only;omega) _).setCell (by dsimp only;omega) _)⟩
def az (a b:Mx):Bool:=mvB a && (mvB b && bS a b)
def dfB (a b:Mx):Bool:=mvB a && (mvB b && (decide (b.c=1) && decide (b.r=a.r)))
theorem eD (r1 c1 r2 c2:Int) (v1 v2:List Int) (A1 A2:Option Addr) (n1 p1 n2 p2:Nat) (w:World) (hx0:SI w A1 n1 v1) (hy0:SI w A2 n2 v2) (bn:n1<=1048576) (bm:n2<=1048576) :
  Calls prog 134 #[MV r1 c1 A1 n1 p1,MV r2 c2 A2 n2 p2] w fun e w'=>e= .returned (.bool (az ⟨r1,c1,v1⟩ ⟨r2,c2,v2⟩))/\Below w.heap.size w w':=by
 have HX:=Qh hx0;have HY:=Qh hy0;clear hx0 hy0
 cases g1:mvB ⟨r1,c1,v1⟩
 ·have es:az ⟨r1,c1,v1⟩ ⟨r2,c2,v2⟩=false:=by unfold az;rw[g1];simp[bS]
  rw[es];clear es;refine zE ?_;intro u1 H;refine zB (aM r1 c1 v1 A1 n1 p1 u1 (SI.below HX.out H.O) (by omega)) ?_;clear H;intro w2 u2 H
  refine zR ?_;clear H;intro u3 H
  exact⟨rfl,H.O⟩
 cases g2:mvB ⟨r2,c2,v2⟩
 ·have es:az ⟨r1,c1,v1⟩ ⟨r2,c2,v2⟩=false:=by unfold az;rw[g1,g2];simp[bS]
  rw[es];clear es;refine zE ?_;intro u1 H;refine zB (aM r1 c1 v1 A1 n1 p1 u1 (SI.below HX.out H.O) (by omega)) ?_;clear H;intro w2 u2 H
  refine zB (aM r2 c2 v2 A2 n2 p2 u2 (SI.below HY.out H.O) (by omega)) ?_;clear H;intro w3 u3 H
  refine zR ?_;clear H;intro u4 H
  exact⟨rfl,H.O⟩
 by_cases h1:r1=r2
 ·by_cases h2:c1=c2
  ·have es:az ⟨r1,c1,v1⟩ ⟨r2,c2,v2⟩=true:=by unfold az;rw[g1,g2];simp[bS,h1,h2]
   rw[es];clear es;have e1:(r1 == r2)=true:=by simp[h1]
   have e2:(c1 == c2)=true:=by simp[h2]
   clear h1 h2;refine zE ?_;intro u1 H;refine zB (aM r1 c1 v1 A1 n1 p1 u1 (SI.below HX.out H.O) (by omega)) ?_;clear H;intro w2 u2 H
   refine zB (aM r2 c2 v2 A2 n2 p2 u2 (SI.below HY.out H.O) (by omega)) ?_;clear H;intro w3 u3 H
   refine zR ?_;clear H;intro u4 H
   exact⟨rfl,H.O⟩
  ·have es:az ⟨r1,c1,v1⟩ ⟨r2,c2,v2⟩=false:=by unfold az;rw[g1,g2];simp[bS,h1,h2]
   rw[es];clear es;have e1:(r1 == r2)=true:=by simp[h1]
   have e2:(c1 == c2)=false:=by simp[h2]
   clear h1 h2;refine zE ?_;intro u1 H;refine zB (aM r1 c1 v1 A1 n1 p1 u1 (SI.below HX.out H.O) (by omega)) ?_;clear H;intro w2 u2 H
   refine zB (aM r2 c2 v2 A2 n2 p2 u2 (SI.below HY.out H.O) (by omega)) ?_;clear H;intro w3 u3 H
   refine zR ?_;clear H;intro u4 H
   exact⟨rfl,H.O⟩
 ·have es:az ⟨r1,c1,v1⟩ ⟨r2,c2,v2⟩=false:=by unfold az;rw[g1,g2];simp[bS,h1]
  rw[es];clear es;have e1:(r1 == r2)=false:=by simp[h1]
  clear h1;refine zE ?_;intro u1 H;refine zB (aM r1 c1 v1 A1 n1 p1 u1 (SI.below HX.out H.O) (by omega)) ?_;clear H;intro w2 u2 H
  refine zB (aM r2 c2 v2 A2 n2 p2 u2 (SI.below HY.out H.O) (by omega)) ?_;clear H;intro w3 u3 H
  refine zR ?_;clear H;intro u4 H
  exact⟨rfl,H.O⟩
theorem DK (r1 c1 r2 c2:Int) (v1 v2:List Int) (A1 A2:Option Addr) (n1 p1 n2 p2:Nat) (w:World) (hx0:SI w A1 n1 v1) (hy0:SI w A2 n2 v2) (bn:n1<=1048576) (bm:n2<=1048576) :
  Calls prog 147 #[MV r1 c1 A1 n1 p1,MV r2 c2 A2 n2 p2] w fun e w'=>e= .returned (.bool (dfB ⟨r1,c1,v1⟩ ⟨r2,c2,v2⟩))/\Below w.heap.size w w':=by
 have HX:=Qh hx0;have HY:=Qh hy0;clear hx0 hy0
 cases g1:mvB ⟨r1,c1,v1⟩
 ·have es:dfB ⟨r1,c1,v1⟩ ⟨r2,c2,v2⟩=false:=by unfold dfB;rw[g1];simp[bS]
  rw[es];clear es;refine zE ?_;intro u1 H;refine zB (aw r1 c1 v1 A1 n1 p1 u1 (SI.below HX.out H.O) (by omega)) ?_;clear H;intro w2 u2 H
  refine zR ?_;clear H;intro u3 H
  exact⟨rfl,H.O⟩
 cases g2:mvB ⟨r2,c2,v2⟩
 ·have es:dfB ⟨r1,c1,v1⟩ ⟨r2,c2,v2⟩=false:=by unfold dfB;rw[g1,g2];simp[bS]
  rw[es];clear es;refine zE ?_;intro u1 H;refine zB (aw r1 c1 v1 A1 n1 p1 u1 (SI.below HX.out H.O) (by omega)) ?_;clear H;intro w2 u2 H
  refine zB (aw r2 c2 v2 A2 n2 p2 u2 (SI.below HY.out H.O) (by omega)) ?_;clear H;intro w3 u3 H
  refine zR ?_;clear H;intro u4 H
  exact⟨rfl,H.O⟩
 by_cases h1:c2=1
 ·by_cases h2:r2=r1
  ·have es:dfB ⟨r1,c1,v1⟩ ⟨r2,c2,v2⟩=true:=by unfold dfB;rw[g1,g2];simp[bS,h1,h2]
   rw[es];clear es;have e1:(c2 == 1)=true:=by simp[h1]
   have e2:(r2 == r1)=true:=by simp[h2]
   clear h1 h2;refine zE ?_;intro u1 H;refine zB (aw r1 c1 v1 A1 n1 p1 u1 (SI.below HX.out H.O) (by omega)) ?_;clear H;intro w2 u2 H
   refine zB (aw r2 c2 v2 A2 n2 p2 u2 (SI.below HY.out H.O) (by omega)) ?_;clear H;intro w3 u3 H
   refine zR ?_;clear H;intro u4 H
   exact⟨rfl,H.O⟩
  ·have es:dfB ⟨r1,c1,v1⟩ ⟨r2,c2,v2⟩=false:=by unfold dfB;rw[g1,g2];simp[bS,h1,h2]
   rw[es];clear es;have e1:(c2 == 1)=true:=by simp[h1]
   have e2:(r2 == r1)=false:=by simp[h2]
   clear h1 h2;refine zE ?_;intro u1 H;refine zB (aw r1 c1 v1 A1 n1 p1 u1 (SI.below HX.out H.O) (by omega)) ?_;clear H;intro w2 u2 H
   refine zB (aw r2 c2 v2 A2 n2 p2 u2 (SI.below HY.out H.O) (by omega)) ?_;clear H;intro w3 u3 H
   refine zR ?_;clear H;intro u4 H
   exact⟨rfl,H.O⟩
 ·have es:dfB ⟨r1,c1,v1⟩ ⟨r2,c2,v2⟩=false:=by unfold dfB;rw[g1,g2];simp[bS,h1]
  rw[es];clear es;have e1:(c2 == 1)=false:=by simp[h1]
  clear h1;refine zE ?_;intro u1 H;refine zB (aw r1 c1 v1 A1 n1 p1 u1 (SI.below HX.out H.O) (by omega)) ?_;clear H;intro w2 u2 H
  refine zB (aw r2 c2 v2 A2 n2 p2 u2 (SI.below HY.out H.O) (by omega)) ?_;clear H;intro w3 u3 H
  refine zR ?_;clear H;intro u4 H
  exact⟨rfl,H.O⟩
section
structure Elt (α:Type) where
 s:Nat
 P:World->List Value->α->List Nat->Prop
 len:∀ w cs x F,P w cs x F->cs.length=s
 au:∀ w w' cs x F,P w cs x F->(∀ g,g∈F->w'.heap[g]?=w.heap[g]?)->P w' cs x F
 lt:∀ w cs x F,P w cs x F->∀ g,g∈F->g<w.heap.size
theorem nQ {w w':World} {g:Nat} (hl:g<w.heap.size) (h:w'.heap[g]?=w.heap[g]?):g<w'.heap.size:=by
 rw[Array.getElem?_eq_getElem hl] at h;rcases Nat.lt_or_ge g w'.heap.size with hlt|hge
 ·exact hlt
 ·rw[Array.getElem?_eq_none hge] at h;cases h
def dJ {α:Type} (E:Elt α) (w:World):List (List Value)->List α->List Nat->Prop
 | [],[],F=>F=[]
 | cs::css,x::xs,F=>∃ F1 F2,F=F1++F2/\E.P w cs x F1/\dJ E w css xs F2
 | [],_::_,_=>False
 | _::_,[],_=>False
section
variable {α:Type} {E:Elt α} {w w':World}
theorem dJ.length:∀ {css:List (List Value)} {xs:List α} {F:List Nat},dJ E w css xs F->css.length=xs.length
 | [],[],_,_=>rfl
 | _::_,_::_,_,⟨_,_,_,_,h⟩=>by simp[dJ.length h]
theorem dJ.au:∀ {css:List (List Value)} {xs:List α} {F:List Nat},dJ E w css xs F->(∀ g,g∈F->w'.heap[g]?=w.heap[g]?)->dJ E w' css xs F
 | [],[],_,h,_=>h
 | _::_,_::_,_,⟨F1,F2,e,h1,h2⟩,hk=>⟨F1,F2,e,E.au _ _ _ _ _ h1 (fun g hg=>hk g (by rw[e];exact List.mem_append_left _ hg)),h2.au (fun g hg=>hk g (by rw[e];exact List.mem_append_right _ hg))⟩
theorem dJ.lt:∀ {css:List (List Value)} {xs:List α} {F:List Nat},dJ E w css xs F->∀ g,g∈F->g<w.heap.size
 | [],[],F,h,g,hg=>by
  have h':F=[]:=h;rw[h'] at hg;cases hg
 | _::_,_::_,_,⟨F1,F2,e,h1,h2⟩,g,hg=>by
  rw[e] at hg;rcases List.mem_append.1 hg with h|h
  ·exact E.lt _ _ _ _ h1 g h
  ·exact h2.lt g h
theorem dJ.push:∀ {css:List (List Value)} {xs:List α} {F F1:List Nat} {cs:List Value} {x:α},dJ E w css xs F->E.P w cs x F1->dJ E w (css++[cs]) (xs++[x]) (F++F1)
 | [],[],F,F1,_,_,h,h1=>by
  have h':F=[]:=h
  exact⟨F1,[],by simp[h'],h1,rfl⟩
 | _::_,_::_,_,F1,_,_,⟨Fa,Fb,e,ha,hb⟩,h1=>⟨Fa,Fb++F1,by rw[e,List.append_assoc],ha,hb.push h1⟩
theorem dJ.at:∀ {css:List (List Value)} {xs:List α} {F:List Nat},dJ E w css xs F->∀ (i:Nat) (x:α),xs[i]?=some x->∃ cs F',css[i]?=some cs/\(∀ g,g∈F'->g∈F)/\E.P w cs x F'
 | [],[],_,_,i,x,hx=>by cases hx
 | cs::_,y::_,_,⟨F1,F2,e,h1,h2⟩,0,x,hx=>by
  have:y=x:=by simpa using hx
  subst this
  exact⟨cs,F1,rfl,fun g hg=>by rw[e];exact List.mem_append_left _ hg,h1⟩
 | _::_,_::_,_,⟨F1,F2,e,h1,h2⟩,i+1,x,hx=>by
  obtain⟨cs,F',e1,e2,e3⟩:=h2.at i x (by simpa using hx)
  exact⟨cs,F',by simpa using e1,fun g hg=>by rw[e];exact List.mem_append_right _ (e2 g hg),e3⟩
theorem dJ.lens:∀ {css:List (List Value)} {xs:List α} {F:List Nat},dJ E w css xs F->∀ cs,cs∈css->cs.length=E.s
 | [],[],_,_,cs,h=>by cases h
 | c::_,_::_,_,⟨_,_,_,h1,h2⟩,cs,h=>by
  rcases List.mem_cons.1 h with rfl|h
  ·exact E.len _ _ _ _ h1
  ·exact h2.lens cs h
end
theorem iG {s:Nat}:∀ {css:List (List Value)} {rest:List Value} (h:∀ cs,cs∈css->cs.length=s) (i:Nat) (cs:List Value),css[i]?=some cs->∀ j,j<s->(css.flatten++rest)[i*s+j]?=cs[j]?
 | [],_,_,i,cs,hi,_,_=>by cases hi
 | c::css,rest,h,0,cs,hi,j,hj=>by
  have e:c=cs:=by simpa using hi
  subst e;have hl:=h c (List.mem_cons_self ..);rw[List.flatten_cons,List.append_assoc,Nat.zero_mul,Nat.zero_add,List.getElem?_append_left (by omega)]
 | c::css,rest,h,i+1,cs,hi,j,hj=>by
  have hl:=h c (List.mem_cons_self ..);have ih:=iG (rest:=rest) (css:=css) (fun x hx=>h x (List.mem_cons_of_mem _ hx)) i cs (by simpa using hi) j hj
  rw[List.flatten_cons,List.append_assoc,List.getElem?_append_right (by rw[hl,Nat.succ_mul];omega),hl,<-ih]
  congr 1
  rw[Nat.succ_mul];omega
def RI {α:Type} (E:Elt α) (w:World) (A:Option Addr) (n cap:Nat) (xs:List α) (F:List Nat):Prop :=
 xs.length=n/\n<=cap/\cap<=maxLen/\((n=0/\F=[])\/∃ b off css F',A=some ⟨b,off,none⟩/\b<w.heap.size/\F=b::F'/\dJ E w css xs F'/\∀ i cs,css[i]?=some cs->∀ j,j<E.s->w.cell? ⟨b,off+(i*E.s+j),none⟩=cs[j]?)
section
variable {α:Type} {E:Elt α} {w w':World} {A:Option Addr} {n cap:Nat} {xs:List α} {F:List Nat}
theorem RI.len (h:RI E w A n cap xs F):xs.length=n:=h.1
theorem RI.au (h:RI E w A n cap xs F) (hk:∀ g,g∈F->w'.heap[g]?=w.heap[g]?):RI E w' A n cap xs F:=by
 obtain⟨h1,h2,h3,h4⟩:=h;refine⟨h1,h2,h3,?_⟩;rcases h4 with h4|⟨b,off,css,F',e,hb,rfl,he,hc⟩
 ·exact .inl h4
 ·have hkb:=hk b (List.mem_cons_self ..)
  exact .inr ⟨b,off,css,F',e,nQ hb hkb,rfl,he.au (fun g hg=>hk g (List.mem_cons_of_mem _ hg)),fun i cs hi j hj=>(World.cell?_of_block (w:=w) hkb).trans (hc i cs hi j hj)⟩
theorem RI.lt (h:RI E w A n cap xs F):∀ g,g∈F->g<w.heap.size:=by
 obtain⟨h1,h2,h3,h4⟩:=h;rcases h4 with⟨_,rfl⟩|⟨b,off,css,F',e,hb,rfl,he,hc⟩
 ·intro g hg;cases hg
 ·intro g hg;rcases List.mem_cons.1 hg with rfl|hg
  ·exact hb
  ·exact he.lt g hg
theorem RI.below (h:RI E w A n cap xs F) (hb:Below w.heap.size w w'):RI E w' A n cap xs F:=h.au fun g hg=>hb.block g (h.lt g hg)
theorem RI.alloc (h:RI E w A n cap xs F) (o:Obj):RI E (w.alloc o) A n cap xs F:=h.au fun g hg=>Below.heap_alloc w o g (h.lt g hg)
theorem RI.nil (w:World) (A:Option Addr) {cap:Nat} (hc:cap<=maxLen):RI E w A 0 cap [] []:=⟨rfl,Nat.zero_le _,hc,.inl ⟨rfl,rfl⟩⟩
theorem RI.at (h:RI E w A n cap xs F) {i:Nat} {x:α} (hx:xs[i]?=some x):∃ b off cs F',A=some ⟨b,off,none⟩/\b<w.heap.size/\(∀ j,j<E.s->w.cell? ⟨b,off+(i*E.s+j),none⟩=cs[j]?)/\(∀ g,g∈F'->g∈F)/\E.P w cs x F':=by
 obtain⟨h1,h2,h3,h4⟩:=h;rcases h4 with⟨h0,_⟩|⟨b,off,css,F',e,hb,rfl,he,hc⟩
 ·have:xs=[]:=List.eq_nil_of_length_eq_zero (by omega)
  rw[this] at hx;cases hx
 ·obtain⟨cs,F1,e1,e2,e3⟩:=he.at i x hx
  exact⟨b,off,cs,F1,e,hb,fun j hj=>hc i cs e1 j hj,fun g hg=>List.mem_cons_of_mem _ (e2 g hg),e3⟩
end
def Fr (w:World) (base:Nat) (F:List Nat):Prop:=F.Nodup/\∀ g,g∈F->base<=g/\∃ t cs,Blk w g t cs/\t≠25
section
variable {w w':World} {base base':Nat} {F G:List Nat}
theorem Fr.nil (w:World) (base:Nat):Fr w base []:=⟨List.nodup_nil,fun g hg=>by cases hg⟩
theorem Fr.au (h:Fr w base F) (hk:∀ g,g∈F->w'.heap[g]?=w.heap[g]?):Fr w' base F:=⟨h.1,fun g hg=>by
 obtain⟨h1,t,cs,h2,h3⟩:=h.2 g hg
 exact⟨h1,t,cs,(hk g hg).trans h2,h3⟩⟩
theorem Fr.lt (h:Fr w base F):∀ g,g∈F->g<w.heap.size:=fun g hg=>by obtain⟨_,t,cs,h2,_⟩:=h.2 g hg;exact h2.lt
theorem Fr.below (h:Fr w base F) (hb:Below w.heap.size w w'):Fr w' base F:=h.au fun g hg=>hb.block g (h.lt g hg)
theorem Fr.mono (h:Fr w base F) (hb:base'<=base):Fr w base' F:=⟨h.1,fun g hg=>by obtain⟨h1,h2⟩:=h.2 g hg;exact⟨Nat.le_trans hb h1,h2⟩⟩
theorem Fr.app (h:Fr w base F) (k:Fr w base G) (hd:∀ g,g∈F->g∈G->False):Fr w base (F++G) :=
 ⟨List.nodup_append.2 ⟨h.1,k.1,fun a ha b hb e=>hd a ha (e ▸ hb)⟩,fun g hg=>(List.mem_append.1 hg).elim (h.2 g) (k.2 g)⟩
theorem Fr.one {g:Nat} {t:TypeId} {cs:Array Value} (h:Blk w g t cs) (hb:base<=g) (ht:t≠25:=by decide):Fr w base [g] :=
 ⟨List.nodup_cons.2 ⟨fun h=>(by cases h),List.nodup_nil⟩,fun x hx=>by
  have:x=g:=by simpa using hx
  subst this
  exact⟨hb,t,cs,h,ht⟩⟩
theorem Fr.cons {g:Nat} {t:TypeId} {cs:Array Value} (h:Blk w g t cs) (hb:base<=g) (k:Fr w base F) (hn:g∉F) (ht:t≠25:=by decide):Fr w base (g::F):=by
 have:=(Fr.one h hb ht).app k (fun x hx hF=>hn (by have e:x=g:=(by simpa using hx);rw[<-e];exact hF))
 simpa using this
end
def fpI (A:Option Addr) (n:Nat):List Nat:=if n=0 then [] else (blk A).toList
theorem bz {A:Option Addr} {n g:Nat} (h:g∈fpI A n):0<n/\blk A=some g:=by
 unfold fpI at h
 split at h
 ·cases h
 ·exact⟨by omega,by simpa using h⟩
theorem uw {w w':World} {A:Option Addr} {n:Nat} {v:List Int} (h:SI w A n v) (hk:∀ g,g∈fpI A n->w'.heap[g]?=w.heap[g]?):SI w' A n v :=
 ⟨h.1,fun hn=>by
  obtain⟨b,off,rfl,hb,hc⟩:=h.2 hn;have hk':=hk b (by unfold fpI;rw[if_neg (by omega)];simp[blk])
  exact⟨b,off,rfl,nQ hb hk',fun i hi=>(World.cell?_of_block (w:=w) hk').trans (hc i hi)⟩⟩
theorem Cb {w:World} {A:Option Addr} {n:Nat} {v:List Int} (h:SI w A n v):∀ g,g∈fpI A n->g<w.heap.size:=fun g hg=>by
 obtain⟨hn,hb⟩:=bz hg
 exact h.aj hn g hb
theorem ek {w:World} {base n c:Nat} {A:Option Addr} {v:List Int} (h:OS w base A n c v):Fr w base (fpI A n):=by
 unfold fpI
 split
 ·exact Fr.nil w base
 ·rcases h.2 with⟨e,e'⟩|⟨g,c',cur,e,hb,hh,_⟩
  ·omega
  ·injection e with e1;subst e1
   exact Fr.one (g:=g) hh hb
def MF (w:World) (A:Option Addr) (c:Nat) (m:Mx) (F:List Nat):Prop:=SI w A m.v.length m.v/\m.v.length<=c/\c<=maxLen/\F=fpI A m.v.length
theorem MF.au {w w':World} {A:Option Addr} {c:Nat} {m:Mx} {F:List Nat} (h:MF w A c m F) (hk:∀ g,g∈F->w'.heap[g]?=w.heap[g]?):MF w' A c m F:=by
 obtain⟨h1,h2,h3,rfl⟩:=h
 exact⟨uw h1 hk,h2,h3,rfl⟩
theorem MF.lt {w:World} {A:Option Addr} {c:Nat} {m:Mx} {F:List Nat} (h:MF w A c m F):∀ g,g∈F->g<w.heap.size:=by
 obtain⟨h1,h2,h3,rfl⟩:=h
 exact Cb h1
theorem MF.aB {w:World} {base c:Nat} {A:Option Addr} {m:Mx} (h:OS w base A m.v.length c m.v):MF w A c m (fpI A m.v.length):=⟨h.si,h.dC.1,h.dC.2,rfl⟩
def mxE:Elt Mx where
 s:=3
 P:=fun w cs m F=>∃ A c,cs=[.int .i64 m.r,.int .i64 m.c,.slice A m.v.length c]/\MF w A c m F
 len:=by rintro w cs x F ⟨A,c,rfl,_⟩;rfl
 au:=by rintro w w' cs x F ⟨A,c,rfl,h⟩ hk;exact⟨A,c,rfl,h.au hk⟩
 lt:=by rintro w cs x F ⟨A,c,rfl,h⟩;exact h.lt
def smE:Elt (Mx×Mx) where
 s:=6
 P:=fun w cs p F=>∃ A c B d F1 F2,cs=[.int .i64 p.1.r,.int .i64 p.1.c,.slice A p.1.v.length c,.int .i64 p.2.r,.int .i64 p.2.c,.slice B p.2.v.length d]/\MF w A c p.1 F1/\MF w B d p.2 F2/\F=F1++F2
 len:=by rintro w cs x F ⟨A,c,B,d,F1,F2,rfl,_⟩;rfl
 au:=by
  rintro w w' cs x F ⟨A,c,B,d,F1,F2,rfl,h1,h2,rfl⟩ hk
  exact⟨A,c,B,d,F1,F2,rfl,h1.au (fun g hg=>hk g (List.mem_append_left _ hg)),h2.au (fun g hg=>hk g (List.mem_append_right _ hg)),rfl⟩
 lt:=by
  rintro w cs x F ⟨A,c,B,d,F1,F2,rfl,h1,h2,rfl⟩ g hg
  exact(List.mem_append.1 hg).elim (h1.lt g) (h2.lt g)
def kE {α:Type} (E:Elt α):Elt (Int×List α) where
 s:=2
 P:=fun w cs x F=>∃ A c,cs=[.int .i64 x.1,.slice A x.2.length c]/\RI E w A x.2.length c x.2 F
 len:=by rintro w cs x F ⟨A,c,rfl,_⟩;rfl
 au:=by rintro w w' cs x F ⟨A,c,rfl,h⟩ hk;exact⟨A,c,rfl,h.au hk⟩
 lt:=by rintro w cs x F ⟨A,c,rfl,h⟩;exact h.lt
def OX {α:Type} (E:Elt α) (w:World) (base:Nat) (T:TypeId) (A:Option Addr) (n cap:Nat) (css:List (List Value)) (xs:List α) (F:List Nat):Prop :=
 VO w base T E.s A n cap css.flatten/\xs.length=n/\dJ E w css xs F/\Fr w base F/\∀ g,blk A=some g->g∉F
section
variable {α:Type} {E:Elt α} {w w' wr w1:World} {base base' n cap k c g cap' m:Nat} {T:TypeId} {A:Option Addr} {css:List (List Value)} {xs:List α} {F F1:List Nat} {ys:List Value} {x:α} {o:Obj}
theorem OX.lt (h:OX E w base T A n cap css xs F):∀ g,g∈F->g<w.heap.size:=h.2.2.1.lt
theorem OX.au (h:OX E w base T A n cap css xs F) (hs:w.heap.size<=w'.heap.size) (hk:∀ g,g<w.heap.size->(blk A=some g\/g∈F)->w'.heap[g]?=w.heap[g]?):OX E w' base T A n cap css xs F :=
 ⟨h.1.au hs fun g hg hl=>hk g hl (.inl hg),h.2.1,h.2.2.1.au fun g hg=>hk g (h.lt g hg) (.inr hg),h.2.2.2.1.au fun g hg=>hk g (h.lt g hg) (.inr hg),h.2.2.2.2⟩
theorem OX.below (h:OX E w base T A n cap css xs F) (hb:Below w.heap.size w w'):OX E w' base T A n cap css xs F:=h.au hb.size fun g hl _=>hb.block g hl
theorem OX.alloc (h:OX E w base T A n cap css xs F) (o:Obj):OX E (w.alloc o) base T A n cap css xs F:=h.au (by simp) fun g hl _=>Below.heap_alloc w o g hl
theorem OX.drewN (h:OX E w base T A n cap css xs F) (q:Nat):OX E (w.drewN q) base T A n cap css xs F:=h.au Ql fun g hl _=>rfl
theorem OX.aj (h:OX E w base T A n cap css xs F):∀ g,blk A=some g->base<=g/\g<w.heap.size:=h.1.aj
theorem OX.lX {p:Addr} (h:OX E w base T A n cap css xs F) (hp:p.block<base) (u:Value):OX E (w.setCell p u) base T A n cap css xs F :=
 h.au (by simp[World.setCell]) fun g hl hg=>Below.heap_setCell w p u g (by
  rcases hg with hg|hg
  ·have:=(h.aj g hg).1;omega
  ·have:=(h.2.2.2.1.2 g hg).1;omega)
theorem OX.nil (w:World) (base:Nat) (T:TypeId):OX E w base T none 0 0 [] [] []:=⟨by have:=VO.nil w base T E.s;simpa using this,rfl,rfl,Fr.nil w base,fun g hg=>by cases hg⟩
theorem OX.kG (w:World) (hb:base<=w.heap.size) (T:TypeId):OX E (w.alloc (.cells #[] T)) base T (some ⟨w.heap.size,0,none⟩) 0 0 [] [] []:=⟨by have:=VO.kG w hb T E.s;simpa using this,rfl,rfl,Fr.nil _ base,fun g _ hg=>by cases hg⟩
theorem OX.mono (h:OX E w base T A n cap css xs F) (hb:base'<=base):OX E w base' T A n cap css xs F:=⟨h.1.mono hb,h.2.1,h.2.2.1,h.2.2.2.1.mono hb,h.2.2.2.2⟩
theorem OX.dC (h:OX E w base T A n cap css xs F):n<=cap/\cap<=maxLen:=h.1.dC
theorem OX.ri (h:OX E w base T A n cap css xs F) (hT:T≠25:=by decide):∃ F',RI E w A n cap xs F'/\Fr w base F':=by
 obtain⟨h1,h2,h3,h4,h5⟩:=h;have hc:=h1.dC
 by_cases hn:n=0
 ·subst hn;have:xs=[]:=List.eq_nil_of_length_eq_zero h2;subst this
  exact⟨[],⟨rfl,Nat.zero_le _,hc.2,.inl ⟨rfl,rfl⟩⟩,Fr.nil w base⟩
 ·obtain⟨g,rfl,hb,hg⟩:=h1.pos (by omega)
  obtain⟨cs,hblk⟩:∃ cs,Blk w g T cs:=by
   rcases h1.2 with⟨e,e'⟩|⟨g',c',cur,e,_,hh,_⟩
   ·omega
   ·injection e with e1;injection e1 with e1;injection e1 with e1;subst e1
    exact⟨_,hh⟩
  refine⟨g::F,⟨h2,hc.1,hc.2,.inr ⟨g,0,css,F,rfl,hg,rfl,h3,fun i cs hi j hj=>?_⟩⟩,Fr.cons hblk hb h4 (h5 g rfl) hT⟩
  have hil:i<n:=by
   have:=(List.getElem?_eq_some_iff.1 hi).1;rw[h3.length,h2] at this
   exact this
  have hlt:i*E.s+j<n*E.s:=by
   have:(i+1)*E.s<=n*E.s:=Nat.mul_le_mul_right _ hil;rw[Nat.succ_mul] at this
   omega
  rw[Nat.zero_add,h1.cell _ hlt];have:=iG (rest:=[]) h3.lens i cs hi j hj
  rwa [List.append_nil] at this
theorem Fr.zi {g:Nat} {cs:Array Value} (h:Fr w base F) (hb:Blk w g 25 cs):g∉F:=fun hg=>by
 obtain⟨_,t,cs',h2,h3⟩:=h.2 g hg;unfold Blk at hb h2;rw[hb] at h2;injection h2 with h2;injection h2 with _ h2
 exact h3 h2.symm
theorem OX.push {B:Nat} (h:OX E wr base T A k c css xs F) (hx:E.P wr ys x F1) (hf:Fr wr base F1) (hd:∀ g,g∈F1->g∉F/\blk A≠some g) (hb:Below B w wr) (hB:B<=base) (hbs:base<=wr.heap.size)
  (hown:w1.ownsRow base T E.s (.slice (some ⟨g,0,none⟩) (k+1) cap') (k+1) (css.flatten++ys)) (hg:(wr.alloc o).grownBy w1 (Value.slice A k c).ownBlock)
  (hat:(Value.slice A k c).ownBlock=some g\/g=wr.heap.size+1) :
  OX E w1 base T (some ⟨g,0,none⟩) (k+1) cap' (css++[ys]) (xs++[x]) (F++F1)/\Below B w w1/\bJ A wr w1:=by
 obtain⟨v1,v2,v3,v4⟩:=VO.push h.1 hb hB hbs hown hg hat;have hk:∀ g',g'<wr.heap.size->blk A≠some g'->w1.heap[g']?=wr.heap[g']?:=fun g' hl hne=>v3.block g' hl (fun e=>hne e.symm)
 have hFA:∀ g',g'∈F->blk A≠some g':=fun g' hg' e=>h.2.2.2.2 g' e hg'
 refine⟨⟨by rw[List.flatten_append];simpa using v1,by rw[List.length_append,h.2.1];rfl,?_,?_,?_⟩,v2,v3⟩
 ·exact(h.2.2.1.au fun g' hg'=>hk g' (h.lt g' hg') (hFA g' hg')).push (E.au _ _ _ _ _ hx fun g' hg'=>hk g' (E.lt _ _ _ _ hx g' hg') (hd g' hg').2)
 ·exact(h.2.2.2.1.au fun g' hg'=>hk g' (h.lt g' hg') (hFA g' hg')).app (hf.au fun g' hg'=>hk g' (hf.lt g' hg') (hd g' hg').2) (fun g' h1 h2=>(hd g' h2).1 h1)
 ·intro g' hg' hF;have e:g=g':=by simpa [blk] using hg'
  subst e;rcases v4 with h4|h4
  ·rcases List.mem_append.1 hF with hF|hF
   ·exact hFA g hF h4
   ·exact(hd g hF).2 h4
  ·rcases List.mem_append.1 hF with hF|hF
   ·have:=h.lt g hF;omega
   ·have:=hf.lt g hF;omega
end
end
@[reducible] def SMV (r1 c1:Int) (A1:Option Addr) (n1 p1:Nat) (r2 c2:Int) (A2:Option Addr) (n2 p2:Nat):Value:= .agg #[.int .i64 r1,.int .i64 c1,.slice A1 n1 p1,.int .i64 r2,.int .i64 c2,.slice A2 n2 p2]
def Br (a b:Mx) (w:World) (e:Ending) (w':World):Prop:=∃ (A B:Option Addr) (c d:Nat),e= .returned (SMV a.r a.c A a.v.length c b.r b.c B b.v.length d)/\OS w' w.heap.size A a.v.length c a.v/\OS w' w.heap.size B b.v.length d b.v/\eJ A B/\Below w.heap.size w w'
theorem dR (r1 c1 r2 c2:Int) (v1 v2:List Int) (A1 A2:Option Addr) (n1 p1 n2 p2:Nat) (w:World) (hx0:SI w A1 n1 v1) (hy0:SI w A2 n2 v2) (bn:n1<=1048576) (bm:n2<=1048576) :
  Calls prog 95 #[SMV r1 c1 A1 n1 p1 r2 c2 A2 n2 p2] w (Br ⟨r1,c1,v1⟩ ⟨r2,c2,v2⟩ w):=by
 have HX:=Qh hx0;have HY:=Qh hy0;clear hx0 hy0;refine zE ?_;intro u1 H;refine zG (aQ r1 c1 v1 A1 n1 p1 u1 (SI.below HX.out H.O) bn) ?_;rintro e w2 ⟨Aa,ca,rfl,os,hb⟩;replace H:=H.os hb os
 dsimp only at H ⊢
 refine zN ?_;clear H;intro u3 H;refine zG (aQ r2 c2 v2 A2 n2 p2 u3 (SI.below HY.out H.O) bm) ?_;rintro e w4 ⟨Ab,cb,rfl,os,hb⟩;replace H:=H.os hb os
 dsimp only at H ⊢
 refine zS_ ?_;clear H;intro u5 H
 exact⟨_,_,_,_,rfl,(H.o 1),(H.o 0),fun g h1 h2=>H.noo 1 0 g h1 h2,H.O⟩
def sP {α:Type} (E:Elt α) (x:α) (w:World) (e:Ending) (w':World):Prop:=∃ cs F,e= .returned (.agg cs.toArray)/\E.P w' cs x F/\Fr w' w.heap.size F/\Below w.heap.size w w'
def jV {α:Type} (E:Elt α) (xs:List α) (w:World) (e:Ending) (w':World):Prop:=∃ A c F,e= .returned (.slice A xs.length c)/\RI E w' A xs.length c xs F/\Fr w' w.heap.size F/\Below w.heap.size w w'
theorem jV.uk {α:Type} {E:Elt α} {w w':World} {T:TypeId} {A:Option Addr} {n c:Nat} {css:List (List Value)} {xs:List α} {F:List Nat} (h:OX E w' w.heap.size T A n c css xs F) (hb:Below w.heap.size w w') (hT:T≠25:=by decide):jV E xs w (.returned (.slice A n c)) w':=by
 obtain⟨F',h1,h2⟩:=h.ri hT;obtain rfl:=h.2.1
 exact⟨A,c,F',rfl,h1,h2,hb⟩
theorem RI.cells {α:Type} {E:Elt α} {w:World} {A:Option Addr} {n cap:Nat} {xs:List α} {F:List Nat} (h:RI E w A n cap xs F) {i:Nat} {x:α} (hx:xs[i]?=some x) (m:Nat) (hm:E.s=m) :
  ∃ b off cs F',A=some ⟨b,off,none⟩/\b<w.heap.size/\(∀ j,j<m->w.cell? ⟨b,off+i*m+j,none⟩=cs[j]?)/\(∀ g,g∈F'->g∈F)/\E.P w cs x F':=by
 subst hm;obtain⟨b,off,cs,F',e,hb,hc,hF,hp⟩:=h.at hx
 exact⟨b,off,cs,F',e,hb,fun j hj=>by rw[Nat.add_assoc];exact hc j hj,hF,hp⟩
theorem aH {α:Type} {xs:List α} {j:Nat} (h:j<xs.length):∃ x,xs[j]?=some x/\x∈xs:=⟨xs[j],List.getElem?_eq_getElem h,List.getElem_mem h⟩
theorem aW {α:Type} {xs:List α} {j:Nat} {x:α} (h:xs[j]?=some x):xs.take (j+1)=xs.take j++[x]:=by
 obtain⟨hl,rfl⟩:=List.getElem?_eq_some_iff.1 h
 exact(List.take_append_getElem hl).symm
def mS (m:Mx):Prop:=m.v.length<=1048576
def smS (p:Mx×Mx):Prop:=mS p.1/\mS p.2
def kS {α:Type} (S:α->Prop) (l:Int×List α):Prop:=l.2.length<=1048576/\∀ p,p∈l.2->S p
def GH {α:Type} (S:α->Prop) (l:List α):Prop:=l.length<=1048576/\∀ p,p∈l->S p
theorem rI:(prog.info? 37).map (fun i=>(i.zero,i.size,i.bytes))=some (some (.agg #[.int .i64 0,.int .i64 0,.slice none 0 0]),3,40):=by kernel_rfl
theorem lq:(prog.info? 82).map (fun i=>(i.zero,i.size,i.bytes))=some (some (.agg #[.int .i64 0,.int .i64 0,.slice none 0 0,.int .i64 0,.int .i64 0,.slice none 0 0]),6,80):=by kernel_rfl
theorem we:(prog.info? 80).map (fun i=>(i.zero,i.size,i.bytes))=some (some (.agg #[.int .i64 0,.slice none 0 0]),2,32):=by kernel_rfl
theorem nJ:(prog.info? 99).map (fun i=>(i.zero,i.size,i.bytes))=some (some (.agg #[.int .i64 0,.slice none 0 0]),2,32):=by kernel_rfl
theorem BZ (W:World) (cs:List Value) (x:Mx) (F:List Nat) (h:mxE.P W cs x F) (b:mS x):Calls prog 92 #[.agg cs.toArray] W (sP mxE x W):=by
 obtain⟨A,c,rfl,h1⟩:=h;refine(aQ x.r x.c x.v A _ c W h1.1 b).mono ?_;rintro e w' ⟨A',c',rfl,o1,hb⟩
 exact⟨_,_,rfl,⟨A',c',rfl,MF.aB o1⟩,ek o1,hb⟩
theorem Im (W:World) (cs:List Value) (x:Mx×Mx) (F:List Nat) (h:smE.P W cs x F) (b:smS x):Calls prog 95 #[.agg cs.toArray] W (sP smE x W):=by
 obtain⟨A,c,B,d,F1,F2,rfl,h1,h2,_⟩:=h;refine(dR x.1.r x.1.c x.2.r x.2.c x.1.v x.2.v A B _ c _ d W h1.1 h2.1 b.1 b.2).mono ?_;rintro e w' ⟨A',B',c',d',rfl,o1,o2,ap,hb⟩
 exact⟨_,_,rfl,⟨A',c',B',d',_,_,rfl,MF.aB o1,MF.aB o2,rfl⟩,Fr.app (ek o1) (ek o2) (fun g h1 h2=>ap g (bz h1).2 (bz h2).2),hb⟩
section
theorem uS (z:Array Value) (hz:0<z.size) (n:Nat):(madeCells z (n*z.size)).toList=(List.replicate n z.toList).flatten:=by
 apply List.ext_getElem?
 intro k
 by_cases hk:k<n*z.size
 ·have hi:k/z.size<n:=Nat.div_lt_of_lt_mul (by rwa [Nat.mul_comm] at hk)
  have hj:k%z.size<z.size:=Nat.mod_lt _ hz;have h:=iG (s:=z.size) (css:=List.replicate n z.toList) (rest:=[]) (by intro cs h;rw[List.eq_of_mem_replicate h];simp) (k/z.size) z.toList (by rw[List.getElem?_replicate];simp[hi]) (k%z.size) hj
  rw[List.append_nil,Nat.mul_comm,Nat.div_add_mod] at h;rw[h]
  simp[madeCells,hk,hj]
 ·rw[List.getElem?_eq_none (by simp[size_madeCells];omega),List.getElem?_eq_none]
  rw[List.length_flatten]
  simp
  omega
theorem VO.made (w:World) (T:TypeId) (z:Array Value) (hz:0<z.size) (n:Nat) (hn:n<=maxLen):VO (w.alloc (.cells (madeCells z (n*z.size)) T)) w.heap.size T z.size (some ⟨w.heap.size,0,none⟩) n n (List.replicate n z.toList).flatten:=by
 have h:=World.ownsRow_lit (base:=w.heap.size) (e:=T) (size:=z.size) w (madeCells z (n*z.size)) n Ql hn (by simp[size_madeCells])
 rw[uS z hz n] at h
 exact h
def ZL:Array Value:=#[.int .i64 0,.slice none 0 0]
theorem CG (n:Nat) (hn:n<=1048576) (w:World):(Instr.makeSlice 32 (.int .i64 (n:Int)) (.int .i64 (n:Int))).run prog w= .ok (.slice (some ⟨w.heap.size,0,none⟩) n n) (w.alloc (.cells (madeCells ZL (n*ZL.size)) 80)):=by
 obtain⟨i,hi,hz,h1,h8⟩:=info_parts we;have h:=run_make (P:=prog) w 32 80 i _ underlying32 hi hz .i64 .i64 (n:Int) (n:Int) (by omega) (Int.le_refl _) (by rw[h8];omega) (by omega)
 rw[h,h1];simp only[Int.toNat_natCast]
 rfl
theorem zf (n:Nat) (hn:n<=1048576) (w:World):(Instr.makeSlice 23 (.int .i64 (n:Int)) (.int .i64 (n:Int))).run prog w= .ok (.slice (some ⟨w.heap.size,0,none⟩) n n) (w.alloc (.cells (madeCells ZL (n*ZL.size)) 99)):=by
 obtain⟨i,hi,hz,h1,h8⟩:=info_parts nJ;have h:=run_make (P:=prog) w 23 99 i _ underlying23 hi hz .i64 .i64 (n:Int) (n:Int) (by omega) (Int.le_refl _) (by rw[h8];omega) (by omega)
 rw[h,h1];simp only[Int.toNat_natCast]
 rfl
def FX {α:Type} (E:Elt α) (w:World) (base:Nat) (T:TypeId) (g n:Nat) (css:List (List Value)) (rest:List Value) (xs:List α) (F:List Nat):Prop :=
 VO w base T E.s (some ⟨g,0,none⟩) n n (css.flatten++rest)/\dJ E w css xs F/\Fr w base F/\g∉F
theorem dS {α:Type} {E:Elt α} {w:World} {css:List (List Value)} {xs:List α} {F:List Nat} (h:dJ E w css xs F):css.flatten.length=xs.length*E.s:=by
 have:∀ {css:List (List Value)},(∀ cs,cs∈css->cs.length=E.s)->css.flatten.length=css.length*E.s:=by
  intro css
  induction css with
  | nil=>intro _;simp
  | cons c l ih =>
   intro hl;rw[List.flatten_cons,List.length_append,ih (fun cs h=>hl cs (List.mem_cons_of_mem _ h)),hl c (List.mem_cons_self ..),List.length_cons,Nat.succ_mul]
   omega
 rw[this h.lens,h.length]
section
variable {α:Type} {E:Elt α} {w w':World} {base base' g n:Nat} {T:TypeId} {css:List (List Value)} {rest:List Value} {xs:List α} {F F1:List Nat} {ys:List Value} {x:α}
theorem FX.made (w:World) (T:TypeId) (z:Array Value) (hz:0<z.size) (hs:E.s=z.size) (n:Nat) (hn:n<=maxLen):FX E (w.alloc (.cells (madeCells z (n*z.size)) T)) w.heap.size T w.heap.size n [] (List.replicate n z.toList).flatten [] [] :=
 ⟨by rw[hs];exact VO.made w T z hz n hn,rfl,Fr.nil _ _,fun h=>by cases h⟩
theorem FX.au (h:FX E w base T g n css rest xs F) (hs:w.heap.size<=w'.heap.size) (hk:∀ g',g'<w.heap.size->(g'=g\/g'∈F)->w'.heap[g']?=w.heap[g']?):FX E w' base T g n css rest xs F :=
 ⟨h.1.au hs fun g' hg hl=>hk g' hl (.inl (by have e:g=g':=(by simpa [blk] using hg);exact e.symm)),h.2.1.au fun g' hg=>hk g' (h.2.1.lt g' hg) (.inr hg),h.2.2.1.au fun g' hg=>hk g' (h.2.1.lt g' hg) (.inr hg),h.2.2.2⟩
theorem FX.below (h:FX E w base T g n css rest xs F) (hb:Below w.heap.size w w'):FX E w' base T g n css rest xs F:=h.au hb.size fun g' hl _=>hb.block g' hl
theorem FX.glt (h:FX E w base T g n css rest xs F):base<=g/\g<w.heap.size:=h.1.aj g rfl
theorem FX.ri (h:FX E w base T g n css [] xs F) (hn:xs.length=n) (hT:T≠25:=by decide):∃ F',RI E w (some ⟨g,0,none⟩) n n xs F'/\Fr w base F':=by
 have h1:=h.1;rw[List.append_nil] at h1
 exact OX.ri ⟨h1,hn,h.2.1,h.2.2.1,fun g' hg=>(by have e:g=g':=(by simpa [blk] using hg);rw[<-e];exact h.2.2.2)⟩ hT
theorem FX.put {pre a b:List Value} {u:Value} {j:Nat} (h:VO w base T E.s (some ⟨g,0,none⟩) n n (pre++(a++u::b))) (hj:j=pre.length+a.length) (v:Value):VO (w.setCell ⟨g,j,none⟩ v) base T E.s (some ⟨g,0,none⟩) n n (pre++(a++v::b)):=by
 have:=h.store j v;subst hj;rw[List.set_append_right _ _ (by omega),Nat.add_sub_cancel_left,List.set_append_right _ _ Ql,Nat.sub_self,List.set_cons_zero] at this
 exact this
theorem FX.step (hv:VO w' base T E.s (some ⟨g,0,none⟩) n n (css.flatten++(ys++rest))) (he:dJ E w css xs F) (hf:Fr w base F) (hg:g∉F) (hk:∀ g',g'∈F->w'.heap[g']?=w.heap[g']?)
  (hx:E.P w' ys x F1) (hf1:Fr w' base F1) (hd:∀ g',g'∈F1->g'∉F/\g'≠g):FX E w' base T g n (css++[ys]) rest (xs++[x]) (F++F1) :=
 ⟨by rw[List.flatten_append,List.append_assoc];simpa using hv,(he.au hk).push hx,(hf.au hk).app hf1 (fun g' h1 h2=>(hd g' h2).1 h1),fun h=>(List.mem_append.1 h).elim hg (fun h=>(hd g h).2 rfl)⟩
end
theorem eG {T:TypeId} {s:Nat} {u:Value} {a b:List Value} {wi:World} {gj n base:Nat} {pre:List Value} (h:VO wi base T s (some ⟨gj,0,none⟩) n n (pre++(a++u::b))) {i:Nat} (hi:i=pre.length+a.length):wi.cell? ⟨gj,i,none⟩=some u:=by
 have hl:=h.len;rw[h.cell i (by simp at hl;omega),hi,List.getElem?_append_right (by omega),Nat.add_sub_cancel_left,List.getElem?_append_right Ql,Nat.sub_self]
 rfl
end
end Go.Proofs.YtjciicheoghcdaaGreatDoor

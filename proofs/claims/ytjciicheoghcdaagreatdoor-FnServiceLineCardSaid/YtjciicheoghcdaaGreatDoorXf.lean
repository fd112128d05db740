/- Part of the proof that the law FnServiceLine of the given program returns true for every input. -/
import Derived.Deep.AppendLies
import Derived.Test.YtjciicheoghcdaaGreatDoorXc
import Derived.Test.YtjciicheoghcdaaGreatDoorXd
import Derived.Test.YtjciicheoghcdaaGreatDoorXe
namespace Go.Proofs.YtjciicheoghcdaaGreatDoor
open Go.RowKit
set_option linter.unusedSimpArgs false
set_option linter.unusedVariables false
set_option maxRecDepth 20000
set_option maxHeartbeats 16000000
section
def VO (w:World) (base:Nat) (T:TypeId) (s:Nat) (A:Option Addr) (n cap:Nat) (vs:List Value):Prop:=w.ownsRow base T s (.slice A n cap) n vs
section
variable {w w':World} {base n cap s:Nat} {A:Option Addr} {vs:List Value} {T:TypeId}
theorem VO.len (h:VO w base T s A n cap vs):vs.length=n*s:=h.1
theorem VO.dC (h:VO w base T s A n cap vs):n<=cap/\cap<=maxLen:=by
 rcases h.2 with ⟨e,e'⟩ | ⟨g,c,cur,e,_,_,h1,h2,_⟩
 ·injection e with e1 e2 e3;subst e3;subst e';exact ⟨Nat.le_refl _,by unfold maxLen;omega⟩
 ·injection e with e1 e2 e3;subst e3;exact ⟨h1,h2⟩
theorem VO.pos (h:VO w base T s A n cap vs) (hn:0<n):∃ g,A=some ⟨g,0,none⟩/\base<=g/\g<w.heap.size:=by
 rcases h.2 with ⟨e,e'⟩ | ⟨g,c,cur,e,hb,hh,_⟩
 ·omega
 ·injection e with e1
  exact ⟨g,e1,hb,(Array.getElem?_eq_some_iff.1 hh).1⟩
theorem VO.aj (h:VO w base T s A n cap vs):∀ g,blk A=some g->base<=g/\g<w.heap.size:=fun g hg=>h.lt g (by rw [aO];exact hg)
theorem VO.frozen {g:Nat} (h:VO w base T s (some ⟨g,0,none⟩) n cap vs) (j:Nat):w.frozen? ⟨g,j,none⟩=false:=World.ownsRow.frozenAt h j
theorem VO.cell {g:Nat} (h:VO w base T s (some ⟨g,0,none⟩) n cap vs) (j:Nat) (hj:j<n*s):w.cell? ⟨g,j,none⟩=vs[j]?:=World.ownsRow.cellAt h j hj
theorem VO.au (h:VO w base T s A n cap vs) (hs:w.heap.size<=w'.heap.size) (hk:∀ g,blk A=some g->g<w.heap.size->w'.heap[g]?=w.heap[g]?):VO w' base T s A n cap vs:=by
 refine ⟨h.1,?_⟩;rcases h.2 with hn | ⟨g,c,cur,e,hb,hh,rest⟩
 ·exact .inl hn
 ·refine .inr ⟨g,c,cur,e,hb,?_,rest⟩;rw [hk g (by injection e with e1;rw [e1];rfl) (Array.getElem?_eq_some_iff.1 hh).1]
  exact hh
theorem VO.below (h:VO w base T s A n cap vs) (hb:Below w.heap.size w w'):VO w' base T s A n cap vs:=h.au hb.size fun g _ hg=>hb.block g hg
theorem VO.alloc (h:VO w base T s A n cap vs) (o:Obj):VO (w.alloc o) base T s A n cap vs:=h.au (by simp) fun g _ hg=>Below.heap_alloc w o g hg
theorem VO.drewN (h:VO w base T s A n cap vs) (k:Nat):VO (w.drewN k) base T s A n cap vs:=h
theorem VO.bR {B:Option Addr} (h:VO w base T s A n cap vs) (ho:bJ B w w') (ha:eJ A B):VO w' base T s A n cap vs :=
 h.au ho.size fun g hg hl=>ho.block g hl (fun e=>ha g hg e.symm)
theorem VO.only {rb:Nat} (h:VO w base T s A n cap vs) (ho:aZ rb w w') (hr:rb<base):VO w' base T s A n cap vs:=h.au ho.size fun g hg hl=>ho.block g hl (fun e=>by injection e;have:=(h.aj g hg).1;omega)
theorem VO.far {p:Addr} (h:VO w base T s A n cap vs) (hp:blk A≠some p.block) (u:Value):VO (w.setCell p u) base T s A n cap vs :=
 h.au (by simp [World.setCell]) fun g hg _=>Below.heap_setCell w p u g (fun e=>hp (by rw [hg,e]))
theorem VO.lX {p:Addr} (h:VO w base T s A n cap vs) (hp:p.block<base) (u:Value):VO (w.setCell p u) base T s A n cap vs:=h.far (fun e=>by have:=(h.aj _ e).1;omega) u
theorem VO.nil (w:World) (base:Nat) (T:TypeId) (s:Nat):VO w base T s none 0 0 []:=World.ownsRow_nil w base _ _
theorem VO.kG (w:World) {base:Nat} (hb:base<=w.heap.size) (T:TypeId) (s:Nat):VO (w.alloc (.cells #[] T)) base T s (some ⟨w.heap.size,0,none⟩) 0 0 [] :=
 ⟨by simp,.inr ⟨w.heap.size,0,_,rfl,hb,Blk.new w T #[],Nat.le_refl _,by unfold maxLen;omega,by simp,by simp⟩⟩
theorem VO.mono {base':Nat} (h:VO w base T s A n cap vs) (hb:base'<=base):VO w base' T s A n cap vs:=by
 refine ⟨h.1,?_⟩;rcases h.2 with hn | ⟨g,c,cur,e,hg,rest⟩
 ·exact .inl hn
 ·exact .inr ⟨g,c,cur,e,by omega,rest⟩
theorem VO.store {g:Nat} (h:VO w base T s (some ⟨g,0,none⟩) n cap vs) (j:Nat) (x:Value):VO (w.setCell ⟨g,j,none⟩ x) base T s (some ⟨g,0,none⟩) n cap (vs.set j x):=(World.ownsRow.stored h j x).1
theorem VO.push {B k c g cap' m:Nat} {wr w1:World} {ys:List Value} {o:Obj} (h:VO wr base T s A k c vs) (hb:Below B w wr) (hB:B<=base) (hbs:base<=wr.heap.size)
  (hown:w1.ownsRow base T s (.slice (some ⟨g,0,none⟩) m cap') m (vs++ys)) (hg:(wr.alloc o).grownBy w1 (Value.slice A k c).ownBlock)
  (hat:(Value.slice A k c).ownBlock=some g\/g=wr.heap.size+1) :
  VO w1 base T s (some ⟨g,0,none⟩) m cap' (vs++ys)/\Below B w w1/\bJ A wr w1/\(blk A=some g\/wr.heap.size<=g):=by
 rw [aO] at hg hat;refine ⟨hown,(hb.alloc (by omega) o).grown hg (by simp;omega) (fun g hg'=>Nat.le_trans hB (h.aj g hg').1),⟨hg.os,hg.tape,hg.output,by have:=hg.size;simp at this;omega,fun i hi hne=>(hg.block i (by simp;omega) hne).trans (Below.heap_alloc wr o i hi)⟩,?_⟩
 rcases hat with h | h
 ·exact .inl h
 ·exact .inr (by omega)
end
theorem VO.gu {w:World} {base n c s h:Nat} {A:Option Addr} {vs:List Value} {T t:TypeId} {cs:Array Value} (ho:VO w base T s A n c vs) (hb:Blk w h t cs) (hne:T≠t):blk A≠some h:=by
 intro e;rcases ho.2 with ⟨e1,_⟩ | ⟨g2,cap,cur,e1,_,hh,_⟩
 ·injection e1 with e1;subst e1;cases e
 ·injection e1 with e1;subst e1;injection e with e
  dsimp only at e
  subst e;unfold Blk at hb;rw [hb] at hh;injection hh with hh;injection hh with _ hh
  exact hne hh.symm
theorem Blk.BW {w w':World} {base n c s g:Nat} {A:Option Addr} {vs:List Value} {T t:TypeId} {cs:Array Value} (h:Blk w g t cs) (ho:bJ A w w') (hv:VO w base T s A n c vs) (hne:T≠t):Blk w' g t cs :=
 (ho.block g h.lt (fun e=>hv.gu h hne e.symm)).trans h
theorem fk (w:World) (T:TypeId) (x:Value):∀ j u,[x][j]?=some u->(w.alloc (.cells #[x] T)).cell? ((⟨w.heap.size,0,none⟩:Addr).add j)=some u:=by
 intro j u hu;have hj:j=0:=by
  rcases Nat.lt_or_ge j 1 with h | h
  ·omega
  ·rw [List.getElem?_eq_none (by simpa using h)] at hu;cases hu
 subst hj;have hadd:(⟨w.heap.size,0,none⟩:Addr).add 0=⟨w.heap.size,0,none⟩:=by unfold Addr.add;split <;> simp_all
 rw [hadd]
 exact ((Blk.new w T #[x]).cell 0).trans (by simpa using hu)
theorem dz (w:World) (T:TypeId) (xs:List Value):∀ j u,xs[j]?=some u->(w.alloc (.cells xs.toArray T)).cell? ((⟨w.heap.size,0,none⟩:Addr).add j)=some u:=by
 intro j u hu;have hadd:(⟨w.heap.size,0,none⟩:Addr).add j=⟨w.heap.size,j,none⟩:=by unfold Addr.add;split <;> simp_all
 rw [hadd]
 exact ((Blk.new w T xs.toArray).cell j).trans (by simpa using hu)
end
structure Mx where
 r:Int
 c:Int
 v:List Int
def Mx.z:Mx:=⟨0,0,[]⟩
def side (n:Int):Bool:=decide (1<=n/\n<=5)
def mvB (m:Mx):Bool:=side m.r && (side m.c && (decide ((m.v.length:Int)=m.r*m.c) && m.v.all rv))
@[reducible] def MV (r c:Int) (A:Option Addr) (n cap:Nat):Value:= .agg #[.int .i64 r,.int .i64 c,.slice A n cap]
theorem bI {n:Int} (h:side n=true):1<=n/\n<=5:=of_decide_eq_true h
theorem e6 {r c:Int} (h1:side r=true) (h2:side c=true):1<=r*c/\r*c<=25:=by
 obtain ⟨a,b⟩:=bI h1;obtain ⟨d,e⟩:=bI h2;have h3:r*c<=5*5:=Int.mul_le_mul b e (by omega) (by omega)
 have h4:1*1<=r*c:=Int.mul_le_mul a d (by omega) (by omega)
 omega
theorem dt (n:Int) (w:World):Calls Tryz.prog 106 #[.int .i64 n] w fun e w'=>e= .returned (.bool (side n))/\w=w':=by
 by_cases h1:1<=n
 ·by_cases h2:n<=5
  ·have e:side n=true:=decide_eq_true ⟨h1,h2⟩;rw [e];clear e
   go_enter Tryz.func106,Tryz.ntmps106
   go_wp2
   go_ret
   exact ⟨rfl,rfl⟩
  ·have e:side n=false:=decide_eq_false (fun h=>h2 h.2)
   rw [e];clear e
   go_enter Tryz.func106,Tryz.ntmps106
   go_wp2
   go_ret
   exact ⟨rfl,rfl⟩
 ·have e:side n=false:=decide_eq_false (fun h=>h1 h.1)
  rw [e];clear e
  go_enter Tryz.func106,Tryz.ntmps106
  go_wp2
  go_ret
  exact ⟨rfl,rfl⟩
theorem aw (r c:Int) (v:List Int) (A:Option Addr) (n cap:Nat) (w:World) (hx0:SI w A n v) (bn:n<=281474976710656) :
  Calls Tryz.prog 57 #[MV r c A n cap] w fun e w'=>e= .returned (.bool (mvB ⟨r,c,v⟩))/\Below w.heap.size w w':=by
 have hlen:=hx0.1;have hx:=Lib.hid hx0;clear hx0
 cases h1:side r
 ·have e:mvB ⟨r,c,v⟩=false:=by simp [mvB,h1]
  rw [e];clear e hlen
  go_enter Tryz.func57,Tryz.ntmps57
  go_wp2_with fail
  obtain ⟨u1,hu1⟩:∃ u,u=(w.alloc (.cells #[.int .i64 r,.int .i64 c,.slice A n cap] 37)):=⟨_,rfl⟩;rw [<- hu1];have hzu1:u1.heap.size<=w.heap.size+1:=by rw [hu1];simp
  have hyu1:w.heap.size+1<=u1.heap.size:=by rw [hu1];simp
  have B1_1:Blk u1 (w.heap.size) 37 #[.int .i64 r,.int .i64 c,.slice A n cap]:=by rw [hu1];have h:=(Blk.new w 37 #[.int .i64 r,.int .i64 c,.slice A n cap]);simpa using h
  have xb1:w.heap.size<=w.heap.size:=by omega
  have O1:Below w.heap.size w u1:=by rw [hu1];exact ((Below.refl w.heap.size w).alloc (by first | omega | (simp;done) | (simp;omega)) _)
  have m1:w.heap.size<=u1.heap.size:=by omega
  clear hu1;refine (dt r u1).mono ?_;rintro e w' ⟨rfl,rfl⟩;have z1_1:w.heap.size<u1.heap.size:=B1_1.lt;have c1_1_0:u1.cell? ⟨w.heap.size,0,none⟩=some (.int .i64 r):=B1_1.cell 0;have f1_1_0:u1.frozen? ⟨w.heap.size,0,none⟩=false:=B1_1.frozen 0;have c1_1_1:u1.cell? ⟨w.heap.size,1,none⟩=some (.int .i64 c):=B1_1.cell 1;have f1_1_1:u1.frozen? ⟨w.heap.size,1,none⟩=false:=B1_1.frozen 1;have c1_1_2:u1.cell? ⟨w.heap.size,2,none⟩=some (.slice A n cap):=B1_1.cell 2;have f1_1_2:u1.frozen? ⟨w.heap.size,2,none⟩=false:=B1_1.frozen 2;go_wp2
  go_ret
  exact ⟨rfl,O1⟩
 cases h2:side c
 ·have e:mvB ⟨r,c,v⟩=false:=by simp [mvB,h2]
  rw [e];clear e hlen
  go_enter Tryz.func57,Tryz.ntmps57
  go_wp2_with fail
  obtain ⟨u1,hu1⟩:∃ u,u=(w.alloc (.cells #[.int .i64 r,.int .i64 c,.slice A n cap] 37)):=⟨_,rfl⟩;rw [<- hu1];have hzu1:u1.heap.size<=w.heap.size+1:=by rw [hu1];simp
  have hyu1:w.heap.size+1<=u1.heap.size:=by rw [hu1];simp
  have B1_1:Blk u1 (w.heap.size) 37 #[.int .i64 r,.int .i64 c,.slice A n cap]:=by rw [hu1];have h:=(Blk.new w 37 #[.int .i64 r,.int .i64 c,.slice A n cap]);simpa using h
  have xb1:w.heap.size<=w.heap.size:=by omega
  have O1:Below w.heap.size w u1:=by rw [hu1];exact ((Below.refl w.heap.size w).alloc (by first | omega | (simp;done) | (simp;omega)) _)
  have m1:w.heap.size<=u1.heap.size:=by omega
  clear hu1;refine (dt r u1).mono ?_;rintro e w' ⟨rfl,rfl⟩;have z1_1:w.heap.size<u1.heap.size:=B1_1.lt;have c1_1_0:u1.cell? ⟨w.heap.size,0,none⟩=some (.int .i64 r):=B1_1.cell 0;have f1_1_0:u1.frozen? ⟨w.heap.size,0,none⟩=false:=B1_1.frozen 0;have c1_1_1:u1.cell? ⟨w.heap.size,1,none⟩=some (.int .i64 c):=B1_1.cell 1;have f1_1_1:u1.frozen? ⟨w.heap.size,1,none⟩=false:=B1_1.frozen 1;have c1_1_2:u1.cell? ⟨w.heap.size,2,none⟩=some (.slice A n cap):=B1_1.cell 2;have f1_1_2:u1.frozen? ⟨w.heap.size,2,none⟩=false:=B1_1.frozen 2
  go_wp2_with fail
  refine (dt c u1).mono ?_;rintro e w' ⟨rfl,rfl⟩;go_wp2
  go_ret
  exact ⟨rfl,O1⟩
 obtain ⟨m1,m2⟩:=e6 h1 h2;have q1:=IntWalk.i64_in (r*c) (by omega)
 by_cases hl:(n:Int)=r*c
 ·have e:mvB ⟨r,c,v⟩=v.all rv:=by simp [mvB,h1,h2,hlen,hl]
  rw [e];have hlb:((n:Int) == r*c)=true:=by simp [hl]
  clear e hlen hl
  cases ha:v.all rv
  all_goals
   go_enter Tryz.func57,Tryz.ntmps57
   go_wp2_with fail
   obtain ⟨u1,hu1⟩:∃ u,u=(w.alloc (.cells #[.int .i64 r,.int .i64 c,.slice A n cap] 37)):=⟨_,rfl⟩;rw [<- hu1];have hzu1:u1.heap.size<=w.heap.size+1:=by rw [hu1];simp
   have hyu1:w.heap.size+1<=u1.heap.size:=by rw [hu1];simp
   have B1_1:Blk u1 (w.heap.size) 37 #[.int .i64 r,.int .i64 c,.slice A n cap]:=by rw [hu1];have h:=(Blk.new w 37 #[.int .i64 r,.int .i64 c,.slice A n cap]);simpa using h
   have xb1:w.heap.size<=w.heap.size:=by omega
   have O1:Below w.heap.size w u1:=by rw [hu1];exact ((Below.refl w.heap.size w).alloc (by first | omega | (simp;done) | (simp;omega)) _)
   have m1:w.heap.size<=u1.heap.size:=by omega
   clear hu1;refine (dt r u1).mono ?_;rintro e w' ⟨rfl,rfl⟩;have z1_1:w.heap.size<u1.heap.size:=B1_1.lt;have c1_1_0:u1.cell? ⟨w.heap.size,0,none⟩=some (.int .i64 r):=B1_1.cell 0;have f1_1_0:u1.frozen? ⟨w.heap.size,0,none⟩=false:=B1_1.frozen 0;have c1_1_1:u1.cell? ⟨w.heap.size,1,none⟩=some (.int .i64 c):=B1_1.cell 1;have f1_1_1:u1.frozen? ⟨w.heap.size,1,none⟩=false:=B1_1.frozen 1;have c1_1_2:u1.cell? ⟨w.heap.size,2,none⟩=some (.slice A n cap):=B1_1.cell 2;have f1_1_2:u1.frozen? ⟨w.heap.size,2,none⟩=false:=B1_1.frozen 2
   go_wp2_with fail
   refine (dt c u1).mono ?_;rintro e w' ⟨rfl,rfl⟩
   go_wp2_with fail
   refine (iY A n cap v u1 (SI.below hx.out O1) (by omega)).mono ?_
   rintro e w' ⟨rfl,rfl⟩;go_wp2
   go_ret
   exact ⟨rfl,O1⟩
 ·have e:mvB ⟨r,c,v⟩=false:=by simp [mvB,hlen,hl]
  rw [e];have hlb:((n:Int) == r*c)=false:=by simp [hl]
  clear e hlen hl
  go_enter Tryz.func57,Tryz.ntmps57
  go_wp2_with fail
  obtain ⟨u1,hu1⟩:∃ u,u=(w.alloc (.cells #[.int .i64 r,.int .i64 c,.slice A n cap] 37)):=⟨_,rfl⟩;rw [<- hu1];have hzu1:u1.heap.size<=w.heap.size+1:=by rw [hu1];simp
  have hyu1:w.heap.size+1<=u1.heap.size:=by rw [hu1];simp
  have B1_1:Blk u1 (w.heap.size) 37 #[.int .i64 r,.int .i64 c,.slice A n cap]:=by rw [hu1];have h:=(Blk.new w 37 #[.int .i64 r,.int .i64 c,.slice A n cap]);simpa using h
  have xb1:w.heap.size<=w.heap.size:=by omega
  have O1:Below w.heap.size w u1:=by rw [hu1];exact ((Below.refl w.heap.size w).alloc (by first | omega | (simp;done) | (simp;omega)) _)
  have m1:w.heap.size<=u1.heap.size:=by omega
  clear hu1;refine (dt r u1).mono ?_;rintro e w' ⟨rfl,rfl⟩;have z1_1:w.heap.size<u1.heap.size:=B1_1.lt;have c1_1_0:u1.cell? ⟨w.heap.size,0,none⟩=some (.int .i64 r):=B1_1.cell 0;have f1_1_0:u1.frozen? ⟨w.heap.size,0,none⟩=false:=B1_1.frozen 0;have c1_1_1:u1.cell? ⟨w.heap.size,1,none⟩=some (.int .i64 c):=B1_1.cell 1;have f1_1_1:u1.frozen? ⟨w.heap.size,1,none⟩=false:=B1_1.frozen 1;have c1_1_2:u1.cell? ⟨w.heap.size,2,none⟩=some (.slice A n cap):=B1_1.cell 2;have f1_1_2:u1.frozen? ⟨w.heap.size,2,none⟩=false:=B1_1.frozen 2
  go_wp2_with fail
  refine (dt c u1).mono ?_;rintro e w' ⟨rfl,rfl⟩;go_wp2
  go_ret
  exact ⟨rfl,O1⟩
theorem aT (x:Int) {b:Bool} (h:side x=b) (w:World):Calls Tryz.prog 53 #[.int .i64 x,.int .i64 1,.int .i64 5] w fun e w'=>e= .returned (.bool b)/\w=w':=by
 subst h
 exact lL x 1 5 w
theorem yd {r c:Int} {v:List Int} (h:v.length=0) (m:1<=r*c):mvB ⟨r,c,v⟩=false:=by
 have:¬ (0:Int)=r*c:=by omega
 simp [mvB,h,this]
theorem AE {r c:Int} {v:List Int} (h:v.all rv=false):mvB ⟨r,c,v⟩=false:=by simp [mvB,h]
theorem aM (r c:Int) (v:List Int) (A:Option Addr) (n cap:Nat) (w:World) (hx0:SI w A n v) (bn:n<=281474976710656) :
  Calls Tryz.prog 89 #[MV r c A n cap] w fun e w'=>e= .returned (.bool (mvB ⟨r,c,v⟩))/\Below w.heap.size w w':=by
 obtain ⟨u1,hu1⟩:∃ u,u=w.alloc (.cells #[.int .i64 r,.int .i64 c,.slice A n cap] 37):=⟨_,rfl⟩;have B1:Blk u1 w.heap.size 37 #[.int .i64 r,.int .i64 c,.slice A n cap]:=by rw [hu1];exact Blk.new w _ _
 have HO1:Hid (Below w.heap.size w u1):=by rw [hu1];exact (Below.refl _ _).alloc (Nat.le_refl _) _
 have HX:Hid (SI u1 A n v):=SI.below hx0 (by rw [hu1];exact (Below.refl _ _).alloc (Nat.le_refl _) _)
 have HLN:=Lib.hid hx0.1;have c0:u1.cell? ⟨w.heap.size,0,none⟩=some (.int .i64 r):=B1.cell 0;have c1:u1.cell? ⟨w.heap.size,1,none⟩=some (.int .i64 c):=B1.cell 1;have c2:u1.cell? ⟨w.heap.size,2,none⟩=some (.slice A n cap):=B1.cell 2;clear hx0 B1
 by_cases h0:n=0
 ·subst h0;have HALL:Hid (v.all rv=true):=by rw [List.eq_nil_of_length_eq_zero HLN.out];rfl
  go_enter Tryz.func89,Tryz.ntmps89
  go_wp2;rw [<- hu1];clear hu1;refine wp_loop_rounds 1 ?_;rw [rounds_succ]
  cases h1:side r
  ·have e:mvB ⟨r,c,v⟩=false:=by simp [mvB,h1]
   have HE:=Lib.hid e;clear e
   go_wp2_with fail
   refine (aT r h1 u1).mono ?_;rintro e w' ⟨rfl,rfl⟩;go_wp2
   go_ret
   exact ⟨dn HE.out.symm,HO1.out⟩
  cases h2:side c
  ·have e:mvB ⟨r,c,v⟩=false:=by simp [mvB,h2]
   have HE:=Lib.hid e;clear e
   go_wp2_with fail
   refine (aT r h1 u1).mono ?_;rintro e w' ⟨rfl,rfl⟩
   go_wp2_with fail
   refine (aT c h2 u1).mono ?_;rintro e w' ⟨rfl,rfl⟩;go_wp2
   go_ret
   exact ⟨dn HE.out.symm,HO1.out⟩
  obtain ⟨m1,m2⟩:=e6 h1 h2;have q1:=IntWalk.i64_in (r*c) (by omega)
  have e:mvB ⟨r,c,v⟩=false:=yd HLN.out m1;have HE:=Lib.hid e;have hlb:((0:Int) == r*c)=false:=by simp;omega
  clear e
  go_wp2_with fail
  refine (aT r h1 u1).mono ?_;rintro e w' ⟨rfl,rfl⟩
  go_wp2_with fail
  refine (aT c h2 u1).mono ?_;rintro e w' ⟨rfl,rfl⟩;go_wp2
  go_ret
  exact ⟨dn HE.out.symm,HO1.out⟩
 obtain ⟨b,off,rfl,hb,hc⟩:=HX.out.2 (by omega)
 have HC:=Lib.hid hc;clear hc HX
 go_enter Tryz.func89,Tryz.ntmps89
 go_wp2;rw [<- hu1];clear hu1
 go_loop [3] (fun i=>∃ k:Nat,k<=n/\i= .int .i64 k/\Hid ((v.take k).all rv=true)) (fun i=>n-(intOf i).toNat)
 case atStart=>exact ⟨0,Nat.zero_le _,rfl,by simp [Hid]⟩
 case round =>
  obtain ⟨k,hk,rfl,heq⟩:=hrel
  by_cases hlt:k<n
  ·obtain ⟨x,ex⟩:∃ x,x=v.getD k 0:=⟨_,rfl⟩;have cx:u1.cell? ⟨b,off+k,none⟩=some (.int .i64 x):=by rw [ex];exact HC.out k hlt
   have EX:=Lib.hid ex;have i0:(0:Int)<=(k:Int):=by omega
   have i1:(k:Int)<(n:Int):=by omega
   clear ex
   by_cases hxv:0<=x/\x<=4095
   ·go_wp2_with fail
    refine (ak x hxv _).mono ?_;rintro e w' ⟨rfl,rfl⟩;go_wp2
    go_round
    case rel=>exact ⟨k+1,by omega,by go_num,k_ (by rw [HLN.out];exact hlt) heq.out (by rw [<- EX.out];exact aR hxv)⟩
    case measure=>simp [intOf];omega
   ·have HF:Hid (mvB ⟨r,c,v⟩=false):=AE (pO (j7 (k:=k) (by rw [HLN.out];exact hlt)) (by rw [<- EX.out];exact bF hxv))
    go_wp2_with fail
    refine (bM x hxv _).mono ?_;rintro e w' ⟨rfl,rfl⟩;go_wp2
    go_ret
    exact ⟨dn HF.out.symm,HO1.out⟩
  ·obtain rfl:n=k:=by omega
   have HALL:Hid (v.all rv=true):=by
    have h:=heq.out
    rwa [List.take_of_length_le (by rw [HLN.out];exact Nat.le_refl _)] at h
   clear heq
   cases h1:side r
   ·have e:mvB ⟨r,c,v⟩=false:=by simp [mvB,h1]
    have HE:=Lib.hid e;clear e
    go_wp2_with fail
    refine (aT r h1 u1).mono ?_;rintro e w' ⟨rfl,rfl⟩;go_wp2
    go_ret
    exact ⟨dn HE.out.symm,HO1.out⟩
   cases h2:side c
   ·have e:mvB ⟨r,c,v⟩=false:=by simp [mvB,h2]
    have HE:=Lib.hid e;clear e
    go_wp2_with fail
    refine (aT r h1 u1).mono ?_;rintro e w' ⟨rfl,rfl⟩
    go_wp2_with fail
    refine (aT c h2 u1).mono ?_;rintro e w' ⟨rfl,rfl⟩;go_wp2
    go_ret
    exact ⟨dn HE.out.symm,HO1.out⟩
   obtain ⟨m1,m2⟩:=e6 h1 h2;have q1:=IntWalk.i64_in (r*c) (by omega)
   by_cases hl:(n:Int)=r*c
   ·have e:mvB ⟨r,c,v⟩=true:=by simp [mvB,h1,h2,HLN.out,hl,HALL.out]
    have HE:=Lib.hid e;have hlb:((n:Int) == r*c)=true:=by simp [hl]
    clear e hl
    go_wp2_with fail
    refine (aT r h1 u1).mono ?_;rintro e w' ⟨rfl,rfl⟩
    go_wp2_with fail
    refine (aT c h2 u1).mono ?_;rintro e w' ⟨rfl,rfl⟩;go_wp2
    go_ret
    exact ⟨dn HE.out.symm,HO1.out⟩
   ·have e:mvB ⟨r,c,v⟩=false:=by simp [mvB,HLN.out,hl]
    have HE:=Lib.hid e;have hlb:((n:Int) == r*c)=false:=by simp [hl]
    clear e hl
    go_wp2_with fail
    refine (aT r h1 u1).mono ?_;rintro e w' ⟨rfl,rfl⟩
    go_wp2_with fail
    refine (aT c h2 u1).mono ?_;rintro e w' ⟨rfl,rfl⟩;go_wp2
    go_ret
    exact ⟨dn HE.out.symm,HO1.out⟩
def bD (m:Mx) (w:World) (e:Ending) (w':World):Prop:=∃ (A:Option Addr) (c:Nat),e= .returned (MV m.r m.c A m.v.length c)/\OS w' w.heap.size A m.v.length c m.v/\Below w.heap.size w w'
def bS (a b:Mx):Bool:=decide (a.r=b.r) && decide (a.c=b.c)
theorem eY (r1 c1 r2 c2:Int) (A1 A2:Option Addr) (n1 p1 n2 p2:Nat) (w:World) (v1 v2:List Int):Calls Tryz.prog 195 #[MV r1 c1 A1 n1 p1,MV r2 c2 A2 n2 p2] w fun e w'=>e= .returned (.bool (bS ⟨r1,c1,v1⟩ ⟨r2,c2,v2⟩))/\Below w.heap.size w w':=by
 by_cases h1:r1=r2
 ·have e1:(r1 == r2)=true:=by simp [h1]
  have es:bS ⟨r1,c1,v1⟩ ⟨r2,c2,v2⟩=(c1 == c2):=by simp [bS,h1,BEq.beq]
  rw [es];clear h1 es
  go_enter Tryz.func195,Tryz.ntmps195
  go_wp2
  go_ret
  exact ⟨rfl,(((Below.refl w.heap.size w).alloc (by first | omega | (simp;done) | (simp;omega)) _).alloc (by first | omega | (simp;done) | (simp;omega)) _)⟩
 ·have e1:(r1 == r2)=false:=by simp [h1]
  have es:bS ⟨r1,c1,v1⟩ ⟨r2,c2,v2⟩=false:=by simp [bS,h1]
  rw [es];clear h1 es
  go_enter Tryz.func195,Tryz.ntmps195
  go_wp2
  go_ret
  exact ⟨rfl,(((Below.refl w.heap.size w).alloc (by first | omega | (simp;done) | (simp;omega)) _).alloc (by first | omega | (simp;done) | (simp;omega)) _)⟩
theorem di {r c:Int} {n:Nat} (hn:r*c=(n:Int)) (bn:n<=1048576) (w:World) :
  Calls Tryz.prog 196 #[.int .i64 r,.int .i64 c] w (bD ⟨r,c,List.replicate n 0⟩ w):=by
 have q1:=IntWalk.i64_in (r*c) (by omega)
 have hmk:∀ W:World,(Instr.makeSlice 35 (.int .i64 (r*c)) (.int .i64 (r*c))).run Tryz.prog W= .ok (.slice (some ⟨W.heap.size,0,none⟩) n n) (W.alloc (ZB n)):=by rw [hn];exact fun W=>jc n (by omega) W
 clear hn;have F3:=OS.sN (w.alloc (.cells #[.int .i64 r,.int .i64 c,.slice (some ⟨w.heap.size+1,0,none⟩) n n] 37)) n (by omega)
 simp only [World.size_alloc] at F3;have FB:Below w.heap.size w ((w.alloc (.cells #[.int .i64 r,.int .i64 c,.slice (some ⟨w.heap.size+1,0,none⟩) n n] 37)).alloc (ZB n)):=((Below.refl _ _).alloc (Nat.le_refl _) _).alloc (by simp) _
 have HF:=Lib.hid F3;have HB:=Lib.hid FB;clear F3 FB
 go_enter Tryz.func196,Tryz.ntmps196
 go_wp2;refine bodyPost_ret (v:=MV r c (some ⟨w.heap.size+1,0,none⟩) n n) (by simp [results,Tryz.results196,go_sem]) rfl ?_
 refine ⟨some ⟨w.heap.size+1,0,none⟩,n,by rw [List.length_replicate],?_,HB.out⟩
 rw [List.length_replicate]
 exact HF.out.mono (by omega)
theorem aQ (r c:Int) (v:List Int) (A:Option Addr) (n cap:Nat) (w:World) (hx0:SI w A n v) (bn:n<=1048576) :
  Calls Tryz.prog 92 #[MV r c A n cap] w (bD ⟨r,c,v⟩ w):=by
 obtain ⟨i0',hi,hz0,hz1,hz2⟩:=info_parts eU;have HLN:=Lib.hid hx0.1
 by_cases h0:n=0
 ·subst h0;have e0:v=[]:=List.eq_nil_of_length_eq_zero HLN.out;subst e0;clear hx0
  cases A
  all_goals
   go_enter Tryz.func92,Tryz.ntmps92
   go_wp2;refine bodyPost_ret (v:=MV r c (some ⟨w.heap.size+3,0,none⟩) 0 0) (by simp [results,Tryz.results92,go_sem]) rfl ?_
   exact ⟨_,0,rfl,yf _ (by omega) (by simp),(by repeat (first | assumption | exact Below.refl _ _ | apply Below.drew | (refine Below.setCell ?_ (by (first | omega | (simp <;> omega))) _) | (refine Below.alloc ?_ (by (first | omega | (simp <;> omega))) _) | (refine bp (by assumption) (by (first | omega | (simp <;> omega))) ?_)))⟩
 ·obtain ⟨b,off,rfl,hb,hc0⟩:=hx0.2 (by omega)
  have hc:=Lib.hid hc0;clear hc0 hx0
  go_enter Tryz.func92,Tryz.ntmps92
  obtain ⟨u1,hu1⟩:∃ u,u=((((w.alloc (.cells #[.int .i64 r,.int .i64 c,.slice (some ⟨b,off,none⟩) n cap] 37)).alloc (.cells #[.int .i64 0,.int .i64 0,.slice none 0 0] 37)).alloc (.cells #[.int .i64 r,.int .i64 c,.slice (some ⟨b,off,none⟩) n cap] 37)).alloc (.cells #[] 3)):=⟨_,rfl⟩;have hzu1:u1.heap.size<=w.heap.size+4:=by rw [hu1];simp
  have hyu1:w.heap.size+4<=u1.heap.size:=by rw [hu1];simp
  have B1_1:Blk u1 (w.heap.size) 37 #[.int .i64 r,.int .i64 c,.slice (some ⟨b,off,none⟩) n cap]:=by rw [hu1];have h:=((((Blk.new w 37 #[.int .i64 r,.int .i64 c,.slice (some ⟨b,off,none⟩) n cap]).alloc (.cells #[.int .i64 0,.int .i64 0,.slice none 0 0] 37)).alloc (.cells #[.int .i64 r,.int .i64 c,.slice (some ⟨b,off,none⟩) n cap] 37)).alloc (.cells #[] 3));simpa using h
  have xb1:w.heap.size<=w.heap.size:=by omega
  have B1_2:Blk u1 (w.heap.size+1) 37 #[.int .i64 0,.int .i64 0,.slice none 0 0]:=by rw [hu1];have h:=(((Blk.new (w.alloc (.cells #[.int .i64 r,.int .i64 c,.slice (some ⟨b,off,none⟩) n cap] 37)) 37 #[.int .i64 0,.int .i64 0,.slice none 0 0]).alloc (.cells #[.int .i64 r,.int .i64 c,.slice (some ⟨b,off,none⟩) n cap] 37)).alloc (.cells #[] 3));simpa using h
  have xb2:w.heap.size<=w.heap.size+1:=by omega
  have B1_3:Blk u1 (w.heap.size+2) 37 #[.int .i64 r,.int .i64 c,.slice (some ⟨b,off,none⟩) n cap]:=by rw [hu1];have h:=((Blk.new ((w.alloc (.cells #[.int .i64 r,.int .i64 c,.slice (some ⟨b,off,none⟩) n cap] 37)).alloc (.cells #[.int .i64 0,.int .i64 0,.slice none 0 0] 37)) 37 #[.int .i64 r,.int .i64 c,.slice (some ⟨b,off,none⟩) n cap]).alloc (.cells #[] 3));simpa using h
  have xb3:w.heap.size<=w.heap.size+2:=by omega
  have O1:Below w.heap.size w u1:=by rw [hu1];exact (((((Below.refl w.heap.size w).alloc (by first | omega | (simp;done) | (simp;omega)) _).alloc (by first | omega | (simp;done) | (simp;omega)) _).alloc (by first | omega | (simp;done) | (simp;omega)) _).alloc (by first | omega | (simp;done) | (simp;omega)) _)
  have m1:w.heap.size<=u1.heap.size:=by omega
  have HF1:Hid (OS u1 w.heap.size (some ⟨w.heap.size+3,0,none⟩) 0 0 []):=by rw [hu1];have h:=mT (((w.alloc (.cells #[.int .i64 r,.int .i64 c,.slice (some ⟨b,off,none⟩) n cap] 37)).alloc (.cells #[.int .i64 0,.int .i64 0,.slice none 0 0] 37)).alloc (.cells #[.int .i64 r,.int .i64 c,.slice (some ⟨b,off,none⟩) n cap] 37)) (base:=w.heap.size) (by simp only [World.size_alloc];omega);simp only [World.size_alloc] at h;exact h
  have F1_o:OS u1 w.heap.size (some ⟨w.heap.size+3,0,none⟩) 0 0 []:=HF1.out;have z1_1:w.heap.size<u1.heap.size:=B1_1.lt;have c1_1_0:u1.cell? ⟨w.heap.size,0,none⟩=some (.int .i64 r):=B1_1.cell 0;have f1_1_0:u1.frozen? ⟨w.heap.size,0,none⟩=false:=B1_1.frozen 0;have c1_1_1:u1.cell? ⟨w.heap.size,1,none⟩=some (.int .i64 c):=B1_1.cell 1;have f1_1_1:u1.frozen? ⟨w.heap.size,1,none⟩=false:=B1_1.frozen 1;have c1_1_2:u1.cell? ⟨w.heap.size,2,none⟩=some (.slice (some ⟨b,off,none⟩) n cap):=B1_1.cell 2;have f1_1_2:u1.frozen? ⟨w.heap.size,2,none⟩=false:=B1_1.frozen 2;have z1_2:w.heap.size+1<u1.heap.size:=B1_2.lt;have c1_2_0:u1.cell? ⟨w.heap.size+1,0,none⟩=some (.int .i64 0):=B1_2.cell 0;have f1_2_0:u1.frozen? ⟨w.heap.size+1,0,none⟩=false:=B1_2.frozen 0;have c1_2_1:u1.cell? ⟨w.heap.size+1,1,none⟩=some (.int .i64 0):=B1_2.cell 1;have f1_2_1:u1.frozen? ⟨w.heap.size+1,1,none⟩=false:=B1_2.frozen 1;have c1_2_2:u1.cell? ⟨w.heap.size+1,2,none⟩=some (.slice none 0 0):=B1_2.cell 2;have f1_2_2:u1.frozen? ⟨w.heap.size+1,2,none⟩=false:=B1_2.frozen 2;have z1_3:w.heap.size+2<u1.heap.size:=B1_3.lt;have c1_3_0:u1.cell? ⟨w.heap.size+2,0,none⟩=some (.int .i64 r):=B1_3.cell 0;have f1_3_0:u1.frozen? ⟨w.heap.size+2,0,none⟩=false:=B1_3.frozen 0;have c1_3_1:u1.cell? ⟨w.heap.size+2,1,none⟩=some (.int .i64 c):=B1_3.cell 1;have f1_3_1:u1.frozen? ⟨w.heap.size+2,1,none⟩=false:=B1_3.frozen 1;have c1_3_2:u1.cell? ⟨w.heap.size+2,2,none⟩=some (.slice (some ⟨b,off,none⟩) n cap):=B1_3.cell 2;have f1_3_2:u1.frozen? ⟨w.heap.size+2,2,none⟩=false:=B1_3.frozen 2;have HC:∀ k,k<n->u1.cell? ⟨b,off+k,none⟩=some (.int .i64 (v.getD k 0)):=fun k hk=>(O1.cell (p:=⟨b,off+k,none⟩) hb).trans (hc.out k hk)
  go_wp2_with (at_builtin;rw [<- hu1];refine wpList_append_lies _ rfl _ _ 35 rfl w.heap.size 3 i0' (.int .i64 0) 1 8 Tryz.underlying35 hi hz0 hz1 hz2 rfl (by decide) (.slice (some ⟨w.heap.size+3,0,none⟩) (0) 0) (0) _ rfl F1_o ⟨b,off,none⟩ n cap ((v).map (Value.int .i64)) rfl (by simp [HLN.out]) ?c1 ?c2 ?c3 ?c4 ?c5 ?c6 u1.heap.size ?c7 ?_)
  case c1=>exact ux HLN.out HC
  case c2=>simp [Value.oneCell']
  case c3=>omega
  case c4=>unfold maxLen;omega
  case c5=>omega
  case c6=>first | omega | (simp;omega)
  case c7=>simp
  intro g2 p2 w2 hown hgrow hat _;rw [<- hu1] at hgrow;clear hu1;obtain ⟨hos,hon⟩:=yg (ys:=v) F1_o hgrow (Below.refl u1.heap.size u1) (by simpa using hown)
  clear hown hgrow;clear hat;have B2_1:=Blk.bR B1_1 hon (bf F1_o B1_1 (by decide))
  have B2_2:=Blk.bR B1_2 hon (bf F1_o B1_2 (by decide))
  have B2_3:=Blk.bR B1_3 hon (bf F1_o B1_3 (by decide))
  have O2:=O1.trans (bJ.toBelow hon (B:=w.heap.size) (fun g hg=>(F1_o.aj g hg).1) (by omega))
  have m2:w.heap.size<=w2.heap.size:=O2.size;rw [List.nil_append,Nat.zero_add] at hos;have F2_o:=hos;clear B1_1 B1_2 B1_3 F1_o O1 z1_1 c1_1_0 f1_1_0 c1_1_1 f1_1_1 c1_1_2 f1_1_2 z1_2 c1_2_0 f1_2_0 c1_2_1 f1_2_1 c1_2_2 f1_2_2 z1_3 c1_3_0 f1_3_0 c1_3_1 f1_3_1 c1_3_2 f1_3_2 hos hon;have z2_1:w.heap.size<w2.heap.size:=B2_1.lt;have c2_1_0:w2.cell? ⟨w.heap.size,0,none⟩=some (.int .i64 r):=B2_1.cell 0;have f2_1_0:w2.frozen? ⟨w.heap.size,0,none⟩=false:=B2_1.frozen 0;have c2_1_1:w2.cell? ⟨w.heap.size,1,none⟩=some (.int .i64 c):=B2_1.cell 1;have f2_1_1:w2.frozen? ⟨w.heap.size,1,none⟩=false:=B2_1.frozen 1;have c2_1_2:w2.cell? ⟨w.heap.size,2,none⟩=some (.slice (some ⟨b,off,none⟩) n cap):=B2_1.cell 2;have f2_1_2:w2.frozen? ⟨w.heap.size,2,none⟩=false:=B2_1.frozen 2;have z2_2:w.heap.size+1<w2.heap.size:=B2_2.lt;have c2_2_0:w2.cell? ⟨w.heap.size+1,0,none⟩=some (.int .i64 0):=B2_2.cell 0;have f2_2_0:w2.frozen? ⟨w.heap.size+1,0,none⟩=false:=B2_2.frozen 0;have c2_2_1:w2.cell? ⟨w.heap.size+1,1,none⟩=some (.int .i64 0):=B2_2.cell 1;have f2_2_1:w2.frozen? ⟨w.heap.size+1,1,none⟩=false:=B2_2.frozen 1;have c2_2_2:w2.cell? ⟨w.heap.size+1,2,none⟩=some (.slice none 0 0):=B2_2.cell 2;have f2_2_2:w2.frozen? ⟨w.heap.size+1,2,none⟩=false:=B2_2.frozen 2;have z2_3:w.heap.size+2<w2.heap.size:=B2_3.lt;have c2_3_0:w2.cell? ⟨w.heap.size+2,0,none⟩=some (.int .i64 r):=B2_3.cell 0;have f2_3_0:w2.frozen? ⟨w.heap.size+2,0,none⟩=false:=B2_3.frozen 0;have c2_3_1:w2.cell? ⟨w.heap.size+2,1,none⟩=some (.int .i64 c):=B2_3.cell 1;have f2_3_1:w2.frozen? ⟨w.heap.size+2,1,none⟩=false:=B2_3.frozen 1;have c2_3_2:w2.cell? ⟨w.heap.size+2,2,none⟩=some (.slice (some ⟨b,off,none⟩) n cap):=B2_3.cell 2;have f2_3_2:w2.frozen? ⟨w.heap.size+2,2,none⟩=false:=B2_3.frozen 2;go_wp2
  exact bodyPost_ret (v:=MV r c (some ⟨g2,0,none⟩) n p2) (by simp [results,Tryz.results92,go_sem,z2_1,c2_1_0,f2_1_0,c2_1_1,f2_1_1,c2_1_2,f2_1_2,z2_2,c2_2_0,f2_2_0,c2_2_1,f2_2_1,c2_2_2,f2_2_2,z2_3,c2_3_0,f2_3_0,c2_3_1,f2_3_1,c2_3_2,f2_3_2,(by omega:¬ w.heap.size=w.heap.size+1),(by omega:¬ w.heap.size+1=w.heap.size),(by omega:¬ w.heap.size=w.heap.size+2),(by omega:¬ w.heap.size+2=w.heap.size),(by omega:¬ w.heap.size+1=w.heap.size+2),(by omega:¬ w.heap.size+2=w.heap.size+1)]) rfl ⟨_,_,by rw [HLN.out],by rw [HLN.out];exact ((((F2_o.dk B2_3 (by decide) _).dk (B2_2.far (p:=⟨w.heap.size+2,2,none⟩) (by dsimp only;omega) (.slice (some ⟨g2,0,none⟩) n p2)) (by decide) _).dk ((B2_2.far (p:=⟨w.heap.size+2,2,none⟩) (by dsimp only;omega) (.slice (some ⟨g2,0,none⟩) n p2)).dc 0 (.int .i64 r)) (by decide) _).dk (((B2_2.far (p:=⟨w.heap.size+2,2,none⟩) (by dsimp only;omega) (.slice (some ⟨g2,0,none⟩) n p2)).dc 0 (.int .i64 r)).dc 1 (.int .i64 c)) (by decide) _),((((O2.setCell (by dsimp only;omega) _).setCell (by dsimp only;omega) _).setCell (by dsimp only;omega) _).setCell (by dsimp only;omega) _)⟩
def az (a b:Mx):Bool:=mvB a && (mvB b && bS a b)
def dfB (a b:Mx):Bool:=mvB a && (mvB b && (decide (b.c=1) && decide (b.r=a.r)))
theorem eD (r1 c1 r2 c2:Int) (v1 v2:List Int) (A1 A2:Option Addr) (n1 p1 n2 p2:Nat) (w:World) (hx0:SI w A1 n1 v1) (hy0:SI w A2 n2 v2) (bn:n1<=1048576) (bm:n2<=1048576) :
  Calls Tryz.prog 134 #[MV r1 c1 A1 n1 p1,MV r2 c2 A2 n2 p2] w fun e w'=>e= .returned (.bool (az ⟨r1,c1,v1⟩ ⟨r2,c2,v2⟩))/\Below w.heap.size w w':=by
 have HX:=Lib.hid hx0;have HY:=Lib.hid hy0;clear hx0 hy0
 cases g1:mvB ⟨r1,c1,v1⟩
 ·have es:az ⟨r1,c1,v1⟩ ⟨r2,c2,v2⟩=false:=by unfold az;rw [g1];simp [bS]
  rw [es];clear es;refine zE ?_;intro u1 H;refine zB (aM r1 c1 v1 A1 n1 p1 u1 (SI.below HX.out H.O) (by omega)) ?_;clear H;intro w2 u2 H
  refine zR ?_;clear H;intro u3 H
  exact ⟨rfl,H.O⟩
 cases g2:mvB ⟨r2,c2,v2⟩
 ·have es:az ⟨r1,c1,v1⟩ ⟨r2,c2,v2⟩=false:=by unfold az;rw [g1,g2];simp [bS]
  rw [es];clear es;refine zE ?_;intro u1 H;refine zB (aM r1 c1 v1 A1 n1 p1 u1 (SI.below HX.out H.O) (by omega)) ?_;clear H;intro w2 u2 H
  refine zB (aM r2 c2 v2 A2 n2 p2 u2 (SI.below HY.out H.O) (by omega)) ?_;clear H;intro w3 u3 H
  refine zR ?_;clear H;intro u4 H
  exact ⟨rfl,H.O⟩
 by_cases h1:r1=r2
 ·by_cases h2:c1=c2
  ·have es:az ⟨r1,c1,v1⟩ ⟨r2,c2,v2⟩=true:=by unfold az;rw [g1,g2];simp [bS,h1,h2]
   rw [es];clear es;have e1:(r1 == r2)=true:=by simp [h1]
   have e2:(c1 == c2)=true:=by simp [h2]
   clear h1 h2;refine zE ?_;intro u1 H;refine zB (aM r1 c1 v1 A1 n1 p1 u1 (SI.below HX.out H.O) (by omega)) ?_;clear H;intro w2 u2 H
   refine zB (aM r2 c2 v2 A2 n2 p2 u2 (SI.below HY.out H.O) (by omega)) ?_;clear H;intro w3 u3 H
   refine zR ?_;clear H;intro u4 H
   exact ⟨rfl,H.O⟩
  ·have es:az ⟨r1,c1,v1⟩ ⟨r2,c2,v2⟩=false:=by unfold az;rw [g1,g2];simp [bS,h1,h2]
   rw [es];clear es;have e1:(r1 == r2)=true:=by simp [h1]
   have e2:(c1 == c2)=false:=by simp [h2]
   clear h1 h2;refine zE ?_;intro u1 H;refine zB (aM r1 c1 v1 A1 n1 p1 u1 (SI.below HX.out H.O) (by omega)) ?_;clear H;intro w2 u2 H
   refine zB (aM r2 c2 v2 A2 n2 p2 u2 (SI.below HY.out H.O) (by omega)) ?_;clear H;intro w3 u3 H
   refine zR ?_;clear H;intro u4 H
   exact ⟨rfl,H.O⟩
 ·have es:az ⟨r1,c1,v1⟩ ⟨r2,c2,v2⟩=false:=by unfold az;rw [g1,g2];simp [bS,h1]
  rw [es];clear es;have e1:(r1 == r2)=false:=by simp [h1]
  clear h1;refine zE ?_;intro u1 H;refine zB (aM r1 c1 v1 A1 n1 p1 u1 (SI.below HX.out H.O) (by omega)) ?_;clear H;intro w2 u2 H
  refine zB (aM r2 c2 v2 A2 n2 p2 u2 (SI.below HY.out H.O) (by omega)) ?_;clear H;intro w3 u3 H
  refine zR ?_;clear H;intro u4 H
  exact ⟨rfl,H.O⟩
theorem DK (r1 c1 r2 c2:Int) (v1 v2:List Int) (A1 A2:Option Addr) (n1 p1 n2 p2:Nat) (w:World) (hx0:SI w A1 n1 v1) (hy0:SI w A2 n2 v2) (bn:n1<=1048576) (bm:n2<=1048576) :
  Calls Tryz.prog 147 #[MV r1 c1 A1 n1 p1,MV r2 c2 A2 n2 p2] w fun e w'=>e= .returned (.bool (dfB ⟨r1,c1,v1⟩ ⟨r2,c2,v2⟩))/\Below w.heap.size w w':=by
 have HX:=Lib.hid hx0;have HY:=Lib.hid hy0;clear hx0 hy0
 cases g1:mvB ⟨r1,c1,v1⟩
 ·have es:dfB ⟨r1,c1,v1⟩ ⟨r2,c2,v2⟩=false:=by unfold dfB;rw [g1];simp [bS]
  rw [es];clear es;refine zE ?_;intro u1 H;refine zB (aw r1 c1 v1 A1 n1 p1 u1 (SI.below HX.out H.O) (by omega)) ?_;clear H;intro w2 u2 H
  refine zR ?_;clear H;intro u3 H
  exact ⟨rfl,H.O⟩
 cases g2:mvB ⟨r2,c2,v2⟩
 ·have es:dfB ⟨r1,c1,v1⟩ ⟨r2,c2,v2⟩=false:=by unfold dfB;rw [g1,g2];simp [bS]
  rw [es];clear es;refine zE ?_;intro u1 H;refine zB (aw r1 c1 v1 A1 n1 p1 u1 (SI.below HX.out H.O) (by omega)) ?_;clear H;intro w2 u2 H
  refine zB (aw r2 c2 v2 A2 n2 p2 u2 (SI.below HY.out H.O) (by omega)) ?_;clear H;intro w3 u3 H
  refine zR ?_;clear H;intro u4 H
  exact ⟨rfl,H.O⟩
 by_cases h1:c2=1
 ·by_cases h2:r2=r1
  ·have es:dfB ⟨r1,c1,v1⟩ ⟨r2,c2,v2⟩=true:=by unfold dfB;rw [g1,g2];simp [bS,h1,h2]
   rw [es];clear es;have e1:(c2 == 1)=true:=by simp [h1]
   have e2:(r2 == r1)=true:=by simp [h2]
   clear h1 h2;refine zE ?_;intro u1 H;refine zB (aw r1 c1 v1 A1 n1 p1 u1 (SI.below HX.out H.O) (by omega)) ?_;clear H;intro w2 u2 H
   refine zB (aw r2 c2 v2 A2 n2 p2 u2 (SI.below HY.out H.O) (by omega)) ?_;clear H;intro w3 u3 H
   refine zR ?_;clear H;intro u4 H
   exact ⟨rfl,H.O⟩
  ·have es:dfB ⟨r1,c1,v1⟩ ⟨r2,c2,v2⟩=false:=by unfold dfB;rw [g1,g2];simp [bS,h1,h2]
   rw [es];clear es;have e1:(c2 == 1)=true:=by simp [h1]
   have e2:(r2 == r1)=false:=by simp [h2]
   clear h1 h2;refine zE ?_;intro u1 H;refine zB (aw r1 c1 v1 A1 n1 p1 u1 (SI.below HX.out H.O) (by omega)) ?_;clear H;intro w2 u2 H
   refine zB (aw r2 c2 v2 A2 n2 p2 u2 (SI.below HY.out H.O) (by omega)) ?_;clear H;intro w3 u3 H
   refine zR ?_;clear H;intro u4 H
   exact ⟨rfl,H.O⟩
 ·have es:dfB ⟨r1,c1,v1⟩ ⟨r2,c2,v2⟩=false:=by unfold dfB;rw [g1,g2];simp [bS,h1]
  rw [es];clear es;have e1:(c2 == 1)=false:=by simp [h1]
  clear h1;refine zE ?_;intro u1 H;refine zB (aw r1 c1 v1 A1 n1 p1 u1 (SI.below HX.out H.O) (by omega)) ?_;clear H;intro w2 u2 H
  refine zB (aw r2 c2 v2 A2 n2 p2 u2 (SI.below HY.out H.O) (by omega)) ?_;clear H;intro w3 u3 H
  refine zR ?_;clear H;intro u4 H
  exact ⟨rfl,H.O⟩
end Go.Proofs.YtjciicheoghcdaaGreatDoor

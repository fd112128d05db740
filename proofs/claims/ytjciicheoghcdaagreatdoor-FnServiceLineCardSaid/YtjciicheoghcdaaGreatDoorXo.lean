/- Part of the proof that the law FnServiceLine of the given program returns true for every input. -/
import Derived.Test.YtjciicheoghcdaaGreatDoorXe
import Derived.Test.YtjciicheoghcdaaGreatDoorXg
import Derived.Test.YtjciicheoghcdaaGreatDoorXi
import Derived.Test.YtjciicheoghcdaaGreatDoorXm
import Derived.Test.YtjciicheoghcdaaGreatDoorXn
namespace Go.Proofs.YtjciicheoghcdaaGreatDoor
open Go.RowKit
set_option linter.unusedSimpArgs false
set_option linter.unusedVariables false
set_option maxRecDepth 20000
set_option maxHeartbeats 16000000
section
abbrev qX {α:Type} (E:Elt α) (b:Nat) (T:TypeId) (A:Option Addr) (n c:Nat) (css:List (List Value)) (xs:List α) (F:List Nat):Ow :=
 qT (fun i=>blk A=some i\/i∈F) (fun w=>OX E w b T A n c css xs F) (fun w h i e=>e.elim (fun e=>(h.aj i e).2) (h.lt i)) (fun w w' h hs k=>h.au hs fun g hl hg=>k g hg hl)
abbrev qR {α:Type} (E:Elt α) (b:Nat) (A:Option Addr) (n c:Nat) (xs:List α) (F:List Nat):Ow :=
 qT (fun i=>i∈F) (fun w=>RI E w A n c xs F/\Fr w b F) (fun w h i e=>h.1.lt i e) (fun w w' h hs k=>⟨h.1.au fun g hg=>k g hg (h.1.lt g hg),h.2.au fun g hg=>k g hg (h.1.lt g hg)⟩)
abbrev qS (b:Nat) (A:Option Addr) (c:Nat) (B:Option Addr) (d:Nat) (p:Mx×Mx):Ow :=
 qT (fun i=>blk A=some i\/blk B=some i) (fun w=>OS w b A p.1.v.length c p.1.v/\OS w b B p.2.v.length d p.2.v) (fun w h i e=>e.elim (fun e=>(h.1.aj i e).2) (fun e=>(h.2.aj i e).2)) (fun w w' h hs k=>⟨h.1.au hs fun g hg hl=>k g (.inl hg) hl,h.2.au hs fun g hg hl=>k g (.inr hg) hl⟩)
theorem RS.m12 {w:World} {A B:Option Addr} {c d:Nat} {p:Mx×Mx} (h:RS w (SMV p.1.r p.1.c A p.1.v.length c p.2.r p.2.c B p.2.v.length d) p):RM w (MV p.1.r p.1.c A p.1.v.length c) p.1/\RM w (MV p.2.r p.2.c B p.2.v.length d) p.2:=by
 obtain ⟨A',B',c',d',e,h1,h2,h3,h4,h5,h6⟩:=h;simp only [SMV,Value.agg.injEq,Array.mk.injEq,List.cons.injEq,Value.slice.injEq,true_and,and_true] at e;obtain ⟨⟨rfl,rfl⟩,rfl,rfl⟩:=e
 exact ⟨RM.mk h1 h2 h3,RM.mk h4 h5 h6⟩
section
variable {w w' w0 u:World} {L:List Ow} {A:Option Addr} {n q b:Nat} {t:TypeId} {xs:List Int}
theorem qS.rs {B:Option Addr} {c d:Nat} {p:Mx×Mx} (h:(qS b A c B d p).P w):RS w (SMV p.1.r p.1.c A p.1.v.length c p.2.r p.2.c B p.2.v.length d) p:=RS.aB h.1 h.2
theorem Hq.ss {B:Option Addr} {d:Nat} {p:Mx×Mx} (H:Hq w0 L w) (hb:Below w.heap.size w w') (f:OS w' w.heap.size A p.1.v.length q p.1.v) (k:OS w' w.heap.size B p.2.v.length d p.2.v):Hq w0 (qS w0.heap.size A q B d p::L) w' :=
 H.add hb _ ⟨f.mono H.m,k.mono H.m⟩ fun i hi=>hi.elim (fun e=>(f.aj i e).1) (fun e=>(k.aj i e).1)
theorem Hq.so {B C:Option Addr} {d c n:Nat} {p:Mx×Mx} (H:Hq w0 L w) (hb:Below w.heap.size w w') (f:OS w' w.heap.size A p.1.v.length q p.1.v) (k:OS w' w.heap.size B p.2.v.length d p.2.v) (l:OS w' w.heap.size C n c xs):Hq w0 ((qS w0.heap.size A q B d p).and (qO w0.heap.size C n c xs)::L) w' :=
 H.add hb _ ⟨⟨f.mono H.m,k.mono H.m⟩,l.mono H.m⟩ fun i hi=>hi.elim (fun e=>e.elim (fun e=>(f.aj i e).1) (fun e=>(k.aj i e).1)) (fun e=>(l.aj i e).1)
theorem Hq.tt {A1 A2 B1 B2 C1 C2:Option Addr} {p1 p2 q1 q2 r1 r2:Nat} {a b d:Mx×Mx} (H:Hq w0 L w) (hb:Below w.heap.size w w') (f:OS w' w.heap.size A1 a.1.v.length p1 a.1.v/\OS w' w.heap.size A2 a.2.v.length p2 a.2.v) (k:OS w' w.heap.size B1 b.1.v.length q1 b.1.v/\OS w' w.heap.size B2 b.2.v.length q2 b.2.v) (l:OS w' w.heap.size C1 d.1.v.length r1 d.1.v/\OS w' w.heap.size C2 d.2.v.length r2 d.2.v) :
  Hq w0 ((qS w0.heap.size A1 p1 A2 p2 a).and ((qS w0.heap.size B1 q1 B2 q2 b).and (qS w0.heap.size C1 r1 C2 r2 d))::L) w':=by
 refine H.add hb _ ⟨⟨f.1.mono H.m,f.2.mono H.m⟩,⟨k.1.mono H.m,k.2.mono H.m⟩,⟨l.1.mono H.m,l.2.mono H.m⟩⟩ fun i hi=> ?_
 rcases hi with (h | h) | (h | h) | (h | h)
 ·exact (f.1.aj i h).1
 ·exact (f.2.aj i h).1
 ·exact (k.1.aj i h).1
 ·exact (k.2.aj i h).1
 ·exact (l.1.aj i h).1
 ·exact (l.2.aj i h).1
theorem Hq.soo {B C D:Option Addr} {d c n c' n':Nat} {p:Mx×Mx} {ys:List Int} (H:Hq w0 L w) (hb:Below w.heap.size w w') (f:OS w' w.heap.size A p.1.v.length q p.1.v) (k:OS w' w.heap.size B p.2.v.length d p.2.v) (l:OS w' w.heap.size C n c xs) (m:OS w' w.heap.size D n' c' ys):Hq w0 ((qS w0.heap.size A q B d p).and ((qO w0.heap.size C n c xs).and (qO w0.heap.size D n' c' ys))::L) w':=by
 refine H.add hb _ ⟨⟨f.mono H.m,k.mono H.m⟩,l.mono H.m,m.mono H.m⟩ fun i hi=> ?_
 rcases hi with (h | h) | h | h
 ·exact (f.aj i h).1
 ·exact (k.aj i h).1
 ·exact (l.aj i h).1
 ·exact (m.aj i h).1
theorem Hq.ox {α:Type} {E:Elt α} {T:TypeId} {css:List (List Value)} {ys:List α} {F:List Nat} (H:Hq w0 L w) (hb:Below w.heap.size w w') (f:OX E w' w.heap.size T A n q css ys F):Hq w0 (qX E w0.heap.size T A n q css ys F::L) w' :=
 H.add hb _ (f.mono H.m) fun i hi=>hi.elim (fun e=>(f.aj i e).1) (fun e=>(f.2.2.2.1.2 i e).1)
theorem Hq.rf {α:Type} {E:Elt α} {ys:List α} {F:List Nat} (H:Hq w0 L w) (hb:Below w.heap.size w w') (f:RI E w' A n q ys F) (k:Fr w' w.heap.size F):Hq w0 (qR E w0.heap.size A n q ys F::L) w':=H.add hb _ ⟨f,k.mono H.m⟩ fun i hi=>(k.2 i hi).1
theorem RI.blt' {α:Type} {E:Elt α} {b o n c:Nat} {ys:List α} {F:List Nat} (h:RI E w (some ⟨b,o,none⟩) n c ys F) (hn:0<n):b<w.heap.size/\b∈F:=by
 obtain ⟨_,_,_,h4⟩:=h;rcases h4 with ⟨h0,_⟩ | ⟨b',off,css,F',e,hb,rfl,_⟩
 ·omega
 ·injection e with e;injection e with e1 e2;rw [e1]
  exact ⟨hb,List.mem_cons_self ..⟩
theorem Hq.f {α:Type} {E:Elt α} {ys:List α} {F:List Nat} (i:Nat) (H:Hq w0 L w) (k:nth L i=some (qR E b A n q ys F):=by rfl):RI E w A n q ys F/\Fr w b F:=H.get (.nth k)
theorem Hq.x {α:Type} {E:Elt α} {css:List (List Value)} {ys:List α} {F:List Nat} (i:Nat) (H:Hq w0 L w) (k:nth L i=some (qX E b t A n q css ys F):=by rfl):OX E w b t A n q css ys F:=H.get (.nth k)
theorem Hq.rs {B:Option Addr} {d:Nat} {p:Mx×Mx} (i:Nat) (H:Hq w0 L w) (k:nth L i=some (qS b A q B d p):=by rfl):RS w (SMV p.1.r p.1.c A p.1.v.length q p.2.r p.2.c B p.2.v.length d) p:=qS.rs (H.get (.nth k))
section
variable {S:World->Prop} {gs:List Nat}
theorem Hr.ss {B:Option Addr} {d:Nat} {p:Mx×Mx} (Z:Hr S u gs w0 L w) (hb:Below w.heap.size w w') (f:OS w' w.heap.size A p.1.v.length q p.1.v) (k:OS w' w.heap.size B p.2.v.length d p.2.v):Hr S u gs w0 (qS w0.heap.size A q B d p::L) w':=Z.bk hb fun H=>H.ss hb f k
theorem Hr.so {B C:Option Addr} {d c n:Nat} {p:Mx×Mx} (Z:Hr S u gs w0 L w) (hb:Below w.heap.size w w') (f:OS w' w.heap.size A p.1.v.length q p.1.v) (k:OS w' w.heap.size B p.2.v.length d p.2.v) (l:OS w' w.heap.size C n c xs):Hr S u gs w0 ((qS w0.heap.size A q B d p).and (qO w0.heap.size C n c xs)::L) w':=Z.bk hb fun H=>H.so hb f k l
theorem Hr.tt {A1 A2 B1 B2 C1 C2:Option Addr} {p1 p2 q1 q2 r1 r2:Nat} {a b d:Mx×Mx} (Z:Hr S u gs w0 L w) (hb:Below w.heap.size w w') (f:OS w' w.heap.size A1 a.1.v.length p1 a.1.v/\OS w' w.heap.size A2 a.2.v.length p2 a.2.v) (k:OS w' w.heap.size B1 b.1.v.length q1 b.1.v/\OS w' w.heap.size B2 b.2.v.length q2 b.2.v) (l:OS w' w.heap.size C1 d.1.v.length r1 d.1.v/\OS w' w.heap.size C2 d.2.v.length r2 d.2.v) :
  Hr S u gs w0 ((qS w0.heap.size A1 p1 A2 p2 a).and ((qS w0.heap.size B1 q1 B2 q2 b).and (qS w0.heap.size C1 r1 C2 r2 d))::L) w':=Z.bk hb fun H=>H.tt hb f k l
theorem Hr.rf {α:Type} {E:Elt α} {ys:List α} {F:List Nat} (Z:Hr S u gs w0 L w) (hb:Below w.heap.size w w') (f:RI E w' A n q ys F) (k:Fr w' w.heap.size F):Hr S u gs w0 (qR E w0.heap.size A n q ys F::L) w':=Z.bk hb fun H=>H.rf hb f k
theorem Hr.ox {α:Type} {E:Elt α} {T:TypeId} {css:List (List Value)} {ys:List α} {F:List Nat} (Z:Hr S u gs w0 L w) (hb:Below w.heap.size w w') (f:OX E w' w.heap.size T A n q css ys F):Hr S u gs w0 (qX E w0.heap.size T A n q css ys F::L) w':=Z.bk hb fun H=>H.ox hb f
theorem Hr.f {α:Type} {E:Elt α} {ys:List α} {F:List Nat} (i:Nat) (Z:Hr S u gs w0 L w) (k:nth L i=some (qR E b A n q ys F):=by rfl):RI E w A n q ys F/\Fr w b F:=Z.H.f i k
theorem Hr.x {α:Type} {E:Elt α} {css:List (List Value)} {ys:List α} {F:List Nat} (i:Nat) (Z:Hr S u gs w0 L w) (k:nth L i=some (qX E b t A n q css ys F):=by rfl):OX E w b t A n q css ys F:=Z.H.x i k
theorem Hr.rs {B:Option Addr} {d:Nat} {p:Mx×Mx} (i:Nat) (Z:Hr S u gs w0 L w) (k:nth L i=some (qS b A q B d p):=by rfl):RS w (SMV p.1.r p.1.c A p.1.v.length q p.2.r p.2.c B p.2.v.length d) p:=Z.H.rs i k
end
end
theorem RS.m1 {w:World} {A B:Option Addr} {c d:Nat} {p:Mx×Mx} (h:RS w (SMV p.1.r p.1.c A p.1.v.length c p.2.r p.2.c B p.2.v.length d) p):RM w (MV p.1.r p.1.c A p.1.v.length c) p.1:=h.m12.1
theorem RS.m2 {w:World} {A B:Option Addr} {c d:Nat} {p:Mx×Mx} (h:RS w (SMV p.1.r p.1.c A p.1.v.length c p.2.r p.2.c B p.2.v.length d) p):RM w (MV p.2.r p.2.c B p.2.v.length d) p.2:=h.m12.2
theorem qS.a {w:World} {b:Nat} {A B:Option Addr} {c d:Nat} {p:Mx×Mx} (h:(qS b A c B d p).P w):OS w b A p.1.v.length c p.1.v:=h.1
theorem qS.b {w:World} {b:Nat} {A B:Option Addr} {c d:Nat} {p:Mx×Mx} (h:(qS b A c B d p).P w):OS w b B p.2.v.length d p.2.v:=h.2
theorem qS.m1 {w:World} {b:Nat} {A B:Option Addr} {c d:Nat} {p:Mx×Mx} (h:(qS b A c B d p).P w):RM w (MV p.1.r p.1.c A p.1.v.length c) p.1:=(qS.rs h).m1
theorem qS.m2 {w:World} {b:Nat} {A B:Option Addr} {c d:Nat} {p:Mx×Mx} (h:(qS b A c B d p).P w):RM w (MV p.2.r p.2.c B p.2.v.length d) p.2:=(qS.rs h).m2
theorem an2 {a b:Prop} (x:a) (y:b):a/\b:=⟨x,y⟩
theorem an4 {a b c d:Prop} (x:a) (y:b) (z:c) (u:d):a/\b/\c/\d:=⟨x,y,z,u⟩
theorem an6 {a b c d e f:Prop} (x:a) (y:b) (z:c) (u:d) (v:e) (p:f):a/\b/\c/\d/\e/\f:=⟨x,y,z,u,v,p⟩
theorem Sp.off:∀ {L:List Ow} {w:World} {i:Nat} {c:Ow} {M:List Ow},Rot i L c M->Sp L w->∀ g,c.F g->∀ d,d∈M->¬ d.F g:=fun r s g hg d hd=>(r.sp s).1.2.1 g hg d hd
theorem zW {P Q T0:Prop} (c:T0) (k:Q) (h:T0->Wr Q->P:=by
  intro c q;intros;refine c.mono ?_;clear c;rintro e w' ⟨A,B,c,d,rfl,f,k,hb⟩;replace H:=H.ss hb f k;clear hb f k;have C:=H.C;simp only [aC0,aC1,aN0,aN1,fv,fz,AU,B9,DB,DA,cf0,cf1,Nat.zero_add,Nat.add_zero,Nat.reduceAdd,true_and,and_true,and_assoc] at C
  go_wp2_with fail
  (try simp only [Nat.add_assoc,Nat.reduceAdd])
  (first | apply nqC | apply nqW | apply nqL | apply nqE | apply nqF)
  ·repeat (with_reducible first | exact H | apply Hq.bs0 | apply Hq.al | apply Hq.st | apply Hq.sk)
   all_goals (try first | (simp only [World.size_alloc,World.size_setCell,World.size_drew,Nat.add_assoc,Nat.reduceAdd];done) | (simp only [World.size_alloc,World.size_setCell,World.size_drew,Nat.add_assoc,Nat.reduceAdd];exact rfl) | exact rfl)
   all_goals (repeat (with_reducible first | exact gv.z0 | apply gv.s0 | apply Upd.h0 | apply Upd.o0 | apply Upd.t0))
  intro u Hn
  (try clear H)
  clear C
  repeat (revert ‹Act->World->Prop›;have zz:=q;clear zz)
  revert A B c d w' u Hn
  exact q.o):P:=h c ⟨k⟩
theorem yW {P Q T0:Prop} (c:T0) (k:Q) (h:T0->Wr Q->P:=by
  intro c q;intros
  repeat (first | (refine lc' ?_;intro K hK;go_big_quiet_op;go_big_quiet_on) | refine lk' ?_)
  refine lo' fun K hK=> ?_
  unfold Oper.gives
  go_simp
  refine c.mono ?_;rintro e w' ⟨A,B,c,d,rfl,f,k,hb⟩;replace H:=H.ss hb f k;refine lx' H hK ?_;clear hK K;clear hb f k
  repeat (revert ‹Act->World->Prop›;have zz:=q;clear zz)
  revert A B c d w' H
  exact q.o):P:=h c ⟨k⟩
theorem fW {P Q T0:Prop} (c:T0) (k:Q) (h:T0->Wr Q->P:=by
  intro c q;intros
  repeat (first | (refine lE ?_;intro K hK;go_big_quiet_op;go_big_quiet_on) | refine lG ?_)
  refine oU fun w1 hb K hK=> ?_
  unfold Oper.gives
  go_simp
  refine (c w1 hb).mono ?_;replace H:=H.b hb;clear hb c;rintro e w' ⟨A,B,c,d,rfl,f,k,hb⟩;replace H:=H.ss hb f k;refine xZ H hb hK ?_;clear hK K;clear hb f k
  repeat (revert ‹Act->World->Prop›;have zz:=q;clear zz)
  revert A B c d w' H
  exact q.o):P:=h c ⟨k⟩
theorem zV {P Q T0:Prop} (c:T0) (k:Q) (h:T0->Wr Q->P:=by
  intro c q;intros;refine c.mono ?_;clear c;rintro e w' ⟨A,B,D,E,a,b,d,e,rfl,f,k,l,m,hb⟩;replace H:=H.soo hb f k l m;clear hb f k l m;have C:=H.C;simp only [aC0,aC1,aN0,aN1,fv,fz,AU,B9,DB,DA,cf0,cf1,Nat.zero_add,Nat.add_zero,Nat.reduceAdd,true_and,and_true,and_assoc] at C
  go_wp2_with fail
  (try simp only [Nat.add_assoc,Nat.reduceAdd])
  (first | apply nqC | apply nqW | apply nqL | apply nqE | apply nqF)
  ·repeat (with_reducible first | exact H | apply Hq.bs0 | apply Hq.al | apply Hq.st | apply Hq.sk)
   all_goals (try first | (simp only [World.size_alloc,World.size_setCell,World.size_drew,Nat.add_assoc,Nat.reduceAdd];done) | (simp only [World.size_alloc,World.size_setCell,World.size_drew,Nat.add_assoc,Nat.reduceAdd];exact rfl) | exact rfl)
   all_goals (repeat (with_reducible first | exact gv.z0 | apply gv.s0 | apply Upd.h0 | apply Upd.o0 | apply Upd.t0))
  intro u Hn
  (try clear H)
  clear C
  repeat (revert ‹Act->World->Prop›;have zz:=q;clear zz)
  revert A B D E a b d e w' u Hn
  exact q.o):P:=h c ⟨k⟩
theorem zI {P Q T0:Prop} (c:T0) (k:Q) (h:T0->Wr Q->P:=by
  intro c q;intros;refine c.mono ?_;clear c;rintro e w' ⟨A,c,F,rfl,f,k,hb⟩;replace H:=H.rf hb f k;clear hb f k;have C:=H.C;simp only [aC0,aC1,aN0,aN1,fv,fz,AU,B9,DB,DA,cf0,cf1,Nat.zero_add,Nat.add_zero,Nat.reduceAdd,true_and,and_true,and_assoc] at C
  go_wp2_with fail
  (try simp only [Nat.add_assoc,Nat.reduceAdd])
  (first | apply nqC | apply nqW | apply nqL | apply nqE | apply nqF)
  ·repeat (with_reducible first | exact H | apply Hq.bs0 | apply Hq.al | apply Hq.st | apply Hq.sk)
   all_goals (try first | (simp only [World.size_alloc,World.size_setCell,World.size_drew,Nat.add_assoc,Nat.reduceAdd];done) | (simp only [World.size_alloc,World.size_setCell,World.size_drew,Nat.add_assoc,Nat.reduceAdd];exact rfl) | exact rfl)
   all_goals (repeat (with_reducible first | exact gv.z0 | apply gv.s0 | apply Upd.h0 | apply Upd.o0 | apply Upd.t0))
  intro u Hn
  (try clear H)
  clear C
  repeat (revert ‹Act->World->Prop›;have zz:=q;clear zz)
  revert A c F w' u Hn
  exact q.o):P:=h c ⟨k⟩
end
structure TOK (a b c:Mx×Mx):Prop where
 va:okS a=true
 vb:okS b=true
 vc:okS c=true
 vab:a.1.c=b.1.r
 vm:aq c=mulM (aq a) (aq b)
theorem cS {s:Int} (h:sdB s=true) (n:Nat):sdB (sds s n)=true:=decide_eq_true (lO (dH h) n)
section
attribute [local go_sem] af ah ae
theorem b8 {r c s:Int} (hr:side r=true) (hc:side c=true) (hs:sdB s=true) (w:World):Calls Tryz.prog 167 #[.int .i64 r,.int .i64 c,.int .i64 s] w (ij (cT r c s) (sds s (nm r c)) w):=by
 obtain ⟨n,hnm⟩:∃ n,n=nm r c:=⟨_,rfl⟩;have hm:=e6 hr hc;have HM:Hid (cT r c s=⟨r,c,fl (rn s) n⟩):=by rw [hnm];exact rfl
 have hn:n<=4096:=by rw [hnm];unfold nm;omega
 have q:IntKind.i64.wrap (r*c)=(n:Int):=gN (by rw [hnm];unfold nm;omega) (by omega)
 rw [<- hnm];have HR:=Lib.hid hr;have HC:=Lib.hid hc;have HS:=Lib.hid (dH hs);clear hm hr hc hs hnm;refine zE ?_;intro u1 H;refine zP (dj HR.out u1) ?_;clear H;intro u2 H;refine zP (dj HC.out u2) ?_;clear H;intro u3 H;refine zP (aU HS.out u3) ?_;clear H;intro u4 H;refine zO (ff HS.out n hn u4) ?_;clear H;intro w5 A c' u5 H;refine zS_ ?_;clear H;intro u6 H
 exact ⟨A,c',by rw [HM.out,aD];rfl,by rw [HM.out];dsimp only;rw [aD];exact (H.o 0),H.O⟩
def tI (p:Mx×Mx) (k:Int) (w:World) (e:Ending) (w':World):Prop:=∃ (A B:Option Addr) (c d:Nat),e= .returned (.tuple #[SMV p.1.r p.1.c A p.1.v.length c p.2.r p.2.c B p.2.v.length d,.int .i64 k])/\OS w' w.heap.size A p.1.v.length c p.1.v/\OS w' w.heap.size B p.2.v.length d p.2.v/\eJ A B/\Below w.heap.size w w'
theorem nO {m:Mx} (h:mvB m=true) (s:Int):az m (cT m.r m.c s)=true:=aY h (bU (aA h).1 (aA h).2) rfl rfl
theorem e8 {m:Mx} {s:Int} (hm:mvB m=true) (hs:sdB s=true) {x:Value} (w:World) (hx:RM w x m):Calls Tryz.prog 125 #[x,.int .i64 s] w (tI (cH m s).1 (cH m s).2 w):=by
 rw [lS hm hs];obtain ⟨A,c,rfl,h1,h2,h3⟩:=hx;have HX:=Lib.hid (RM.mk h1 h2 h3);have HM:=Lib.hid hm;have HD:=Lib.hid hs;have HS:=Lib.hid (dH hs);have HR:=Lib.hid (aA hm).1;have HC:=Lib.hid (aA hm).2;have HL:=Lib.hid (nO hm s);clear h1 h2 h3 hm hs;refine zE ?_;intro u1 H;refine zB (Cz HM.out u1 (RM.below HX.out H.O)) ?_;clear H;intro w2 u2 H;refine zP (aU HS.out u2) ?_;clear H;intro u3 H;refine zO (b8 HR.out HC.out HD.out u3) ?_;clear H;intro w4 B d u4 H;refine zX (tg [w4.heap.size,w.heap.size]) ?_;clear H;intro S w5 hne H;refine zD ((And.intro (H.c 0) (H.c 3))) ?_;intro G;refine yO (tY HL.out w5 (RM.below HX.out H.O) (RM.aB (H.o 1))) ?_;clear H;intro w6 Ca e' H;refine yS ?_;clear H;intro w7 H;refine yN ?_;clear H G;intro u8 H;refine zS_ ?_;clear H;intro u9 H
 exact ⟨B,Ca,d,e',rfl,(H.o 2),(H.o 0),fun i hi hi'=>H.noo 0 2 i hi' hi,H.O⟩
def MTV (a b c:Mx×Mx) (A1 A2 B1 B2 C1 C2:Option Addr) (p1 p2 q1 q2 r1 r2:Nat):Value:= .agg #[.int .i64 a.1.r,.int .i64 a.1.c,.slice A1 a.1.v.length p1,.int .i64 a.2.r,.int .i64 a.2.c,.slice A2 a.2.v.length p2,.int .i64 b.1.r,.int .i64 b.1.c,.slice B1 b.1.v.length q1,.int .i64 b.2.r,.int .i64 b.2.c,.slice B2 b.2.v.length q2,.int .i64 c.1.r,.int .i64 c.1.c,.slice C1 c.1.v.length r1,.int .i64 c.2.r,.int .i64 c.2.c,.slice C2 c.2.v.length r2]
def RT (w:World) (v:Value) (a b c:Mx×Mx):Prop:=∃ A1 A2 B1 B2 C1 C2 p1 p2 q1 q2 r1 r2,v=MTV a b c A1 A2 B1 B2 C1 C2 p1 p2 q1 q2 r1 r2/\RS w (SMV a.1.r a.1.c A1 a.1.v.length p1 a.2.r a.2.c A2 a.2.v.length p2) a/\RS w (SMV b.1.r b.1.c B1 b.1.v.length q1 b.2.r b.2.c B2 b.2.v.length q2) b/\RS w (SMV c.1.r c.1.c C1 c.1.v.length r1 c.2.r c.2.c C2 c.2.v.length r2) c
theorem RT.below {w w':World} {v:Value} {a b c:Mx×Mx} (h:RT w v a b c) (hb:Below w.heap.size w w'):RT w' v a b c:=by
 obtain ⟨A1,A2,B1,B2,C1,C2,p1,p2,q1,q2,r1,r2,e,h1,h2,h3⟩:=h
 exact ⟨A1,A2,B1,B2,C1,C2,p1,p2,q1,q2,r1,r2,e,h1.below hb,h2.below hb,h3.below hb⟩
theorem eZ {a b:Mx×Mx} (ha:okS a=true) (hb:okS b=true) (h:a.1.c=b.1.r):iz (aq a) (aq b)=true:=by
 obtain ⟨h1,_,h2⟩:=aN ha;obtain ⟨h3,h4,_⟩:=aN hb
 exact jd h1 h3 (by rw [h2,h4,h])
theorem nw {a b c:Mx×Mx} (h1:okS a=true) (h2:okS b=true) (h3:a.1.c=b.1.r) {x:Value} (w:World) (ht:RT w x a b c):Calls Tryz.prog 293 #[x] w (bD (mulM (aq a) (aq b)) w):=by
 obtain ⟨A1,A2,B1,B2,C1,C2,p1,p2,q1,q2,r1,r2,rfl,ha,hb,hc⟩:=ht;unfold MTV;have HA:=Lib.hid h1;have HB:=Lib.hid h2;have HM:=Lib.hid (eZ h1 h2 h3);have HX:=Lib.hid ha;have HY:=Lib.hid hb;clear h1 h2 h3 ha hb hc;refine zE ?_;intro u1 H;refine zX (tg [w.heap.size]) ?_;clear H;intro S w2 hne H;refine zD (H.c 1) ?_;intro G;refine yO (iJ HA.out w2 (RS.below HX.out H.O)) ?_;clear H;intro w3 P cP H;refine yO (iJ HB.out w3 (RS.below HY.out H.O)) ?_;clear H;intro w4 Q cQ H;refine yO (pg HM.out w4 (RM.aB (H.o 1)) (RM.aB (H.o 0))) ?_;clear H;intro w5 Z cR H;refine yS ?_;clear H;intro w6 H;refine yN ?_;clear H G;intro u7 H;refine zS_ ?_;clear H;intro u8 H
 exact ⟨Z,cR,rfl,(H.o 0),H.O⟩
end
section
def gro (n:Int):Int:=if n < -48 then 1 else if n < -32 then 2 else if n < -16 then 4 else if n<0 then 8 else if n<16 then 16 else if n<32 then 32 else 64
def fnv (kind:Int) (k:Nat):Int:=if kind=1 then (sgn k/16)%4096 else if kind=2 then (if 0<=sgn k then sgn k else 0) else if kind=3 then lv k else if kind=4 then gro (sgn k) else if sgn k<=0 then 0 else 256/sgn k
theorem pX (kind:Int) (k:Nat):0<=fnv kind k/\fnv kind k<=4095:=by
 have h:=Bd (k:Int);unfold fnv
 split
 ·omega
 split
 ·split <;> omega
 split
 ·have:=BL k;omega
 split
 ·unfold gro
  repeat' split
  all_goals omega
 ·split
  ·omega
  ·rename_i h5
   refine ⟨Int.ediv_nonneg (by omega) (by omega),?_⟩
   have:=Int.ediv_le_self (a:=256) (sgn k) (by omega)
   omega
theorem xL {n:Nat} {g:Nat->Int} {v:List Int} (hn:v.length=n) (h:∀ k,k<n->g k=v.getD k 0):fl g n=v:=by
 apply List.ext_getElem (by simp [aD,hn])
 intro k h1 h2;have hk:k<n:=by simpa [aD] using h1
 have:=h k hk;simp only [fl,List.getElem_map,List.getElem_range];rw [this,List.getD_eq_getElem?_getD,List.getElem?_eq_getElem h2]
 rfl
theorem wj {m e:Mx} (h:az m e=true):aq (e,aE bC m e)=m:=by
 obtain ⟨h1,h2,h3,h4⟩:=i_ h;have hs:=kW h;have hl:=bt h;have hk:az e (aE bC m e)=true:=aY h2 hs.1 (by rw [hs.2.1,h3]) (by rw [hs.2.2,h4])
 show aE aJ e (aE bC m e)=m
 rw [fi hk,<- h3,<- h4];have:fl (pv aJ e (aE bC m e)) e.v.length=m.v:=by
  refine xL hl.1 fun k hk=> ?_
  unfold pv;have hke:k<m.v.length:=by omega
  have e1:(aE bC m e).v.getD k 0=bC (m.v.getD k 0) (e.v.getD k 0):=by
   rw [fi h]
   show (fl (pv bC m e) m.v.length).getD k 0=_
   rw [Bx _ hke]
   rfl
  rw [e1];have a1:=dE h1 k;have a2:=dE h2 k;unfold bC;rw [if_pos ⟨kH h1 k,kH h2 k⟩];unfold aJ;rw [if_pos ⟨kH h2 k,sl _⟩]
  omega
 rw [this]
theorem qn {s:Int} (h:sdB s=true):∀ k,sdB (mpS s k)=true
 | 0=>h
 | k+1=>cS (cS (qn h k) 2) 4096
theorem zo {p q:Mx×Mx} {f g:Nat->Int} (h:okS p=true) (e:q=(⟨p.1.r,p.1.c,fl f p.1.v.length⟩,⟨p.1.r,p.1.c,fl g p.1.v.length⟩)) (hf:∀ k,k<p.1.v.length->rv (f k)=true) (hg:∀ k,k<p.1.v.length->rv (g k)=true):okS q=true/\q.1.r=p.1.r/\q.1.c=p.1.c:=by
 subst e;obtain ⟨h1,_,_,_⟩:=ai h;obtain ⟨l1,s1,s2,_⟩:=cZ h1
 exact ⟨aY (mf s1 s2 l1 hf) (mf s1 s2 l1 hg) rfl rfl,rfl,rfl⟩
theorem ja (f:Nat->Int) {p:Mx×Mx} {s:Int} (h:okS p=true) (hs:sdB s=true):okS (dv f p s).1=true/\(dv f p s).1.1.r=p.1.r/\(dv f p s).1.1.c=p.1.c/\sdB (dv f p s).2=true:=by
 obtain ⟨h1,h2,h3⟩:=zo h (q:=(dv f p s).1) rfl (fun k _=>aR (Av _ _)) (fun k _=>aR (Az _ _ _))
 exact ⟨h1,h2,h3,qn hs _⟩
theorem Bi {r i c s:Int} (hr:side r=true) (hi:side i=true) (hc:side c=true):TOK (ig r i c s).a (ig r i c s).b (ig r i c s).c:=by
 have oa:okS (xq r i s)=true:=aY (bU hr hi) (bU hr hi) rfl rfl;have ob:okS (xr r i c s)=true:=aY (bU hi hc) (bU hi hc) rfl rfl;have hab:(xq r i s).1.c=(xr r i c s).1.r:=rfl;have hmm:=eV (eZ oa ob hab);have hlk:az (mulM (aq (xq r i s)) (aq (xr r i c s))) (cT r c (E7 r i c s))=true:=aY hmm.1 (bU hr hc) (by rw [hmm.2.1,(aN oa).2.1];rfl) (by rw [hmm.2.2,(aN ob).2.2];rfl)
 have hs:=kW hlk
 exact ⟨oa,ob,aY (bU hr hc) hs.1 ((hs.2.1.trans hmm.2.1).trans (aN oa).2.1).symm ((hs.2.2.trans hmm.2.2).trans (aN ob).2.2).symm,hab,wj hlk⟩
theorem sF {x y:Mx×Mx} (hx:okS x=true) (hy:okS y=true) (h1:x.1.r=y.1.r) (h2:x.1.c=y.1.c):az (aq x) (aq y)=true:=by
 have a:=aN hx;have b:=aN hy
 exact aY a.1 b.1 (by rw [a.2.1,b.2.1,h1]) (by rw [a.2.2,b.2.2,h2])
structure POK (x y:Mx×Mx) (t:MTr):Prop where
 ox:okS x=true
 oy:okS y=true
 xy:x.1.c=y.1.r
 tk:TOK t.a t.b t.c
 ar:x.1.r=t.a.1.r
 ac:x.1.c=t.a.1.c
 br:y.1.r=t.b.1.r
 bc:y.1.c=t.b.1.c
 cr:t.c.1.r=x.1.r
 cc:t.c.1.c=y.1.c
section
variable {x y:Mx×Mx} {t:MTr}
theorem POK.ld (h:POK x y t):az (aq x) (aq t.a)=true:=sF h.ox h.tk.va h.ar h.ac
theorem POK.le (h:POK x y t):az (aq y) (aq t.b)=true:=sF h.oy h.tk.vb h.br h.bc
theorem POK.d (h:POK x y t):mvB (pD x t)=true/\(pD x t).r=x.1.r/\(pD x t).c=x.1.c:=by
 have:=kW h.ld;have a:=aN h.ox
 exact ⟨this.1,this.2.1.trans a.2.1,this.2.2.trans a.2.2⟩
theorem POK.e (h:POK x y t):mvB (pE y t)=true/\(pE y t).r=y.1.r/\(pE y t).c=y.1.c:=by
 have:=kW h.le;have a:=aN h.oy
 exact ⟨this.1,this.2.1.trans a.2.1,this.2.2.trans a.2.2⟩
theorem POK.db1 (h:POK x y t):iz (pD x t) t.b.1=true:=jd h.d.1 (ai h.tk.vb).1 (by rw [h.d.2.2,h.xy,h.br])
theorem POK.db2 (h:POK x y t):iz (pD x t) t.b.2=true:=jd h.d.1 (ai h.tk.vb).2.1 (by rw [h.d.2.2,h.xy,h.br,(ai h.tk.vb).2.2.1])
theorem POK.ae1 (h:POK x y t):iz t.a.1 (pE y t)=true:=jd (ai h.tk.va).1 h.e.1 (by rw [h.e.2.1,<- h.ac,h.xy])
theorem POK.ae2 (h:POK x y t):iz t.a.2 (pE y t)=true:=jd (ai h.tk.va).2.1 h.e.1 (by rw [h.e.2.1,<- (ai h.tk.va).2.2.2,<- h.ac,h.xy])
theorem POK.de (h:POK x y t):iz (pD x t) (pE y t)=true:=jd h.d.1 h.e.1 (by rw [h.d.2.2,h.e.2.1,h.xy])
theorem POK.c1 (h:POK x y t):az t.c.1 (mulM (pD x t) t.b.1)=true:=by
 have m:=eV h.db1
 exact aY (ai h.tk.vc).1 m.1 (by rw [m.2.1,h.d.2.1,h.cr]) (by rw [m.2.2,h.cc,h.bc])
theorem POK.c2 (h:POK x y t):az t.c.2 (mulM (pD x t) t.b.2)=true:=by
 have m:=eV h.db2
 exact aY (ai h.tk.vc).2.1 m.1 (by rw [m.2.1,h.d.2.1,<- h.cr,(ai h.tk.vc).2.2.1]) (by rw [m.2.2,<- (ai h.tk.vc).2.2.2,h.cc,h.bc,(ai h.tk.vb).2.2.2])
theorem POK.s1 (h:POK x y t):az (aE aJ t.c.1 (mulM (pD x t) t.b.1)) (mulM t.a.1 (pE y t))=true:=by
 have m:=eV h.ae1;have a:=fc h.c1
 exact aY a.1 m.1 (by rw [a.2.1,m.2.1,h.cr,h.ar]) (by rw [a.2.2,m.2.2,h.cc,h.e.2.2])
theorem POK.s2 (h:POK x y t):az (aE aJ t.c.2 (mulM (pD x t) t.b.2)) (mulM t.a.2 (pE y t))=true:=by
 have m:=eV h.ae2;have a:=fc h.c2
 exact aY a.1 m.1 (by rw [a.2.1,m.2.1,<- (ai h.tk.vc).2.2.1,h.cr,h.ar,(ai h.tk.va).2.2.1]) (by rw [a.2.2,m.2.2,<- (ai h.tk.vc).2.2.2,h.cc,h.e.2.2])
theorem POK.one (h:POK x y t):mvB (sb t.c.1 (pD x t) t.b.1 t.a.1 (pE y t))=true/\(sb t.c.1 (pD x t) t.b.1 t.a.1 (pE y t)).r=x.1.r/\(sb t.c.1 (pD x t) t.b.1 t.a.1 (pE y t)).c=y.1.c:=by
 have a:=fc h.s1;have b:=fc h.c1
 exact ⟨a.1,(a.2.1.trans b.2.1).trans h.cr,(a.2.2.trans b.2.2).trans h.cc⟩
theorem POK.l1 (h:POK x y t):az (sb t.c.1 (pD x t) t.b.1 t.a.1 (pE y t)) (mulM (pD x t) (pE y t))=true:=by
 have m:=eV h.de
 exact aY h.one.1 m.1 (by rw [h.one.2.1,m.2.1,h.d.2.1]) (by rw [h.one.2.2,m.2.2,h.e.2.2])
theorem POK.ok (h:POK x y t):okS (dw x y t,dF x y t)=true/\(dw x y t).r=x.1.r/\(dw x y t).c=y.1.c:=by
 have a:=fc h.l1;have b:=fc h.s2;have c:=fc h.c2;have ar:(dw x y t).r=x.1.r:=a.2.1.trans h.one.2.1;have ac:(dw x y t).c=y.1.c:=a.2.2.trans h.one.2.2;refine ⟨aY a.1 b.1 ?_ ?_,ar,ac⟩
 ·show (dw x y t).r=(dF x y t).r
  rw [ar];show _=(aE aJ _ _).r
  rw [b.2.1,c.2.1,<- (ai h.tk.vc).2.2.1,h.cr]
 ·show (dw x y t).c=(dF x y t).c
  rw [ac];show _=(aE aJ _ _).c
  rw [b.2.2,c.2.2,<- (ai h.tk.vc).2.2.2,h.cc]
end
theorem qq {x y:Mx×Mx} {s:Int} (hx:okS x=true) (hy:okS y=true) (hxy:x.1.c=y.1.r):POK x y (ig x.1.r x.1.c y.1.c s):=by
 obtain ⟨s1,s2⟩:=aA (ai hx).1;obtain ⟨_,s3⟩:=aA (ai hy).1
 exact ⟨hx,hy,hxy,Bi s1 s2 s3,rfl,rfl,hxy.symm,rfl,rfl,rfl⟩
theorem yx {r i c s:Int} (h:sdB s=true):sdB (oC r i c s)=true:=cS (cS (cS (cS (cS h _) _) _) _) _
theorem kI {x y:Mx×Mx} {s:Int} (hx:okS x=true) (hy:okS y=true) (hxy:x.1.c=y.1.r) (hs:sdB s=true):okS (dG x y s).1=true/\(dG x y s).1.1.r=x.1.r/\(dG x y s).1.1.c=y.1.c/\sdB (dG x y s).2=true:=by
 obtain ⟨h1,h2,h3⟩:=(qq (s:=s) hx hy hxy).ok
 exact ⟨h1,h2,h3,yx hs⟩
def eI (x y:Mx×Mx) (s:Int):(Mx×Mx)×Int:=dv (fnv 1) (dG x y s).1 (dG x y s).2
theorem gV {x y:Mx×Mx} {s:Int} (hx:okS x=true) (hy:okS y=true) (hxy:x.1.c=y.1.r) (hs:sdB s=true):okS (eI x y s).1=true/\(eI x y s).1.1.r=x.1.r/\(eI x y s).1.1.c=y.1.c/\sdB (eI x y s).2=true:=by
 obtain ⟨a1,a2,a3,a4⟩:=kI hx hy hxy hs;obtain ⟨b1,b2,b3,b4⟩:=ja (fnv 1) a1 a4
 exact ⟨b1,b2.trans a2,b3.trans a3,b4⟩
def scS (s:Int):Nat->Int
 | 0=>s
 | k+1=>sds (scS s k) 5
def scD (p:Mx×Mx) (s:Int) (k:Nat):Int:=mD (p.1.v.getD k 0) (p.2.v.getD k 0) (rn s 0) (rn s 1)
def scE (q:Mx×Mx) (s:Int) (r:Nat):Int:=mD (q.1.v.getD r 0) (q.2.v.getD r 0) (rn s 2) (rn s 3)
def sc1 (p q:Mx×Mx) (s:Int) (k:Nat):Int:=mP1 (rn (scS s k) 4) (rn (scS s k) 2) (rn (scS s k) 0) (scD p (scS s k) k) (scE q (scS s k) (k/p.1.c.toNat))
def sc2 (p q:Mx×Mx) (s:Int) (k:Nat):Int:=mP2 ((tC (scS s k)-rn (scS s k) 4)%4096) (rn (scS s k) 3) (rn (scS s k) 1) (scD p (scS s k) k) (scE q (scS s k) (k/p.1.c.toNat))
def c_ (p q:Mx×Mx) (s:Int):(Mx×Mx)×Int:=((⟨p.1.r,p.1.c,fl (sc1 p q s) p.1.v.length⟩,⟨p.1.r,p.1.c,fl (sc2 p q s) p.1.v.length⟩),scS s p.1.v.length)
theorem qH {s:Int} (h:sdB s=true):∀ k,sdB (scS s k)=true
 | 0=>h
 | k+1=>cS (qH h k) 5
theorem pK {p q:Mx×Mx} {s:Int} (h:okS p=true) (hs:sdB s=true):okS (c_ p q s).1=true/\(c_ p q s).1.1.r=p.1.r/\(c_ p q s).1.1.c=p.1.c/\sdB (c_ p q s).2=true:=by
 obtain ⟨h1,h2,h3⟩:=zo h (q:=(c_ p q s).1) rfl (fun k _=>sl _) (fun k _=>sl _)
 exact ⟨h1,h2,h3,qH hs _⟩
def iu (p:Mx×Mx) (cs:Int):Mx×Mx:=(jA p.1 cs,jA p.2 cs)
def jz (p:Mx×Mx):Mx×Mx:=(ir p.1,ir p.2)
def mi (p:Mx×Mx):Mx×Mx:=(il p.1,il p.2)
theorem sH {m:Mx} {cs:Int} (h:mvB m=true) (hc:side cs=true):mvB (jA m cs)=true:=by
 obtain ⟨s1,_⟩:=aA h;refine mf s1 hc ?_ (fun k _=>kH h _)
 push_cast
 rw [et s1,et hc]
theorem sG {m:Mx} (h:mvB m=true):mvB (ir m)=true/\(ir m).r=m.c/\(ir m).c=m.r:=by
 obtain ⟨s1,s2⟩:=aA h;rw [qN h];refine ⟨mf s2 s1 ?_ (fun k _=>kH h _),rfl,rfl⟩
 push_cast
 rw [et s1,et s2]
theorem sh {m:Mx} (h:mvB m=true):mvB (il m)=true/\(il m).r=m.r/\(il m).c=1:=by
 obtain ⟨s1,s2⟩:=aA h;rw [qu h];refine ⟨mf s1 (by decide) ?_ (fun k _=>sl _),rfl,rfl⟩
 rw [et s1];omega
theorem oF {p:Mx×Mx} {cs:Int} (h:okS p=true) (hc:side cs=true):okS (iu p cs)=true:=by
 obtain ⟨h1,h2,h3,_⟩:=ai h
 exact aY (sH h1 hc) (sH h2 hc) h3 rfl
theorem kY {p:Mx×Mx} (h:okS p=true):okS (jz p)=true/\(jz p).1.r=p.1.c/\(jz p).1.c=p.1.r:=by
 obtain ⟨h1,h2,h3,h4⟩:=ai h;have a:=sG h1;have b:=sG h2
 exact ⟨aY a.1 b.1 ((a.2.1.trans h4).trans b.2.1.symm) ((a.2.2.trans h3).trans b.2.2.symm),a.2.1,a.2.2⟩
theorem n_ {p:Mx×Mx} (h:okS p=true):okS (mi p)=true/\(mi p).1.r=p.1.r/\(mi p).1.c=1:=by
 obtain ⟨h1,h2,h3,h4⟩:=ai h;have a:=sh h1;have b:=sh h2
 exact ⟨aY a.1 b.1 ((a.2.1.trans h3).trans b.2.1.symm) (a.2.2.trans b.2.2.symm),a.2.1,a.2.2⟩
theorem vD {a b:Mx×Mx} (ha:okS a=true) (hb:okS b=true) (h1:a.1.r=b.1.r) (h2:a.1.c=b.1.c):okS (jX a b)=true/\(jX a b).1.r=a.1.r/\(jX a b).1.c=a.1.c:=by
 obtain ⟨a1,a2,a3,a4⟩:=ai ha;obtain ⟨b1,b2,b3,b4⟩:=ai hb;have x:=fc (aY a1 b1 h1 h2);have y:=fc (aY a2 b2 (by rw [<- a3,<- b3,h1]) (by rw [<- a4,<- b4,h2]))
 exact ⟨aY x.1 y.1 (by show (aE aJ a.1 b.1).r=(aE aJ a.2 b.2).r;rw [x.2.1,y.2.1,a3]) (by show (aE aJ a.1 b.1).c=(aE aJ a.2 b.2).c;rw [x.2.2,y.2.2,a4]),x.2.1,x.2.2⟩
def ec (w b x:Mx×Mx) (s:Int):(Mx×Mx)×Int:=(jX (eI w x s).1 (iu b x.1.c),(eI w x s).2)
theorem uI {w b x:Mx×Mx} {s:Int} (hw:okS w=true) (hb:okS b=true) (hx:okS x=true) (hwx:w.1.c=x.1.r) (hbw:b.1.r=w.1.r) (hs:sdB s=true):okS (ec w b x s).1=true/\(ec w b x s).1.1.r=w.1.r/\(ec w b x s).1.1.c=x.1.c/\sdB (ec w b x s).2=true:=by
 obtain ⟨a1,a2,a3,a4⟩:=gV hw hx hwx hs;obtain ⟨_,sc⟩:=aA (ai hx).1;obtain ⟨b1,b2,b3⟩:=vD a1 (oF hb sc) (by rw [a2];exact hbw.symm) a3
 exact ⟨b1,b2.trans a2,b3.trans a3,a4⟩
structure xz where
 q:(Mx×Mx)×Int
 k:(Mx×Mx)×Int
 v:(Mx×Mx)×Int
 t:(Mx×Mx)×Int
 g:(Mx×Mx)×Int
 m:(Mx×Mx)×Int
 e:(Mx×Mx)×Int
 h:(Mx×Mx)×Int
 o:(Mx×Mx)×Int
structure Bn (a b c x:Mx×Mx) (s:Int) (z:xz):Prop where
 q:z.q=eI x a s
 k:z.k=eI x b z.q.2
 v:z.v=eI x c z.k.2
 t:z.t=eI z.q.1 (jz z.k.1) z.v.2
 g:z.g=dv (fnv 4) z.t.1 z.t.2
 m:z.m=dv (fnv 5) (mi z.g.1) z.g.2
 e:z.e=c_ z.g.1 z.m.1 z.m.2
 h:z.h=dv (fnv 1) z.e.1 z.e.2
 o:z.o=eI z.h.1 z.v.1 z.h.2
def yc (a b c x:Mx×Mx) (s:Int):xz :=
 let q:=eI x a s
 let k:=eI x b q.2
 let v:=eI x c k.2
 let t:=eI q.1 (jz k.1) v.2
 let g:=dv (fnv 4) t.1 t.2
 let m:=dv (fnv 5) (mi g.1) g.2
 let e:=c_ g.1 m.1 m.2
 let h:=dv (fnv 1) e.1 e.2
 ⟨q,k,v,t,g,m,e,h,eI h.1 v.1 h.2⟩
theorem AB (a b c x:Mx×Mx) (s:Int):Bn a b c x s (yc a b c x s):=⟨rfl,rfl,rfl,rfl,rfl,rfl,rfl,rfl,rfl⟩
def nR (a b c x:Mx×Mx) (s:Int):(Mx×Mx)×Int:=(yc a b c x s).o
def OKD (z:(Mx×Mx)×Int) (r c:Int):Prop:=okS z.1=true/\z.1.1.r=r/\z.1.1.c=c/\sdB z.2=true
structure Cp (x:Mx×Mx) (z:xz):Prop where
 q:OKD z.q x.1.r x.1.c
 k:OKD z.k x.1.r x.1.c
 v:OKD z.v x.1.r x.1.c
 t:OKD z.t x.1.r x.1.r
 g:OKD z.g x.1.r x.1.r
 m:OKD z.m x.1.r 1
 e:OKD z.e x.1.r x.1.r
 h:OKD z.h x.1.r x.1.r
 o:OKD z.o x.1.r x.1.c
theorem AD {a b c x:Mx×Mx} {s:Int} {z:xz} (R:Bn a b c x s z) (ha:okS a=true) (hb:okS b=true) (hc:okS c=true) (hx:okS x=true) (a1:a.1.r=x.1.c) (a2:a.1.c=x.1.c) (b1:b.1.r=x.1.c) (b2:b.1.c=x.1.c) (c1:c.1.r=x.1.c) (c2:c.1.c=x.1.c) (hs:sdB s=true):Cp x z:=by
 have q:OKD z.q x.1.r x.1.c:=by
  obtain ⟨h1,h2,h3,h4⟩:=gV hx ha a1.symm hs;rw [R.q];exact ⟨h1,h2,h3.trans a2,h4⟩
 have k:OKD z.k x.1.r x.1.c:=by
  obtain ⟨h1,h2,h3,h4⟩:=gV hx hb b1.symm q.2.2.2;rw [R.k];exact ⟨h1,h2,h3.trans b2,h4⟩
 have v:OKD z.v x.1.r x.1.c:=by
  obtain ⟨h1,h2,h3,h4⟩:=gV hx hc c1.symm k.2.2.2;rw [R.v];exact ⟨h1,h2,h3.trans c2,h4⟩
 have t:OKD z.t x.1.r x.1.r:=by
  have u:=kY k.1;obtain ⟨h1,h2,h3,h4⟩:=gV q.1 u.1 (by rw [q.2.2.1,u.2.1,k.2.2.1]) v.2.2.2
  rw [R.t];exact ⟨h1,h2.trans q.2.1,h3.trans (u.2.2.trans k.2.1),h4⟩
 have g:OKD z.g x.1.r x.1.r:=by
  obtain ⟨h1,h2,h3,h4⟩:=ja (fnv 4) t.1 t.2.2.2;rw [R.g];exact ⟨h1,h2.trans t.2.1,h3.trans t.2.2.1,h4⟩
 have m:OKD z.m x.1.r 1:=by
  have u:=n_ g.1;obtain ⟨h1,h2,h3,h4⟩:=ja (fnv 5) u.1 g.2.2.2;rw [R.m];exact ⟨h1,h2.trans (u.2.1.trans g.2.1),h3.trans u.2.2,h4⟩
 have e:OKD z.e x.1.r x.1.r:=by
  obtain ⟨h1,h2,h3,h4⟩:=pK (q:=z.m.1) g.1 m.2.2.2;rw [R.e];exact ⟨h1,h2.trans g.2.1,h3.trans g.2.2.1,h4⟩
 have h:OKD z.h x.1.r x.1.r:=by
  obtain ⟨h1,h2,h3,h4⟩:=ja (fnv 1) e.1 e.2.2.2;rw [R.h];exact ⟨h1,h2.trans e.2.1,h3.trans e.2.2.1,h4⟩
 have o:OKD z.o x.1.r x.1.c:=by
  obtain ⟨h1,h2,h3,h4⟩:=gV h.1 v.1 (by rw [h.2.2.1,v.2.1]) h.2.2.2
  rw [R.o];exact ⟨h1,h2.trans h.2.1,h3.trans v.2.2.1,h4⟩
 exact ⟨q,k,v,t,g,m,e,h,o⟩
end
end Go.Proofs.YtjciicheoghcdaaGreatDoor

/- Part of the proof: the law FnServiceRun is true for every input. -/
import Derived.Test.YtjciicheoghcdaaGreatDoorVe
namespace Go.Proofs.YtjciicheoghcdaaGreatDoor
open Go.RowKit Go.Proofs.Tryz
set_option linter.all false
set_option maxRecDepth 20000
set_option maxHeartbeats 16000000
section
structure Ow where
 F:Nat->Prop
 P:World->Prop
 C:World->Prop
 N:Nat->Prop
 K:(Nat->Prop)->Prop
 lt:∀ w,P w->∀ i,F i->i<w.heap.size
 au:∀ w w',P w->w.heap.size<=w'.heap.size->(∀ i,F i->i<w.heap.size->w'.heap[i]?=w.heap[i]?)->P w'
 c:∀ w,P w->C w
 n:∀ g,¬F g->N g
 k:∀ p:Nat->Prop,(∀ i,F i->p i)->K p
def sR (w:World) (g:Nat):Nat->List Value->Prop
 | _,[]=>True
 | i,v::cs=>w.cell? ⟨g,i,none⟩=some v/\w.frozen? ⟨g,i,none⟩=false/\sR w g (i+1) cs
theorem yQ {w:World} {g:Nat} {t:TypeId} {cs:Array Value} (h:Blk w g t cs):∀ (l:List Value) (i:Nat),(∀ j,l[j]?=cs[i+j]?)->(∀ j,j<l.length->i+j<cs.size)->sR w g i l
 | [],_,_,_=>trivial
 | v::l,i,e,hl=>⟨(h.cell i).trans ((e 0).symm.trans (by simp)),h.frozen i,yQ h l (i+1) (fun j=>by have:=e (j+1);simp only[List.getElem?_cons_succ] at this;rw[this];congr 1;omega) (fun j hj=>by have:=hl (j+1) (by simpa using hj);omega)⟩
def qB (g:Nat) (t:TypeId) (cs:List Value):Ow:=⟨fun i=>i=g,fun w=>Blk w g t cs.toArray,fun w=>g<w.heap.size/\sR w g 0 cs,fun h=>¬h=g/\¬g=h,fun p=>p g,fun w h i e=>by rw[e];exact h.lt,fun w w' h _ k=>(k g rfl h.lt).trans h,
 fun w h=>⟨h.lt,yQ h cs 0 (by simp) (by simp)⟩,fun h e=>⟨e,fun e'=>e e'.symm⟩,fun p h=>h g rfl⟩
def qT (F:Nat->Prop) (P:World->Prop) (lt:∀ w,P w->∀ i,F i->i<w.heap.size) (au:∀ w w',P w->w.heap.size<=w'.heap.size->(∀ i,F i->i<w.heap.size->w'.heap[i]?=w.heap[i]?)->P w'):Ow:=⟨F,P,fun _=>True,fun _=>True,fun _=>True,lt,au,fun _ _=>trivial,fun _ _=>trivial,fun _ _=>trivial⟩
abbrev qO (b:Nat) (A:Option Addr) (n c:Nat) (xs:List Int):Ow:=qT (fun i=>blk A=some i) (fun w=>OS w b A n c xs) (fun w h i e=>(h.aj i e).2) (fun w w' h hs k=>h.au hs k)
abbrev Ow.and (c d:Ow):Ow:=qT (fun i=>c.F i\/d.F i) (fun w=>c.P w/\d.P w) (fun w h i e=>e.elim (c.lt w h.1 i) (d.lt w h.2 i)) (fun w w' h hs k=>⟨c.au w w' h.1 hs fun i e=>k i (.inl e),d.au w w' h.2 hs fun i e=>k i (.inr e)⟩)
theorem fv {g:Nat} {t:TypeId} {cs:List Value} {w:World}:(qB g t cs).C w=(g<w.heap.size/\sR w g 0 cs):=rfl
theorem fz {g h:Nat} {t:TypeId} {cs:List Value}:(qB g t cs).N h=(¬h=g/\¬g=h):=rfl
theorem FR {g:Nat} {t:TypeId} {cs:List Value} {p:Nat->Prop}:(qB g t cs).K p=p g:=rfl
theorem DA {F P lt au p}:(qT F P lt au).K p=True:=rfl
theorem FU {F P lt au w}:(qT F P lt au).C w=True:=rfl
theorem DB {F P lt au h}:(qT F P lt au).N h=True:=rfl
def Of (L:List Ow) (i:Nat):Prop:=∀ d,d∈L->¬d.F i
def Sp:List Ow->World->Prop
 | [],_=>True
 | c::L,w=>c.P w/\(∀ i,c.F i->Of L i)/\Sp L w
def sO (c:Ow):List Ow->Prop
 | []=>True
 | d::L=>c.K d.N/\sO c L
def uE (w0:World):List Ow->World->Prop
 | [],w=>w0.heap.size<=w.heap.size/\Below w0.heap.size w0 w
 | c::L,w=>c.C w/\c.K (fun g=>w0.heap.size<=g)/\sO c L/\uE w0 L w
section
variable {w w' u w0:World} {L M:List Ow} {c:Ow} {g h i:Nat} {t:TypeId} {cs vs:List Value} {n q:Nat} {A:Option Addr} {xs:List Int} {v:Value}
theorem Sp.lt:∀ {L:List Ow},Sp L w->∀ c,c∈L->∀ i,c.F i->i<w.heap.size
 | [],_,c,hc,_,_=>by cases hc
 | d::L,h,c,hc,i,hi=>by
  rcases List.mem_cons.1 hc with rfl|hc
  ·exact c.lt w h.1 i hi
  ·exact h.2.2.lt c hc i hi
theorem Sp.au:∀ {L:List Ow},Sp L w->w.heap.size<=w'.heap.size->(∀ c,c∈L->∀ i,c.F i->i<w.heap.size->w'.heap[i]?=w.heap[i]?)->Sp L w'
 | [],_,_,_=>trivial
 | c::L,h,hs,k=>⟨c.au _ _ h.1 hs (k c (List.mem_cons_self ..)),h.2.1,h.2.2.au hs fun d hd=>k d (List.mem_cons_of_mem _ hd)⟩
theorem aN0 {c:Ow}:sO c []=True:=rfl
theorem aN1 {c d:Ow} {L:List Ow}:sO c (d::L)=(c.K d.N/\sO c L):=rfl
theorem aC0 {w0 w:World}:uE w0 [] w=(w0.heap.size<=w.heap.size/\Below w0.heap.size w0 w):=rfl
theorem aC1 {w0 w:World} {c:Ow} {L:List Ow}:uE w0 (c::L) w=(c.C w/\c.K (fun g=>w0.heap.size<=g)/\sO c L/\uE w0 L w):=rfl
theorem cf0 {w:World} {g i:Nat}:sR w g i []=True:=rfl
theorem cf1 {w:World} {g i:Nat} {v:Value} {cs:List Value}:sR w g i (v::cs)=(w.cell? ⟨g,i,none⟩=some v/\w.frozen? ⟨g,i,none⟩=false/\sR w g (i+1) cs):=rfl
theorem Bu:∀ {L:List Ow},(∀ i,c.F i->Of L i)->sO c L
 | [],_=>trivial
 | d::L,h=>⟨c.k _ fun g hg=>d.n g (h g hg d (List.mem_cons_self ..)),Bu fun i hi e he=>h i hi e (List.mem_cons_of_mem _ he)⟩
theorem Sp.all (hm:Below w0.heap.size w0 w):∀ {L:List Ow},Sp L w->(∀ c,c∈L->∀ i,c.F i->w0.heap.size<=i)->uE w0 L w
 | [],_,_=>⟨hm.size,hm⟩
 | c::L,h,k=>⟨c.c w h.1,c.k _ (k c (List.mem_cons_self ..)),Bu h.2.1,h.2.2.all hm fun d hd=>k d (List.mem_cons_of_mem _ hd)⟩
structure Hq (w0:World) (L:List Ow) (w:World):Prop where
 S:Sp L w
 B:∀ c,c∈L->∀ i,c.F i->w0.heap.size<=i
 O:Below w0.heap.size w0 w
theorem Hq.start (w:World):Hq w [] w:=⟨trivial,fun _ h=>(by cases h),Below.refl _ _⟩
theorem Hq.m (H:Hq w0 L w):w0.heap.size<=w.heap.size:=H.O.size
theorem Hq.C (H:Hq w0 L w):uE w0 L w:=H.S.all H.O H.B
theorem Hq.b (H:Hq w0 L w) (hb:Below w.heap.size w w'):Hq w0 L w':=⟨H.S.au hb.size fun c hc i hi hl=>hb.block i hl,H.B,H.O.trans (hb.mono H.m)⟩
theorem Hq.sk (H:Hq w0 L w) (o:Obj):Hq w0 L (w.alloc o):=H.b (Qb.alloc Ql _)
theorem Hq.tl (H:Hq w0 (c::L) w):Hq w0 L w:=⟨H.S.2.2,fun d hd=>H.B d (List.mem_cons_of_mem _ hd),H.O⟩
theorem Hq.add (H:Hq w0 L w) (hb:Below w.heap.size w w') (c:Ow) (hp:c.P w') (hF:∀ i,c.F i->w.heap.size<=i):Hq w0 (c::L) w' :=
 ⟨⟨hp,fun i hi d hd hdi=>by have:=H.S.lt d hd i hdi;have:=hF i hi;omega,(H.b hb).S⟩,fun d hd i hi=>by
  rcases List.mem_cons.1 hd with rfl|hd
  ·exact Nat.le_trans H.m (hF i hi)
  ·exact H.B d hd i hi,(H.b hb).O⟩
theorem Hq.al (H:Hq w0 L w) (hg:w.heap.size=g):Hq w0 (qB g t cs::L) (w.alloc (.cells cs.toArray t)):=by
 subst hg
 exact H.add (Qb.alloc Ql _) (qB _ t cs) (Blk.new w t _) (fun i hi=>Nat.le_of_eq hi.symm)
theorem Hq.os (H:Hq w0 L w) (hb:Below w.heap.size w w') (f:OS w' w.heap.size A n q xs):Hq w0 (qO w0.heap.size A n q xs::L) w':=H.add hb _ (f.mono H.m) fun i hi=>(f.aj i hi).1
theorem Hq.oo {B:Option Addr} {m c:Nat} {ys:List Int} (H:Hq w0 L w) (hb:Below w.heap.size w w') (f:OS w' w.heap.size A n q xs) (l:OS w' w.heap.size B m c ys):Hq w0 ((qO w0.heap.size A n q xs).and (qO w0.heap.size B m c ys)::L) w' :=
 H.add hb _ ⟨f.mono H.m,l.mono H.m⟩ fun i hi=>hi.elim (fun e=>(f.aj i e).1) (fun e=>(l.aj i e).1)
theorem Hq.pP {d:Ow} (H:Hq w0 (c.and d::L) w):Hq w0 (c::L) w:=⟨⟨H.S.1.1,fun i hi=>H.S.2.1 i (.inl hi),H.S.2.2⟩,fun e he i hi=>by
 rcases List.mem_cons.1 he with rfl|he
 ·exact H.B (Ow.and _ d) (List.mem_cons_self ..) i (.inl hi)
 ·exact H.tl.B e he i hi,H.O⟩
theorem Hq.zQ {d:Ow} (H:Hq w0 (c.and d::L) w):Hq w0 (d::L) w:=⟨⟨H.S.1.2,fun i hi=>H.S.2.1 i (.inr hi),H.S.2.2⟩,fun e he i hi=>by
 rcases List.mem_cons.1 he with rfl|he
 ·exact H.B (Ow.and c _) (List.mem_cons_self ..) i (.inr hi)
 ·exact H.tl.B e he i hi,H.O⟩
theorem Hq.of (H:Hq w0 L w) (k:Sp M w) (hm:∀ d,d∈M->d∈L):Hq w0 M w:=⟨k,fun d hd=>H.B d (hm d hd),H.O⟩
theorem Hq.bs (H:Hq w0 L w) (hg:w.heap.size=g) (ht:t=3:=by rfl):Hq w0 (qO w0.heap.size (some ⟨g,0,none⟩) 0 0 []::L) (w.alloc (.cells #[] t)):=by
 subst ht hg
 exact H.os (Qb.alloc Ql _) (mT w Ql)
theorem Hq.bs0 (H:Hq w0 L w) (hg:w.heap.size=g):Hq w0 (qO w0.heap.size (some ⟨g,0,none⟩) 0 0 []::L) (w.alloc (.cells #[] 3)):=H.bs hg
theorem Hq.nil (H:Hq w0 L w):Hq w0 (qO w0.heap.size none 0 0 []::L) w:=H.add Qb _ (OS.nil w _) fun i hi=>(by cases hi)
theorem Ow.P1 {c d:Ow} {w:World} (h:(c.and d).P w):c.P w:=h.1
theorem Ow.P2 {c d:Ow} {w:World} (h:(c.and d).P w):d.P w:=h.2
inductive Has:List Ow->Ow->Prop
 | h0 {c:Ow} {L:List Ow}:Has (c::L) c
 | t0 {c d:Ow} {L:List Ow}:Has L c->Has (d::L) c
theorem Has.mem:∀ {L:List Ow} {c:Ow},Has L c->c∈L
 | _,_,.h0=>List.mem_cons_self ..
 | _,_,.t0 k=>List.mem_cons_of_mem _ k.mem
theorem Sp.get:∀ {L:List Ow} {c:Ow},Sp L w->Has L c->c.P w
 | _,_,s,.h0=>s.1
 | _,_,s,.t0 k=>s.2.2.get k
theorem Hq.get (H:Hq w0 L w) (k:Has L c):c.P w:=H.S.get k
def nth:List Ow->Nat->Option Ow
 | [],_=>none
 | c::_,0=>some c
 | _::L,n+1=>nth L n
theorem Has.nth:∀ {L:List Ow} {i:Nat} {c:Ow},nth L i=some c->Has L c
 | _::_,0,_,h=>by injection h with h;subst h;exact Has.h0
 | _::L,i+1,_,h=>Has.t0 (Has.nth (L:=L) (i:=i) h)
theorem Hq.p (i:Nat) (H:Hq w0 L w) (k:nth L i=some c:=by rfl):c.P w:=H.get (.nth k)
theorem Hq.k (i:Nat) (H:Hq w0 L w) (k:nth L i=some (qB g t cs):=by rfl):Blk w g t cs.toArray:=H.get (.nth k)
theorem Hq.o (i:Nat) (H:Hq w0 L w) (k:nth L i=some (qO n A q h xs):=by rfl):OS w n A q h xs:=H.get (.nth k)
theorem Hq.ge (i:Nat) (H:Hq w0 L w) (k:nth L i=some (qB g t cs):=by rfl):w0.heap.size<=g:=H.B _ (Has.nth k).mem g rfl
theorem Has.blk (H:Hq w0 L w) (k:Has L (qB g t cs)):Blk w g t cs.toArray:=H.get k
inductive Rot:Nat->List Ow->Ow->List Ow->Prop
 | z0 {c:Ow} {L:List Ow}:Rot 0 (c::L) c L
 | s0 {n:Nat} {c d:Ow} {L M:List Ow}:Rot n L c M->Rot (n+1) (d::L) c (d::M)
theorem Rot.sp:∀ {n:Nat} {L M:List Ow} {c:Ow},Rot n L c M->Sp L w->Sp (c::M) w/\(∀ d,d∈c::M->d∈L)/\(∀ d,d∈L->d∈c::M)
 | _,_,_,_,.z0,h=>⟨h,fun _ e=>e,fun _ e=>e⟩
 | _,d::L,_,c,.s0 (M:=M) r,h=>by
  obtain⟨k1,k2,k3⟩:=r.sp h.2.2;refine⟨⟨k1.1,fun i hi e he=>?_,h.1,fun i hi e he=>h.2.1 i hi e (k2 e (List.mem_cons_of_mem _ he)),k1.2.2⟩,fun e he=>?_,fun e he=>?_⟩
  ·rcases List.mem_cons.1 he with rfl|he
   ·exact fun hei=>h.2.1 i hei c (k2 c (List.mem_cons_self ..)) hi
   ·exact k1.2.1 i hi e he
  ·rcases List.mem_cons.1 he with rfl|he
   ·exact List.mem_cons_of_mem _ (k2 _ (List.mem_cons_self ..))
   ·rcases List.mem_cons.1 he with rfl|he
    ·exact List.mem_cons_self ..
    ·exact List.mem_cons_of_mem _ (k2 _ (List.mem_cons_of_mem _ he))
  ·rcases List.mem_cons.1 he with rfl|he
   ·exact List.mem_cons_of_mem _ (List.mem_cons_self ..)
   ·rcases List.mem_cons.1 (k3 _ he) with rfl|he
    ·exact List.mem_cons_self ..
    ·exact List.mem_cons_of_mem _ (List.mem_cons_of_mem _ he)
theorem Hq.r (i:Nat) (H:Hq w0 L w) (r:Rot i L c M:=by repeat constructor):Hq w0 (c::M) w:=H.of (r.sp H.S).1 (r.sp H.S).2.1
theorem Hq.d (i:Nat) (H:Hq w0 L w) (r:Rot i L c M:=by repeat constructor):Hq w0 M w:=(H.r i r).tl
theorem Hq.ap {C C':Option Addr} {k k' m m':Nat} {v y:List Int} (H:Hq w0 (qO w0.heap.size C m k v::L) w) (hO:OS w' w0.heap.size C' m' k' y) (ho:bJ C w w') (hc:C'=C\/∀ i,blk C'=some i->w.heap.size<=i):Hq w0 (qO w0.heap.size C' m' k' y::L) w':=by
 have hn:∀ d,d∈L->∀ i,d.F i->blk C≠some i:=fun d hd i hi e=>H.S.2.1 i e d hd hi
 have hk:∀ d,d∈L->∀ i,d.F i->i<w.heap.size->w'.heap[i]?=w.heap[i]?:=fun d hd i hi hl=>ho.block i hl (fun e=>hn d hd i hi e.symm)
 refine⟨⟨hO,fun i hi d hd hdi=>?_,H.S.2.2.au ho.size hk⟩,fun d hd i hi=>?_,H.O.trans (bJ.toBelow ho (fun g hg=>H.B _ (List.mem_cons_self ..) g hg) H.m)⟩
 ·rcases hc with rfl|hc
  ·exact hn d hd i hdi hi
  ·have:=hc i hi;have:=H.S.2.2.lt d hd i hdi;omega
 ·rcases List.mem_cons.1 hd with rfl|hd
  ·exact(hO.aj i hi).1
  ·exact H.tl.B d hd i hi
inductive gv:List Value->Nat->Value->List Value->Prop
 | z0 {a v:Value} {l:List Value}:gv (a::l) 0 v (v::l)
 | s0 {a v:Value} {l m:List Value} {i:Nat}:gv l i v m->gv (a::l) (i+1) v (a::m)
theorem gv.eq:∀ {l m:List Value} {i:Nat} {v:Value},gv l i v m->l.set i v=m
 | _,_,_,_,.z0=>rfl
 | _,_,_,_,.s0 k=>by simp[k.eq]
inductive UpB:List Ow->Nat->TypeId->List Value->List Value->List Ow->Prop
 | h0 {g:Nat} {t:TypeId} {cs vs:List Value} {L:List Ow}:UpB (qB g t cs::L) g t cs vs (qB g t vs::L)
 | t0 {c:Ow} {g:Nat} {t:TypeId} {cs vs:List Value} {L M:List Ow}:UpB L g t cs vs M->UpB (c::L) g t cs vs (c::M)
inductive Upd:List Ow->Nat->Nat->Value->List Ow->Prop
 | h0 {g i:Nat} {t:TypeId} {cs vs:List Value} {L:List Ow} {v:Value}:gv cs i v vs->Upd (qB g t cs::L) g i v (qB g t vs::L)
 | o0 {b g i n k:Nat} {xs:List Int} {L:List Ow} {v:Int}:Upd (qO b (some ⟨g,0,none⟩) n k xs::L) g i (.int .i64 v) (qO b (some ⟨g,0,none⟩) n k (xs.set i v)::L)
 | t0 {c:Ow} {g i:Nat} {L M:List Ow} {v:Value}:Upd L g i v M->Upd (c::L) g i v (c::M)
theorem UpB.has:∀ {L M:List Ow} {g:Nat} {t:TypeId} {cs vs:List Value},UpB L g t cs vs M->Has L (qB g t cs)
 | _,_,_,_,_,_,.h0=> .h0
 | _,_,_,_,_,_,.t0 k=> .t0 k.has
theorem UpB.sp:∀ {L M:List Ow} {g:Nat} {t:TypeId} {cs vs:List Value},UpB L g t cs vs M->Blk w' g t vs.toArray->aZ g w w'->Sp L w->Sp M w'/\(∀ d,d∈M->∃ e,e∈L/\∀ i,d.F i->e.F i)
 | _,_,g,t,cs,vs,.h0 (L:=L),hB,ho,h=>⟨⟨hB,h.2.1,h.2.2.au ho.size fun d hd i hi hl=>ho.block i hl (fun e=>h.2.1 g rfl d hd (by injection e with e;rw[<-e];exact hi))⟩,fun d hd=>by
  rcases List.mem_cons.1 hd with rfl|hd
  ·exact⟨_,List.mem_cons_self ..,fun _ e=>e⟩
  ·exact⟨d,List.mem_cons_of_mem _ hd,fun _ e=>e⟩⟩
 | _,_,g,t,cs,vs,@UpB.t0 c _ _ _ _ _ _ k,hB,ho,h=>by
  obtain⟨h1,h2⟩:=k.sp hB ho h.2.2;have hg:¬c.F g:=fun hg=>h.2.1 g hg _ k.has.mem rfl
  refine⟨⟨c.au _ _ h.1 ho.size fun i hi hl=>ho.block i hl (fun e=>hg (by injection e with e;rw[<-e];exact hi)),fun i hi d hd hdi=>?_,h1⟩,fun d hd=>?_⟩
  ·obtain⟨e,he,hf⟩:=h2 d hd
   exact h.2.1 i hi e he (hf i hdi)
  ·rcases List.mem_cons.1 hd with rfl|hd
   ·exact⟨_,List.mem_cons_self ..,fun _ e=>e⟩
   ·obtain⟨e,he,hf⟩:=h2 d hd
    exact⟨e,List.mem_cons_of_mem _ he,hf⟩
theorem Hq.sa (H:Hq w0 L w) (u:UpB L g t cs vs M) (hB:Blk w' g t vs.toArray) (ho:aZ g w w'):Hq w0 M w':=by
 obtain⟨h1,h2⟩:=u.sp hB ho H.S
 exact⟨h1,fun d hd i hi=>by obtain⟨e,he,hf⟩:=h2 d hd;exact H.B e he i (hf i hi),aZ.xp ho H.O (H.B _ u.has.mem g rfl)⟩
theorem OS.put {b k:Nat} (h:OS w b (some ⟨g,0,none⟩) n k xs) (i:Nat) (v:Int):OS (w.setCell ⟨g,i,none⟩ (.int .i64 v)) b (some ⟨g,0,none⟩) n k (xs.set i v):=by
 have h2:=(World.ownsRow.stored h i (.int .i64 v)).1
 rwa [<-List.map_set] at h2
theorem Upd.sp:∀ {L M:List Ow} {g i:Nat} {v:Value},Upd L g i v M->Sp L w->Sp M (w.setCell ⟨g,i,none⟩ v)/\(∀ d,d∈M->∃ e,e∈L/\∀ i,d.F i->e.F i)/\∃ e,e∈L/\e.F g
 | _,_,_,_,_,@Upd.h0 g i t cs vs L v k,h=>by
  have hB:Blk (w.setCell ⟨g,i,none⟩ v) g t vs.toArray:=by
   have:=Blk.dc (show Blk w g t cs.toArray from h.1) i v
   rwa [List.setIfInBounds_toArray,k.eq] at this
  obtain⟨h1,h2⟩:=UpB.sp (UpB.h0 (t:=t) (cs:=cs)) hB (aZ.refl _ _).s1 h
  exact⟨h1,h2,_,List.mem_cons_self ..,rfl⟩
 | _,_,_,_,_,@Upd.o0 b g i n k xs L v,h=>⟨⟨OS.put h.1 i v,h.2.1,h.2.2.au (by simp[World.setCell]) fun d hd j hj hl=>Below.heap_setCell w _ _ j (fun e=>h.2.1 g rfl d hd ((show j=g from e) ▸ hj))⟩,fun d hd=>by
  rcases List.mem_cons.1 hd with rfl|hd
  ·exact⟨_,List.mem_cons_self ..,fun _ e=>e⟩
  ·exact⟨d,List.mem_cons_of_mem _ hd,fun _ e=>e⟩,_,List.mem_cons_self ..,rfl⟩
 | _,_,_,_,_,@Upd.t0 c g i L M v k,h=>by
  obtain⟨h1,h2,e0,he0,hg0⟩:=k.sp h.2.2;have hg:¬c.F g:=fun hg=>h.2.1 g hg e0 he0 hg0
  refine⟨⟨c.au _ _ h.1 (by simp[World.setCell]) fun j hj hl=>Below.heap_setCell w _ _ j (fun e=>hg ((show j=g from e) ▸ hj)),fun j hj d hd hdj=>?_,h1⟩,fun d hd=>?_,e0,List.mem_cons_of_mem _ he0,hg0⟩
  ·obtain⟨e,he,hf⟩:=h2 d hd
   exact h.2.1 j hj e he (hf j hdj)
  ·rcases List.mem_cons.1 hd with rfl|hd
   ·exact⟨_,List.mem_cons_self ..,fun _ e=>e⟩
   ·obtain⟨e,he,hf⟩:=h2 d hd
    exact⟨e,List.mem_cons_of_mem _ he,hf⟩
theorem Hq.st (H:Hq w0 L w) (u:Upd L g i v M):Hq w0 M (w.setCell ⟨g,i,none⟩ v):=by
 obtain⟨h1,h2,e,he,hg⟩:=u.sp H.S
 exact⟨h1,fun d hd i hi=>by obtain⟨e,he,hf⟩:=h2 d hd;exact H.B e he i (hf i hi),H.O.setCell (H.B e he g hg) _⟩
end
section
variable {P:Program} {w0 W:World} {L:List Ow}
theorem nqC {f:FuncId} {args:Array Value} {Q:Ending->World->Prop} (H:Hq w0 L W) (h:∀ u,Hq w0 L u->Calls P f args u Q):Calls P f args W Q:=h W H
theorem nqF {F:World->Prop} (H:Hq w0 L W) (h:∀ u,Hq w0 L u->F u):F W:=h W H
theorem nqW {c:Code} {Q:Exit->Act->World->Prop} {a:Act} (H:Hq w0 L W) (h:∀ u,Hq w0 L u->c.wp P Q a u):c.wp P Q a W:=h W H
theorem nqL {ops:Array Oper} {l:List Oper} {Q:Exit->Act->World->Prop} {a:Act} (H:Hq w0 L W) (h:∀ u,Hq w0 L u->wpList P ops Q l a u):wpList P ops Q l a W:=h W H
theorem nqE {fn:Func} {Q:Ending->World->Prop} {x:Exit} {a:Act} (H:Hq w0 L W) (h:∀ u,Hq w0 L u->bodyPost P fn Q x a u):bodyPost P fn Q x a W:=h W H
end
theorem all_nil {p:Nat->Prop}:∀ i,i∈([]:List Nat)->p i:=fun _ h=>(by cases h)
theorem all_cons {p:Nat->Prop} {b:Nat} {l:List Nat} (h:p b) (k:∀ i,i∈l->p i):∀ i,i∈b::l->p i:=fun i hi=>by
 rcases List.mem_cons.1 hi with rfl|hi
 ·exact h
 ·exact k i hi
def uG (w:World) (g:Nat):Nat->List Value->Prop
 | _,[]=>True
 | i,v::cs=>(∀ w',Below w.heap.size w w'->w'.cell? ⟨g,i,none⟩=some v)/\uG w g (i+1) cs
theorem Blk.el {w:World} {g:Nat} {t:TypeId} {cs:List Value} (h:Blk w g t cs.toArray):uG w g 0 cs:=by
 have key:∀ (l:List Value) (i:Nat),(∀ j,l[j]?=cs.toArray[i+j]?)->uG w g i l:=by
  intro l
  induction l with
  | nil=>exact fun _ _=>trivial
  | cons v l ih=>exact fun i e=>⟨fun w' hb=>((h.aa hb).cell i).trans ((e 0).symm.trans (by simp)),ih (i+1) (fun j=>by have:=e (j+1);simp only[List.getElem?_cons_succ] at this;rw[this];congr 1;omega)⟩
 exact key cs 0 (by simp)
structure Clq (S:World->Prop) (u:World) (gs:List Nat):Prop where
 kp:∀ w',Below u.heap.size u w'->S w'
 up:∀ w' w'' G,UpL G w' w''->(∀ i,i∈gs->¬G i)->S w'->S w''
 al:∀ w' o,S w'->S (w'.alloc o)
 c:∀ x:Wd S,∀ i,i∈gs->i<x.w.heap.size/\x.w.heap[i]?=u.heap[i]?
theorem clq (u:World) (gs:List Nat) (hL:∀ i,i∈gs->i<u.heap.size):∃ S,Clq S u gs :=
 ⟨fun w'=>∀ i,i∈gs->i<w'.heap.size/\w'.heap[i]?=u.heap[i]?,fun w' hb i hi=>⟨Nat.lt_of_lt_of_le (hL i hi) hb.size,hb.block i (hL i hi)⟩,
  fun w' w'' G hu hG h i hi=>⟨Nat.lt_of_lt_of_le (h i hi).1 hu.size,(hu.block i (h i hi).1 (hG i hi)).trans (h i hi).2⟩,
  fun w' o h i hi=>⟨by simp;exact Nat.lt_succ_of_lt (h i hi).1,(Below.heap_alloc w' o i (h i hi).1).trans (h i hi).2⟩,fun x i hi=>x.h i hi⟩
structure Hr (S:World->Prop) (u:World) (gs:List Nat) (w0:World) (L:List Ow) (w:World):Prop where
 H:Hq w0 L w
 cl:Clq S u gs
 s:S w
structure Elq (u w0:World) (L:List Ow):Prop where
 lt:∀ c,c∈L->∀ i,c.F i->i<u.heap.size
 m:w0.heap.size<=u.heap.size
theorem Hq.el {u w0:World} {L:List Ow} (H:Hq w0 L u):Elq u w0 L:=⟨H.S.lt,H.m⟩
def Cq_ (S:World->Prop) (g:Nat):Nat->List Value->Prop
 | _,[]=>True
 | i,v::cs=>(∀ x:Wd S,x.w.cell? ⟨g,i,none⟩=some v)/\Cq_ S g (i+1) cs
theorem cq0 {S:World->Prop} {g i:Nat}:Cq_ S g i []=True:=rfl
theorem cq1 {S:World->Prop} {g i:Nat} {v:Value} {cs:List Value}:Cq_ S g i (v::cs)=((∀ x:Wd S,x.w.cell? ⟨g,i,none⟩=some v)/\Cq_ S g (i+1) cs):=rfl
theorem ce0 {w:World} {g i:Nat}:uG w g i []=True:=rfl
theorem ce1 {w:World} {g i:Nat} {v:Value} {cs:List Value}:uG w g i (v::cs)=((∀ w',Below w.heap.size w w'->w'.cell? ⟨g,i,none⟩=some v)/\uG w g (i+1) cs):=rfl
def Ow.Ty (d:Ow):Prop:=∀ w,d.P w->∀ i,d.F i->∀ t cs,Blk w i t cs->t=3
theorem qtO {b:Nat} {A:Option Addr} {n c:Nat} {xs:List Int}:(qO b A n c xs).Ty:=fun w h i hi t cs hb=>Decidable.byContradiction fun e=>bf (show OS w b A n c xs from h) hb (fun e'=>e e'.symm) hi
theorem qtA {c d:Ow} (h:c.Ty) (k:d.Ty):(c.and d).Ty:=fun w hp i hi t cs hb=>hi.elim (fun hi=>h w hp.1 i hi t cs hb) (fun hi=>k w hp.2 i hi t cs hb)
section
variable {S:World->Prop} {u w0 w w':World} {gs:List Nat} {L M:List Ow} {d0:Ow} {g:Nat} {t:TypeId} {cs vs:List Value} {n q q':Nat} {A:Option Addr} {xs:List Int} {j0:Nat} {v:Value}
theorem Hr.O (Z:Hr S u gs w0 L w):Below w0.heap.size w0 w:=Z.H.O
theorem Hr.b (Z:Hr S u gs w0 L w) (hb:Below w.heap.size w w'):Hr S u gs w0 L w':=⟨Z.H.b hb,Z.cl,Z.cl.up _ _ (fun _=>False) (UpL.eW hb) (fun _ _ e=>e) Z.s⟩
theorem Hr.re (Z:Hr S u gs w0 L w) (k:Hq w0 L w->Hq w0 M w):Hr S u gs w0 M w:=⟨k Z.H,Z.cl,Z.s⟩
theorem Hr.bk (Z:Hr S u gs w0 L w) (hb:Below w.heap.size w w') (k:Hq w0 L w->Hq w0 M w'):Hr S u gs w0 M w':=⟨k Z.H,Z.cl,(Z.b hb).s⟩
theorem Hr.os (Z:Hr S u gs w0 L w) (hb:Below w.heap.size w w') (f:OS w' w.heap.size A n q xs):Hr S u gs w0 (qO w0.heap.size A n q xs::L) w':=Z.bk hb fun H=>H.os hb f
theorem Hr.oo {B:Option Addr} {m c:Nat} {ys:List Int} (Z:Hr S u gs w0 L w) (hb:Below w.heap.size w w') (f:OS w' w.heap.size A n q xs) (l:OS w' w.heap.size B m c ys):Hr S u gs w0 ((qO w0.heap.size A n q xs).and (qO w0.heap.size B m c ys)::L) w':=Z.bk hb fun H=>H.oo hb f l
theorem Hr.d (i:Nat) (Z:Hr S u gs w0 L w) (r:Rot i L d0 M:=by repeat constructor):Hr S u gs w0 M w:=Z.re fun H=>H.d i r
theorem Hr.r (i:Nat) (Z:Hr S u gs w0 L w) (r:Rot i L d0 M:=by repeat constructor):Hr S u gs w0 (d0::M) w:=Z.re fun H=>H.r i r
theorem Hr.p (i:Nat) (Z:Hr S u gs w0 L w) (k:nth L i=some d0:=by rfl):d0.P w:=Z.H.p i k
theorem Hr.k (i:Nat) (Z:Hr S u gs w0 L w) (k:nth L i=some (qB g t cs):=by rfl):Blk w g t cs.toArray:=Z.H.k i k
theorem Hr.o {h:Nat} (i:Nat) (Z:Hr S u gs w0 L w) (k:nth L i=some (qO n A q h xs):=by rfl):OS w n A q h xs:=Z.H.o i k
theorem Hr.sa (Z:Hr S u gs w0 L w) (k:UpB L g t cs vs M) (hB:Blk w' g t vs.toArray) (ho:aZ g w w') (hn:g∉gs):Hr S u gs w0 M w' :=
 ⟨Z.H.sa k hB ho,Z.cl,Z.cl.up _ _ (fun i=>i=g) (UpL.AQ ho rfl) (fun i hi e=>hn (e ▸ hi)) Z.s⟩
theorem Hr.bl (Z:Hr S u gs w0 L w) {cs:Array Value} (hB:Blk w g t cs) (hm:g∈gs):∀ x:Wd S,Cs x.w g cs:=fun x=>by
 obtain⟨h1,h2⟩:=Z.cl.c ⟨w,Z.s⟩ g hm;obtain⟨h3,h4⟩:=Z.cl.c x g hm
 exact⟨h3,fun i=>(World.cell?_of_block (w:=w) (h4.trans h2.symm)).trans (hB.cell i)⟩
theorem yT {cs:Array Value} (h:∀ x:Wd S,Cs x.w g cs):∀ (l:List Value) (i:Nat),(∀ j,l[j]?=cs[i+j]?)->Cq_ S g i l
 | [],_,_=>trivial
 | v::l,i,e=>⟨fun x=>((h x).2 i).trans ((e 0).symm.trans (by simp)),yT h l (i+1) (fun j=>by have:=e (j+1);simp only[List.getElem?_cons_succ] at this;rw[this];congr 1;omega)⟩
theorem Hr.c (i:Nat) (Z:Hr S u gs w0 L w) (k:nth L i=some (qB g t cs):=by rfl) (hm:g∈gs:=by simp):Cq_ S g 0 cs:=yT (Z.bl (Z.k i k) hm) cs 0 (by simp)
theorem Hr.row (Z:Hr S u gs w0 L w) (hc:w.cell? ⟨g,j0,none⟩=some v) (hm:g∈gs:=by simp):∀ x:Wd S,x.w.cell? ⟨g,j0,none⟩=some v:=fun x=>by
 obtain⟨h1,h2⟩:=Z.cl.c ⟨w,Z.s⟩ g hm;obtain⟨h3,h4⟩:=Z.cl.c x g hm
 exact(World.cell?_of_block (w:=w) (h4.trans h2.symm)).trans hc
theorem Hr.al (Z:Hr S u gs w0 L w):Hr S u gs w0 (qB w.heap.size t cs::L) (w.alloc (.cells cs.toArray t)):=Z.bk (Qb.alloc Ql _) fun H=>H.al rfl
theorem Hr.bs (Z:Hr S u gs w0 L w) (t':TypeId) (ht:t'=3:=by rfl):Hr S u gs w0 (qO w0.heap.size (some ⟨w.heap.size,0,none⟩) 0 0 []::L) (w.alloc (.cells #[] t')):=Z.bk (Qb.alloc Ql _) fun H=>H.bs rfl ht
theorem Hr.ap {C C':Option Addr} {k k' m m':Nat} {v y:List Int} (Z:Hr S u gs w0 (qO w0.heap.size C m k v::L) w) (hO:OS w' w0.heap.size C' m' k' y) (ho:bJ C w w') (hc:C'=C\/∀ i,blk C'=some i->w.heap.size<=i) (hn:∀ i,i∈gs->blk C≠some i):Hr S u gs w0 (qO w0.heap.size C' m' k' y::L) w' :=
 ⟨Z.H.ap hO ho hc,Z.cl,Z.cl.up _ _ (fun i=>blk C=some i) (UpL.bR (A:=C) UpL.refl ho (fun _ _ e=>e)) (fun i hi e=>hn i hi e) Z.s⟩
theorem Hr.z (Z:Hr S u gs w0 L w) (E:Elq u w0 L) (hb:Below w.heap.size w w') (hg:u.heap.size<=g) (hG:Blk w' g t cs.toArray):Hr S u gs w0 (qB g t cs::L) w' :=
 ⟨⟨⟨hG,fun i hi d hd hdi=>by have:=E.lt d hd i hdi;have h:i=g:=hi;omega,(Z.H.b hb).S⟩,fun d hd i hi=>by
  rcases List.mem_cons.1 hd with rfl|hd
  ·have h:i=g:=hi;rw[h];exact Nat.le_trans E.m hg
  ·exact Z.H.B d hd i hi,(Z.H.b hb).O⟩,Z.cl,(Z.b hb).s⟩
theorem Hr.zc {d:Ow} (Z:Hr S u gs w0 (d::L) w) (hb:Below w.heap.size w w') (k:Hr S u gs w0 (qB g t cs::L) w') (ht:t≠3) (hd:d.Ty):Hr S u gs w0 (qB g t cs::d::L) w':=by
 have h:=Z.b hb;refine⟨⟨⟨k.H.S.1,fun i hi e he hei=>?_,h.H.S⟩,fun e he i hi=>?_,h.H.O⟩,h.cl,h.s⟩
 ·rcases List.mem_cons.1 he with rfl|he
  ·exact ht (hd w' h.H.S.1 i hei _ _ (by have e:i=g:=hi;rw[e];exact k.H.S.1))
  ·exact k.H.S.2.1 i hi e he hei
 ·rcases List.mem_cons.1 he with rfl|he
  ·exact k.H.B _ (List.mem_cons_self ..) i hi
  ·exact h.H.B e he i hi
theorem lx' (Z:Hr S u gs w0 L w) {R K:Act->World->Prop} (hK:∀ a' w',(∃ x:Wd S,w'=x.w)->R a' w'->K a' w') {f:Value->Act} {v:Value} (h:R (f v) w):∃ v',Ending.returned v= .returned v'/\K (f v') w:=⟨v,rfl,hK _ _ ⟨⟨w,Z.s⟩,rfl⟩ h⟩
theorem ly' (Z:Hr S u gs w0 L w) {R K:Act->World->Prop} (hK:∀ a' w',(∃ x:Wd S,w'=x.w)->R a' w'->K a' w') {a:Act} (h:R a w):K a w:=hK _ _ ⟨⟨w,Z.s⟩,rfl⟩ h
theorem lz' (Z:Hr S u gs w0 L w) {R K:Act->World->Prop} (hK:∀ a' w',(∃ x:Wd S,w'=x.w)->R a' w'->K a' w') {a:Act} (h:∀ w,Hr S u gs w0 L w->R a w):K a w:=hK _ _ ⟨⟨w,Z.s⟩,rfl⟩ (h w Z)
theorem BN (Z:Hr S u gs w0 L w) (hb:Below w'.heap.size w' w) {R K:Act->World->Prop} (hK:∀ a' w'',(∃ x:Wd S,w''=x.w)->Below w'.heap.size w' w''->R a' w''->K a' w'') {a:Act} (h:∀ w,Hr S u gs w0 L w->R a w):K a w:=hK _ _ ⟨⟨w,Z.s⟩,rfl⟩ hb (h w Z)
theorem E4 (Z:Hr S u gs w0 L w) (hb:Below w'.heap.size w' w) {R K:Act->World->Prop} (hK:∀ a' w'',(∃ x:Wd S,w''=x.w)->Below w'.heap.size w' w''->R a' w''->K a' w'') {a:Act} (h:R a w):K a w:=hK _ _ ⟨⟨w,Z.s⟩,rfl⟩ hb h
theorem xZ (Z:Hr S u gs w0 L w) (hb:Below w'.heap.size w' w) {R K:Act->World->Prop} (hK:∀ a' w'',(∃ x:Wd S,w''=x.w)->Below w'.heap.size w' w''->R a' w''->K a' w'') {f:Value->Act} {v:Value} (h:R (f v) w):∃ v',Ending.returned v= .returned v'/\K (f v') w:=⟨v,rfl,hK _ _ ⟨⟨w,Z.s⟩,rfl⟩ hb h⟩
end
structure Wr (Q:Prop):Prop where
 o:Q
structure Tg (gs:List Nat):Prop where
 t:True
theorem tg (gs:List Nat):Tg gs:=⟨trivial⟩
structure TgF (gs:List Nat) (f d:Nat) (Z:Obj):Prop where
 t:True
theorem tgF (gs:List Nat) (f d:Nat) (Z:Obj):TgF gs f d Z:=⟨trivial⟩
section
variable {P:Program} {id:Nat} {Q:Exit->Act->World->Prop} {a:Act} {l:List Oper} {u w0:World} {L:List Ow}
theorem Hq.lxG (H:Hq w0 L u) (gs:List Nat) (X:TypeId->Bool) (nl:Bool) (h:∀ S w,Nonempty (Wd S)->Hr S u gs w0 L w->bx X P l.toArray (fun w'=>∃ x:Wd S,w'=x.w) nl (fun a' w'=>Q .normal a' w') l a w)
  (hgs:∀ i,i∈gs->i<u.heap.size) (hm:P.follows .mixedOrders=true) (hB:rT X .any l.toArray=true) (hN:nl=true->kF .any l.toArray=true):(Code.region id l.toArray true).wp P Q a u:=by
 obtain⟨S,HS⟩:=clq u gs hgs;have hb:Below u.heap.size u u.drew:=Qb.drew
 exact dZ X nl S hm hB hN (HS.kp _ hb) fun hne=>h S _ hne ⟨H.b hb,HS,HS.kp _ hb⟩
theorem Hq.lx {gs:List Nat} (_:Tg gs) (H:Hq w0 L u) (h:∀ S w,Nonempty (Wd S)->Hr S u gs w0 L w->bx noX P l.toArray (fun w'=>∃ x:Wd S,w'=x.w) false (fun a' w'=>Q .normal a' w') l a w)
  (hgs:∀ i,i∈gs->i<u.heap.size:=by repeat (first|exact all_nil|refine all_cons (by have C:=H.C;simp only[aC0,aC1,aN0,aN1,fv,fz,FR,FU,DB,DA,cf0,cf1,Nat.zero_add,Nat.add_zero,Nat.reduceAdd,true_and,and_true,and_assoc] at C;omega) ?_)) (hm:P.follows .mixedOrders=true:=by kernel_rfl) (hB:rT noX .any l.toArray=true:=by kernel_rfl):(Code.region id l.toArray true).wp P Q a u:=H.lxG gs noX false h hgs hm hB (fun h=>by cases h)
theorem Hq.lxZ {gs:List Nat} (_:Tg gs) (H:Hq w0 L u) (h:∀ S w,Nonempty (Wd S)->Hr S u gs w0 L w->bx noX P l.toArray (fun w'=>∃ x:Wd S,w'=x.w) true (fun a' w'=>Q .normal a' w') l a w)
  (hgs:∀ i,i∈gs->i<u.heap.size:=by repeat (first|exact all_nil|refine all_cons (by have C:=H.C;simp only[aC0,aC1,aN0,aN1,fv,fz,FR,FU,DB,DA,cf0,cf1,Nat.zero_add,Nat.add_zero,Nat.reduceAdd,true_and,and_true,and_assoc] at C;omega) ?_)) (hm:P.follows .mixedOrders=true:=by kernel_rfl) (hB:rT noX .any l.toArray=true:=by kernel_rfl) (hN:kF .any l.toArray=true:=by kernel_rfl):(Code.region id l.toArray true).wp P Q a u:=H.lxG gs noX true h hgs hm hB (fun _=>hN)
theorem Hq.lF {gs:List Nat} {f d:Nat} {Z:Obj} {of:Oper} (_:TgF gs f d Z) (H:Hq w0 L u) (h:∀ S w,Nonempty (Wd S)->Hr S u gs w0 L w->a_ noX P l.toArray (fun w'=>∃ x:Wd S,w'=x.w) false (fun a' w'=>Q .normal a' w') f d Z u.heap.size 0 l a w)
  (hgs:∀ i,i∈gs->i<u.heap.size:=by repeat (first|exact all_nil|refine all_cons (by have C:=H.C;simp only[aC0,aC1,aN0,aN1,fv,fz,FR,FU,DB,DA,cf0,cf1,Nat.zero_add,Nat.add_zero,Nat.reduceAdd,true_and,and_true,and_assoc] at C;omega) ?_)) (hm:P.follows .mixedOrders=true:=by kernel_rfl) (hB:xY noX .any l.toArray f d=true:=by kernel_rfl) (hfL:(f == cW l.toArray false)=false:=by kernel_rfl) (hof:l[f]?=some of:=by rfl) (hfa:FA noX P of d Z:=by exact⟨rfl,rfl,rfl,fun a w=>by simp[go_sem,ptr]⟩):(Code.region id l.toArray true).wp P Q a u:=by
 obtain⟨S,HS⟩:=clq u gs hgs;have hb:Below u.heap.size u u.drew:=Qb.drew
 exact gK noX false S f d of Z hm hB (fun h=>by cases h) hfL hof hfa (HS.kp _ hb) HS.al fun hne=>h S _ hne ⟨H.b hb,HS,HS.kp _ hb⟩
end
theorem gE {P:Program} {ops:Array Oper} {Q:Exit->Act->World->Prop} {X:TypeId->Bool} {C:World->Prop} {nl:Bool}:∀ (l:List Oper) (a:Act) (w:World),C w->bx X P ops C nl (fun a' w'=>Q .normal a' w') l a w->wpList P ops Q l a w
 | [],a,w,_,h=>wpList_nil h
 | o::rest,a,w,hw,h=>by
  refine wpList_step fun K hK=>?_
  unfold bx at h
  split at h
  ·rename_i hwn
   rw[if_pos hwn]
   split at h
   ·rename_i hcalm
    obtain⟨v,h1,h2⟩:=h;have h3:=h1 w hw;unfold Oper.quietAt at h3;unfold Oper.wp
    generalize hr:(execOp a.eval o).run P w=r at *
    cases r with
    | ok n w' =>
     cases n <;> simp only[Oper.quietUpon] at h3 <;> simp only[Oper.upon]
     case value u=>obtain⟨e1,e2⟩:=h3;rw[e1,e2];exact hK _ _ (gE rest _ _ hw h2)
     case skip=>obtain⟨e1,e2⟩:=h3;rw[e1,<-e2];exact hK _ _ (gE rest _ _ hw h2)
     case enter f args=>exact(pQ hcalm hr).elim
    | halt x w'=>simp only[Oper.quietUpon] at h3
   ·refine mo (cf (fun v w' hv=>?_) h)
    rcases hv with⟨⟨hr,_⟩|hc,h2⟩
    ·subst hr;exact hK _ _ (wpList_nil h2)
    ·exact hK _ _ (gE rest _ _ hc h2)
  ·rename_i hwn
   rw[if_neg hwn]
   exact hK _ _ (gE rest _ _ hw h)
section
variable {P:Program} {id:Nat} {Q:Exit->Act->World->Prop} {a:Act} {l:List Oper} {u w0:World} {L:List Ow}
theorem Hq.sqG (H:Hq w0 L u) (gs:List Nat) (X:TypeId->Bool) (nl:Bool) (h:∀ S w,Nonempty (Wd S)->Hr S u gs w0 L w->bx X P l.toArray (fun w'=>∃ x:Wd S,w'=x.w) nl (fun a' w'=>Q .normal a' w') l a w) (hgs:∀ i,i∈gs->i<u.heap.size):(Code.region id l.toArray false).wp P Q a u:=by
 obtain⟨S,HS⟩:=clq u gs hgs;have hs:=HS.kp u Qb
 exact wp_region_list (by simpa using gE l a u ⟨⟨u,hs⟩,rfl⟩ (h S u ⟨⟨u,hs⟩⟩ ⟨H,HS,hs⟩))
theorem Hq.sq {gs:List Nat} (_:Tg gs) (H:Hq w0 L u) (h:∀ S w,Nonempty (Wd S)->Hr S u gs w0 L w->bx noX P l.toArray (fun w'=>∃ x:Wd S,w'=x.w) false (fun a' w'=>Q .normal a' w') l a w) (hgs:∀ i,i∈gs->i<u.heap.size:=by repeat (first|exact all_nil|refine all_cons (by have C:=H.C;simp only[aC0,aC1,aN0,aN1,fv,fz,FR,FU,DB,DA,cf0,cf1,Nat.zero_add,Nat.add_zero,Nat.reduceAdd,true_and,and_true,and_assoc] at C;omega) ?_)):(Code.region id l.toArray false).wp P Q a u:=H.sqG gs noX false h hgs
theorem Hq.sqZ {gs:List Nat} (_:Tg gs) (H:Hq w0 L u) (h:∀ S w,Nonempty (Wd S)->Hr S u gs w0 L w->bx noX P l.toArray (fun w'=>∃ x:Wd S,w'=x.w) true (fun a' w'=>Q .normal a' w') l a w) (hgs:∀ i,i∈gs->i<u.heap.size:=by repeat (first|exact all_nil|refine all_cons (by have C:=H.C;simp only[aC0,aC1,aN0,aN1,fv,fz,FR,FU,DB,DA,cf0,cf1,Nat.zero_add,Nat.add_zero,Nat.reduceAdd,true_and,and_true,and_assoc] at C;omega) ?_)):(Code.region id l.toArray false).wp P Q a u:=H.sqG gs noX true h hgs
end
section
variable {S:World->Prop} {u w0 w w':World} {gs:List Nat} {L M L0:List Ow} {g n q:Nat} {t:TypeId} {cs vs:List Value} {A:Option Addr} {xs:List Int} {G:Prop}
theorem Hr.store (Z:Hr S u gs w0 L w) (hB:Blk w' g t vs.toArray) (ho:aZ g w w') (k:UpB L g t cs vs M) (hn:g∉gs) (h:Hr S u gs w0 M w'->G):G:=h (Z.sa k hB ho hn)
theorem Hq.store (H:Hq w0 L w) (hB:Blk w' g t vs.toArray) (ho:aZ g w w') (k:UpB L g t cs vs M) (h:Hq w0 M w'->G):G:=h (H.sa k hB ho)
theorem Hq.nb (H:Hq w0 (qO n A q g xs::L) w) {h:Nat} (k:Has L (qB h t cs)):blk A≠some h:=fun e=>H.S.2.1 h e _ k.mem rfl
theorem Hq.nq {b n' q' g':Nat} {ys:List Int} (H:Hq w0 (qO n A q g xs::L) w) (k:Has L (qO b (some ⟨g',0,none⟩) n' q' ys)):blk A≠some g':=fun e=>H.S.2.1 g' e _ k.mem rfl
theorem dQ {x:Int} (h:Blk w g t #[.int .i64 x]):SI w (some ⟨g,0,none⟩) 1 [x]:=⟨rfl,fun _=>⟨g,0,rfl,h.lt,fun i hi=>by
 obtain rfl:i=0:=by omega
 exact h.cell 0⟩⟩
theorem Sp.apart:∀ {L:List Ow} {i j:Nat} {c d:Ow},Sp L w->nth L i=some c->nth L j=some d->i≠j->∀ g,c.F g->¬d.F g
 | c::L,0,j+1,_,_,s,h1,h2,_=>by injection h1 with h1;subst h1;exact fun g hg=>s.2.1 g hg _ (Has.nth (L:=L) (i:=j) h2).mem
 | c::L,i+1,0,_,_,s,h1,h2,_=>by injection h2 with h2;subst h2;exact fun g hg hd=>s.2.1 g hd _ (Has.nth (L:=L) (i:=i) h1).mem hg
 | _::L,i+1,j+1,_,_,s,h1,h2,hn=>Sp.apart (L:=L) (i:=i) (j:=j) s.2.2 h1 h2 (by omega)
theorem Hq.noo {c d:Ow} (i j:Nat) (H:Hq w0 L w) (g:Nat) (hc:c.F g) (hd:d.F g) (h1:nth L i=some c:=by rfl) (h2:nth L j=some d:=by rfl) (hn:i≠j:=by decide):False:=H.S.apart h1 h2 hn g hc hd
inductive Zs:List Ow->List Ow->Prop
 | z0 {L:List Ow}:Zs L L
 | s0 {c:Ow} {L M:List Ow}:c.Ty->Zs L M->Zs (c::L) M
theorem Hr.zn (E:Elq u w0 L0) (hb:Below w.heap.size w w') (hg:u.heap.size<=g) (hG:Blk w' g t cs.toArray) (ht:t≠3):∀ {L:List Ow},Zs L L0->Hr S u gs w0 L w->Hr S u gs w0 (qB g t cs::L) w'
 | _,.z0,Z=>Z.z E hb hg hG
 | _,.s0 hc k,Z=>Z.zc hb (Hr.zn E hb hg hG ht k (Z.re Hq.tl)) ht hc
end
theorem se {P:Program} {fn:Func} {p:Tmp} {ty t:TypeId} {d:TypeDesc} {g:Nat} {cs:Array Value} {tmps:Array Value} {w:World} (h:fn.results=#[.cell p ty]) (hp:tmps.getD p undef= .pointer (some ⟨g,0,none⟩)) (hb:Blk w g t cs)
  (hu:P.underlying ty=some d) (hd:d.isRow=true) (hi:(P.info? ty).map (·.size)=some cs.size):(results fn tmps).run P w= .ok (.agg cs) w:=by
 have hp':tmps[p]?.getD undef= .pointer (some ⟨g,0,none⟩):=by simpa using hp
 have hl:=run_loadVar_mid (P:=P) w g 0 ty cs.toList d hb.range hu hd (by rw[hi];simp)
 simp[results,h,hp',asAddr,hl]
theorem qt {P:Program} {fn:Func} {p q r:Tmp} {ty t:TypeId} {d:TypeDesc} {g:Nat} {cs:Array Value} {tmps:Array Value} {w:World} (h:fn.results=#[.cell p ty,.tmp q,.tmp r]) (hp:tmps.getD p undef= .pointer (some ⟨g,0,none⟩)) (hb:Blk w g t cs)
  (hu:P.underlying ty=some d) (hd:d.isRow=true) (hi:(P.info? ty).map (·.size)=some cs.size):(results fn tmps).run P w= .ok (.tuple #[.agg cs,tmps.getD q undef,tmps.getD r undef]) w:=by
 have hp':tmps[p]?.getD undef= .pointer (some ⟨g,0,none⟩):=by simpa using hp
 have hl:=run_loadVar_mid (P:=P) w g 0 ty cs.toList d hb.range hu hd (by rw[hi];simp)
 simp[results,h,hp',asAddr,hl]
structure KS where
 k:Act->World->Prop
theorem BC {o:Oper} {a:Act} {w:World} {R:Value->World->Prop} {ty t:TypeId} {x y:Operand} {g:Nat} {cs vs:Array Value} (ho:o.op= .store ty x y)
  (hx:a.eval x= .pointer (some ⟨g,0,none⟩)) (hy:a.eval y= .agg vs) (hb:Blk w g t cs) (hs:vs.size=cs.size) (hi:(prog.info? ty).map (·.size)=some vs.size) (h1:vs.all (·.oneCell')=true)
  (h:∀ w',Blk w' g t vs->aZ g w w'->R undef w'):Oper.gives prog o a w R:=by
 unfold Oper.gives execOp;simp only[ho,hx,hy,Instr.storeAt,Instr.sureAddr,Sem.run_bind,Sem.run_pure,Result.andThen_ok,run_storeVar_mid w g 0 ty vs (hs ▸ hb.there) hi h1]
 exact h _ (hb.xc hs) (aZ.setCells _ _ _ (aZ.refl _ _))
section
variable {X:TypeId->Bool} {P:Program} {ops:Array Oper} {C:World->Prop} {Q:Act->World->Prop} {w:World} {a:Act} {o:Oper} {nl:Bool} {rest:List Oper} {f d k base:Nat} {Z:Obj}
theorem lk' (h:bx X P ops C nl Q rest (a.put o.dst undef) w) (hw:Region.wanted o (yielded ops a.tmps)=false:=by rfl):bx X P ops C nl Q (o::rest) a w:=aG hw h
theorem lc' (h:∀ K:Act->Prop,(∀ a',bx X P ops C nl Q rest a' w->K a')->o.quiet P a C K) (hw:Region.wanted o (yielded ops a.tmps)=true:=by rfl) (hc:bK X o=true:=by rfl):bx X P ops C nl Q (o::rest) a w:=aF hw hc h
theorem lo' (h:∀ K:KS,(∀ a' w',C w'->bx X P ops C nl Q rest a' w'->K.k a' w')->Oper.gives P o a w (fun v w'=>K.k (a.put o.dst v) w')) (hw:Region.wanted o (yielded ops a.tmps)=true:=by rfl) (hc:bK X o=false:=by rfl):bx X P ops C nl Q (o::rest) a w:=bj hw hc fun K hK=>h ⟨K⟩ hK
theorem lG (h:a_ X P ops C nl Q f d Z base (k+1) rest (a.put o.dst undef) w) (hk:k≠f:=by decide) (hw:Region.wanted o (yielded ops a.tmps)=false:=by rfl):a_ X P ops C nl Q f d Z base k (o::rest) a w:=sL hk hw h
theorem oU (h:∀ w',Below w.heap.size w w'->∀ K:KS,(∀ a' w'',C w''->Below w'.heap.size w' w''->a_ X P ops C nl Q f d Z base (k+1) rest a' w''->K.k a' w'')->Oper.gives P o a w' (fun v w''=>K.k (a.put o.dst v) w'')) (hk:k≠f:=by decide) (hw:Region.wanted o (yielded ops a.tmps)=true:=by rfl) (hc:bK X o=false:=by rfl):a_ X P ops C nl Q f d Z base k (o::rest) a w:=sK hk hw hc fun w' hb K hK=>h w' hb ⟨K⟩ hK
theorem lE (h:∀ K:Act->Prop,(∀ a',a_ X P ops C nl Q f d Z base (k+1) rest a' w->K a')->o.quiet P a C K) (hk:k≠f:=by decide) (hw:Region.wanted o (yielded ops a.tmps)=true:=by rfl) (hc:bK X o=true:=by rfl):a_ X P ops C nl Q f d Z base k (o::rest) a w:=sJ hk hw hc h
end
section
variable {S:World->Prop} {u w0 w:World} {gs:List Nat} {L M:List Ow} {o:Oper} {a:Act} {R:Value->World->Prop} {ty t:TypeId} {x y:Operand} {g:Nat} {cs vs:List Value}
theorem Hr.gst (H:Hr S u gs w0 L w) (ho:o.op= .store ty x y) (hx:a.eval x= .pointer (some ⟨g,0,none⟩)) (hy:a.eval y= .agg vs.toArray) (k:UpB L g t cs vs M) (hs:vs.toArray.size=cs.toArray.size) (hi:(prog.info? ty).map (·.size)=some vs.toArray.size) (h1:vs.toArray.all (·.oneCell')=true) (hn:g∉gs)
  (h:∀ w',Hr S u gs w0 M w'->R undef w'):Oper.gives prog o a w R:=BC ho hx hy (Has.blk H.H k.has) hs hi h1 fun w' hB hO=>h w' (H.sa k hB hO hn)
theorem Hq.gst (H:Hq w0 L w) (ho:o.op= .store ty x y) (hx:a.eval x= .pointer (some ⟨g,0,none⟩)) (hy:a.eval y= .agg vs.toArray) (k:UpB L g t cs vs M) (hs:vs.toArray.size=cs.toArray.size) (hi:(prog.info? ty).map (·.size)=some vs.toArray.size) (h1:vs.toArray.all (·.oneCell')=true)
  (h:∀ w',Hq w0 M w'->R undef w'):Oper.gives prog o a w R:=BC ho hx hy (Has.blk H k.has) hs hi h1 fun w' hB hO=>h w' (H.sa k hB hO)
theorem Hq.lst {P:Program} {ops:Array Oper} {rest:List Oper} {Q:Exit->Act->World->Prop} (H:Hq w0 L w) (hgd:o.guard=none) (ho:o.op= .store ty x y) (hx:a.eval x= .pointer (some ⟨g,0,none⟩)) (hy:a.eval y= .agg vs.toArray) (k:UpB L g t cs vs M) (hs:vs.toArray.size=cs.toArray.size) (hi:(P.info? ty).map (·.size)=some vs.toArray.size) (h1:vs.toArray.all (·.oneCell')=true)
  (h:∀ w',Hq w0 M w'->wpList P ops Q rest (a.put o.dst undef) w'):wpList P ops Q (o::rest) a w:=lV hgd ho hx hy (Has.blk H k.has) hs hi h1 fun w' hB hO=>h w' (H.sa k hB hO)
end
section
variable {P:Program} {fn:Func} {R:Ending->World->Prop} {a:Act} {w0 w:World} {L:List Ow} {p q r:Tmp} {ty t:TypeId} {d:TypeDesc} {g:Nat} {cs:List Value}
theorem Hq.r1 (H:Hq w0 L w) (h:fn.results=#[.cell p ty]) (hp:a.tmps.getD p undef= .pointer (some ⟨g,0,none⟩)) (k:Has L (qB g t cs)) (hu:P.underlying ty=some d) (hd:d.isRow=true) (hi:(P.info? ty).map (·.size)=some cs.toArray.size) (hf:a.defers=[]) (hR:R (.returned (.agg cs.toArray)) w):bodyPost P fn R .ret a w :=
 bodyPost_ret (se h hp (Has.blk H k) hu hd hi) hf hR
theorem Hq.r2 (H:Hq w0 L w) (h:fn.results=#[.cell p ty,.tmp q]) (hp:a.tmps.getD p undef= .pointer (some ⟨g,0,none⟩)) (k:Has L (qB g t cs)) (hu:P.underlying ty=some d) (hd:d.isRow=true) (hi:(P.info? ty).map (·.size)=some cs.toArray.size) (hf:a.defers=[]) (hR:R (.returned (.tuple #[.agg cs.toArray,a.tmps.getD q undef])) w):bodyPost P fn R .ret a w :=
 bodyPost_ret (th h hp (Has.blk H k) hu hd hi) hf hR
theorem Hq.r3 (H:Hq w0 L w) (h:fn.results=#[.cell p ty,.tmp q,.tmp r]) (hp:a.tmps.getD p undef= .pointer (some ⟨g,0,none⟩)) (k:Has L (qB g t cs)) (hu:P.underlying ty=some d) (hd:d.isRow=true) (hi:(P.info? ty).map (·.size)=some cs.toArray.size) (hf:a.defers=[]) (hR:R (.returned (.tuple #[.agg cs.toArray,a.tmps.getD q undef,a.tmps.getD r undef])) w):bodyPost P fn R .ret a w :=
 bodyPost_ret (qt h hp (Has.blk H k) hu hd hi) hf hR
end
theorem hq {P:Prop} (h:P:=by
  repeat (with_reducible first|exact H|apply Hq.bs0|apply Hq.al|apply Hq.st|apply Hq.sk)
  all_goals (try first|(simp only[World.size_alloc,World.size_setCell,World.size_drew,Nat.add_assoc,Nat.reduceAdd];done)|(simp only[World.size_alloc,World.size_setCell,World.size_drew,Nat.add_assoc,Nat.reduceAdd];exact rfl)|exact rfl)
  all_goals (repeat (with_reducible first|exact gv.z0|apply gv.s0|apply Upd.h0|apply Upd.o0|apply Upd.t0))):P:=h
theorem zC {P Q:Prop} (k:Q) (h:Wr Q->P:=by
  intro q;intros;have C:=H.C;simp only[aC0,aC1,aN0,aN1,fv,fz,FR,FU,DB,DA,cf0,cf1,Nat.zero_add,Nat.add_zero,Nat.reduceAdd,true_and,and_true,and_assoc] at C
  repeat (revert ‹Act->World->Prop›;have zz:=q;clear zz)
  revert C
  exact q.o):P:=h ⟨k⟩
theorem zM {P Q:Prop} (k:Q) (h:Wr Q->P:=by
  intro q;intros
  (first|apply nqC|apply nqW|apply nqL|apply nqE|apply nqF)
  ·repeat (with_reducible first|exact H|apply Hq.bs0|apply Hq.al|apply Hq.st|apply Hq.sk)
   all_goals (try first|(simp only[World.size_alloc,World.size_setCell,World.size_drew,Nat.add_assoc,Nat.reduceAdd];done)|(simp only[World.size_alloc,World.size_setCell,World.size_drew,Nat.add_assoc,Nat.reduceAdd];exact rfl)|exact rfl)
   all_goals (repeat (with_reducible first|exact gv.z0|apply gv.s0|apply Upd.h0|apply Upd.o0|apply Upd.t0))
  intro u Hn
  (try clear H)
  repeat (revert ‹Act->World->Prop›;have zz:=q;clear zz)
  revert u Hn
  exact q.o):P:=h ⟨k⟩
theorem zN {P Q:Prop} (k:Q) (h:Wr Q->P:=by
  intro q;intros;have C:=H.C;simp only[aC0,aC1,aN0,aN1,fv,fz,FR,FU,DB,DA,cf0,cf1,Nat.zero_add,Nat.add_zero,Nat.reduceAdd,true_and,and_true,and_assoc] at C
  go_wp2_with fail
  (try simp only[Nat.add_assoc,Nat.reduceAdd])
  (first|apply nqC|apply nqW|apply nqL|apply nqE|apply nqF)
  ·repeat (with_reducible first|exact H|apply Hq.bs0|apply Hq.al|apply Hq.st|apply Hq.sk)
   all_goals (try first|(simp only[World.size_alloc,World.size_setCell,World.size_drew,Nat.add_assoc,Nat.reduceAdd];done)|(simp only[World.size_alloc,World.size_setCell,World.size_drew,Nat.add_assoc,Nat.reduceAdd];exact rfl)|exact rfl)
   all_goals (repeat (with_reducible first|exact gv.z0|apply gv.s0|apply Upd.h0|apply Upd.o0|apply Upd.t0))
  intro u Hn
  (try clear H)
  clear C
  repeat (revert ‹Act->World->Prop›;have zz:=q;clear zz)
  revert u Hn
  exact q.o):P:=h ⟨k⟩
theorem zE {P Q:Prop} (k:Q) (h:Wr Q->P:=by
  intro q;intros
  go_in
  have H:=Hq.start w
  go_wp2_with fail
  (try simp only[Nat.add_assoc,Nat.reduceAdd])
  (first|apply nqC|apply nqW|apply nqL|apply nqE|apply nqF)
  ·repeat (with_reducible first|exact H|apply Hq.bs0|apply Hq.al|apply Hq.st|apply Hq.sk)
   all_goals (try first|(simp only[World.size_alloc,World.size_setCell,World.size_drew,Nat.add_assoc,Nat.reduceAdd];done)|(simp only[World.size_alloc,World.size_setCell,World.size_drew,Nat.add_assoc,Nat.reduceAdd];exact rfl)|exact rfl)
   all_goals (repeat (with_reducible first|exact gv.z0|apply gv.s0|apply Upd.h0|apply Upd.o0|apply Upd.t0))
  intro u Hn
  (try clear H)
  repeat (revert ‹Act->World->Prop›;have zz:=q;clear zz)
  revert u Hn
  exact q.o):P:=h ⟨k⟩
theorem zP {P Q T0:Prop} (c:T0) (k:Q) (h:T0->Wr Q->P:=by
  intro c q;intros;refine c.mono ?_;clear c;rintro e w' ⟨rfl,rfl⟩;have C:=H.C;simp only[aC0,aC1,aN0,aN1,fv,fz,FR,FU,DB,DA,cf0,cf1,Nat.zero_add,Nat.add_zero,Nat.reduceAdd,true_and,and_true,and_assoc] at C
  go_wp2_with fail
  (try simp only[Nat.add_assoc,Nat.reduceAdd])
  (first|apply nqC|apply nqW|apply nqL|apply nqE|apply nqF)
  ·repeat (with_reducible first|exact H|apply Hq.bs0|apply Hq.al|apply Hq.st|apply Hq.sk)
   all_goals (try first|(simp only[World.size_alloc,World.size_setCell,World.size_drew,Nat.add_assoc,Nat.reduceAdd];done)|(simp only[World.size_alloc,World.size_setCell,World.size_drew,Nat.add_assoc,Nat.reduceAdd];exact rfl)|exact rfl)
   all_goals (repeat (with_reducible first|exact gv.z0|apply gv.s0|apply Upd.h0|apply Upd.o0|apply Upd.t0))
  intro u Hn
  (try clear H)
  clear C
  repeat (revert ‹Act->World->Prop›;have zz:=q;clear zz)
  revert u Hn
  exact q.o):P:=h c ⟨k⟩
theorem yP {P Q T0:Prop} (c:T0) (k:Q) (h:T0->Wr Q->P:=by
  intro c q;intros
  repeat (first|(refine lc' ?_;intro K hK;go_big_quiet_op;go_big_quiet_on)|refine lk' ?_)
  refine lo' fun K hK=>?_
  unfold Oper.gives
  go_simp
  refine Qc c ?_;refine lx' H hK ?_;clear hK K
  repeat (revert ‹Act->World->Prop›;have zz:=q;clear zz)
  exact q.o):P:=h c ⟨k⟩
theorem fP {P Q T0:Prop} (c:T0) (k:Q) (h:T0->Wr Q->P:=by
  intro c q;intros
  repeat (first|(refine lE ?_;intro K hK;go_big_quiet_op;go_big_quiet_on)|refine lG ?_)
  refine oU fun w1 hb K hK=>?_
  unfold Oper.gives
  go_simp
  refine(c w1 hb).mono ?_;replace H:=H.b hb;clear hb c;rintro e w' ⟨rfl,rfl⟩;refine xZ H Qb hK ?_;clear hK K
  repeat (revert ‹Act->World->Prop›;have zz:=q;clear zz)
  revert w1 H
  exact q.o):P:=h c ⟨k⟩
theorem zB {P Q T0:Prop} (c:T0) (k:Q) (h:T0->Wr Q->P:=by
  intro c q;intros;refine c.mono ?_;clear c;rintro e w' ⟨rfl,hb⟩;replace H:=H.b hb;clear hb;have C:=H.C;simp only[aC0,aC1,aN0,aN1,fv,fz,FR,FU,DB,DA,cf0,cf1,Nat.zero_add,Nat.add_zero,Nat.reduceAdd,true_and,and_true,and_assoc] at C
  go_wp2_with fail
  (try simp only[Nat.add_assoc,Nat.reduceAdd])
  (first|apply nqC|apply nqW|apply nqL|apply nqE|apply nqF)
  ·repeat (with_reducible first|exact H|apply Hq.bs0|apply Hq.al|apply Hq.st|apply Hq.sk)
   all_goals (try first|(simp only[World.size_alloc,World.size_setCell,World.size_drew,Nat.add_assoc,Nat.reduceAdd];done)|(simp only[World.size_alloc,World.size_setCell,World.size_drew,Nat.add_assoc,Nat.reduceAdd];exact rfl)|exact rfl)
   all_goals (repeat (with_reducible first|exact gv.z0|apply gv.s0|apply Upd.h0|apply Upd.o0|apply Upd.t0))
  intro u Hn
  (try clear H)
  clear C
  repeat (revert ‹Act->World->Prop›;have zz:=q;clear zz)
  revert w' u Hn
  exact q.o):P:=h c ⟨k⟩
theorem yB {P Q T0:Prop} (c:T0) (k:Q) (h:T0->Wr Q->P:=by
  intro c q;intros
  repeat (first|(refine lc' ?_;intro K hK;go_big_quiet_op;go_big_quiet_on)|refine lk' ?_)
  refine lo' fun K hK=>?_
  unfold Oper.gives
  go_simp
  refine c.mono ?_;rintro e w' ⟨rfl,hb⟩;replace H:=H.b hb;refine lx' H hK ?_;clear hK K;clear hb
  repeat (revert ‹Act->World->Prop›;have zz:=q;clear zz)
  revert w' H
  exact q.o):P:=h c ⟨k⟩
theorem fB {P Q T0:Prop} (c:T0) (k:Q) (h:T0->Wr Q->P:=by
  intro c q;intros
  repeat (first|(refine lE ?_;intro K hK;go_big_quiet_op;go_big_quiet_on)|refine lG ?_)
  refine oU fun w1 hb K hK=>?_
  unfold Oper.gives
  go_simp
  refine(c w1 hb).mono ?_;replace H:=H.b hb;clear hb c;rintro e w' ⟨rfl,hb⟩;replace H:=H.b hb;refine xZ H hb hK ?_;clear hK K;clear hb
  repeat (revert ‹Act->World->Prop›;have zz:=q;clear zz)
  revert w' H
  exact q.o):P:=h c ⟨k⟩
theorem zO {P Q T0:Prop} (c:T0) (k:Q) (h:T0->Wr Q->P:=by
  intro c q;intros;refine c.mono ?_;clear c;rintro e w' ⟨A,n,rfl,f,hb⟩;replace H:=H.os hb f;clear hb f;have C:=H.C;simp only[aC0,aC1,aN0,aN1,fv,fz,FR,FU,DB,DA,cf0,cf1,Nat.zero_add,Nat.add_zero,Nat.reduceAdd,true_and,and_true,and_assoc] at C
  go_wp2_with fail
  (try simp only[Nat.add_assoc,Nat.reduceAdd])
  (first|apply nqC|apply nqW|apply nqL|apply nqE|apply nqF)
  ·repeat (with_reducible first|exact H|apply Hq.bs0|apply Hq.al|apply Hq.st|apply Hq.sk)
   all_goals (try first|(simp only[World.size_alloc,World.size_setCell,World.size_drew,Nat.add_assoc,Nat.reduceAdd];done)|(simp only[World.size_alloc,World.size_setCell,World.size_drew,Nat.add_assoc,Nat.reduceAdd];exact rfl)|exact rfl)
   all_goals (repeat (with_reducible first|exact gv.z0|apply gv.s0|apply Upd.h0|apply Upd.o0|apply Upd.t0))
  intro u Hn
  (try clear H)
  clear C
  repeat (revert ‹Act->World->Prop›;have zz:=q;clear zz)
  revert A n w' u Hn
  exact q.o):P:=h c ⟨k⟩
theorem yO {P Q T0:Prop} (c:T0) (k:Q) (h:T0->Wr Q->P:=by
  intro c q;intros
  repeat (first|(refine lc' ?_;intro K hK;go_big_quiet_op;go_big_quiet_on)|refine lk' ?_)
  refine lo' fun K hK=>?_
  unfold Oper.gives
  go_simp
  refine c.mono ?_;rintro e w' ⟨A,n,rfl,f,hb⟩;replace H:=H.os hb f;refine lx' H hK ?_;clear hK K;clear hb f
  repeat (revert ‹Act->World->Prop›;have zz:=q;clear zz)
  revert A n w' H
  exact q.o):P:=h c ⟨k⟩
theorem fO {P Q T0:Prop} (c:T0) (k:Q) (h:T0->Wr Q->P:=by
  intro c q;intros
  repeat (first|(refine lE ?_;intro K hK;go_big_quiet_op;go_big_quiet_on)|refine lG ?_)
  refine oU fun w1 hb K hK=>?_
  unfold Oper.gives
  go_simp
  refine(c w1 hb).mono ?_;replace H:=H.b hb;clear hb c;rintro e w' ⟨A,n,rfl,f,hb⟩;replace H:=H.os hb f;refine xZ H hb hK ?_;clear hK K;clear hb f
  repeat (revert ‹Act->World->Prop›;have zz:=q;clear zz)
  revert A n w' H
  exact q.o):P:=h c ⟨k⟩
theorem zOO {P Q T0:Prop} (c:T0) (k:Q) (h:T0->Wr Q->P:=by
  intro c q;intros;refine c.mono ?_;clear c;rintro e w' ⟨A,n,B,m,rfl,f,k,hb⟩;replace H:=H.oo hb f k;clear hb f k;have C:=H.C;simp only[aC0,aC1,aN0,aN1,fv,fz,FR,FU,DB,DA,cf0,cf1,Nat.zero_add,Nat.add_zero,Nat.reduceAdd,true_and,and_true,and_assoc] at C
  go_wp2_with fail
  (try simp only[Nat.add_assoc,Nat.reduceAdd])
  (first|apply nqC|apply nqW|apply nqL|apply nqE|apply nqF)
  ·repeat (with_reducible first|exact H|apply Hq.bs0|apply Hq.al|apply Hq.st|apply Hq.sk)
   all_goals (try first|(simp only[World.size_alloc,World.size_setCell,World.size_drew,Nat.add_assoc,Nat.reduceAdd];done)|(simp only[World.size_alloc,World.size_setCell,World.size_drew,Nat.add_assoc,Nat.reduceAdd];exact rfl)|exact rfl)
   all_goals (repeat (with_reducible first|exact gv.z0|apply gv.s0|apply Upd.h0|apply Upd.o0|apply Upd.t0))
  intro u Hn
  (try clear H)
  clear C
  repeat (revert ‹Act->World->Prop›;have zz:=q;clear zz)
  revert A n B m w' u Hn
  exact q.o):P:=h c ⟨k⟩
theorem yS {P Q:Prop} (k:Q) (h:Wr Q->P:=by
  intro q;intros
  repeat (first|(refine lc' ?_;intro K hK;go_big_quiet_op;go_big_quiet_on)|refine lk' ?_)
  refine lo' fun K hK=>?_
  apply Hr.gst H
  ·exact rfl
  ·exact rfl
  ·exact rfl
  ·repeat (with_reducible first|exact UpB.h0|apply UpB.t0)
  ·rfl
  ·kernel_rfl
  ·simp[Value.oneCell']
  ·intro h;simp only[List.mem_cons,List.not_mem_nil,or_false] at h;have C:=H.H.C;simp only[aC0,aC1,aN0,aN1,fv,fz,FR,FU,DB,DA,cf0,cf1,Nat.zero_add,Nat.add_zero,Nat.reduceAdd,true_and,and_true,and_assoc] at C
   omega
  intro w' Hn
  (try clear H)
  go_simp
  refine ly' Hn hK ?_;clear hK K
  repeat (revert ‹Act->World->Prop›;have zz:=q;clear zz)
  revert w' Hn
  exact q.o):P:=h ⟨k⟩
theorem yZ {P Q:Prop} (k:Q) (h:Wr Q->P:=by
  intro q;intros
  repeat (first|(refine lc' ?_;intro K hK;go_big_quiet_op;go_big_quiet_on)|refine lk' ?_)
  refine aV rfl (by rfl) (by rfl) (fun K hK=>?_)
  replace H:=H.H;apply Hq.gst H
  ·exact rfl
  ·exact rfl
  ·exact rfl
  ·repeat (with_reducible first|exact UpB.h0|apply UpB.t0)
  ·rfl
  ·kernel_rfl
  ·simp[Value.oneCell']
  intro w' Hz
  (try clear H)
  rename Hq _ _ w'=>H
  go_simp
  refine hK _ _ ?_;clear hK K;refine aI ?_;have C:=H.C;simp only[aC0,aC1,aN0,aN1,fv,fz,FR,FU,DB,DA,cf0,cf1,Nat.zero_add,Nat.add_zero,Nat.reduceAdd,true_and,and_true,and_assoc] at C
  go_wp2_with fail
  (try simp only[Nat.add_assoc,Nat.reduceAdd])
  (first|apply nqC|apply nqW|apply nqL|apply nqE|apply nqF)
  ·repeat (with_reducible first|exact H|apply Hq.bs0|apply Hq.al|apply Hq.st|apply Hq.sk)
   all_goals (try first|(simp only[World.size_alloc,World.size_setCell,World.size_drew,Nat.add_assoc,Nat.reduceAdd];done)|(simp only[World.size_alloc,World.size_setCell,World.size_drew,Nat.add_assoc,Nat.reduceAdd];exact rfl)|exact rfl)
   all_goals (repeat (with_reducible first|exact gv.z0|apply gv.s0|apply Upd.h0|apply Upd.o0|apply Upd.t0))
  intro u Hn
  (try clear H)
  clear C
  repeat (revert ‹Act->World->Prop›;have zz:=q;clear zz)
  revert w' u Hn
  exact q.o):P:=h ⟨k⟩
theorem nY {P Q:Prop} (k:Q) (h:Wr Q->P:=by
  intro q;intros
  repeat (first|(refine lc' ?_;intro K hK;go_big_quiet_op;go_big_quiet_on)|refine lk' ?_)
  refine aV rfl (by rfl) (by rfl) (fun K hK=>?_)
  unfold Oper.gives
  go_simp
  refine hK _ _ ?_;clear hK K;replace H:=H.H;refine aI ?_
  (first|apply nqC|apply nqW|apply nqL|apply nqE|apply nqF)
  ·repeat (with_reducible first|exact H|apply Hq.bs0|apply Hq.al|apply Hq.st|apply Hq.sk)
   all_goals (try first|(simp only[World.size_alloc,World.size_setCell,World.size_drew,Nat.add_assoc,Nat.reduceAdd];done)|(simp only[World.size_alloc,World.size_setCell,World.size_drew,Nat.add_assoc,Nat.reduceAdd];exact rfl)|exact rfl)
   all_goals (repeat (with_reducible first|exact gv.z0|apply gv.s0|apply Upd.h0|apply Upd.o0|apply Upd.t0))
  intro u Hn
  (try clear H)
  repeat (revert ‹Act->World->Prop›;have zz:=q;clear zz)
  revert u Hn
  exact q.o):P:=h ⟨k⟩
theorem nZ {P Q:Prop} (k:Q) (h:Wr Q->P:=by
  intro q;intros
  repeat (first|(refine lc' ?_;intro K hK;go_big_quiet_op;go_big_quiet_on)|refine lk' ?_)
  refine aV rfl (by rfl) (by rfl) (fun K hK=>?_)
  replace H:=H.H;apply Hq.gst H
  ·exact rfl
  ·exact rfl
  ·exact rfl
  ·repeat (with_reducible first|exact UpB.h0|apply UpB.t0)
  ·rfl
  ·kernel_rfl
  ·simp[Value.oneCell']
  intro w' Hn
  (try clear H)
  go_simp
  refine hK _ _ ?_;clear hK K;refine aI ?_
  repeat (revert ‹Act->World->Prop›;have zz:=q;clear zz)
  revert w' Hn
  exact q.o):P:=h ⟨k⟩
theorem yL {P Q:Prop} (k:Q) (h:Wr Q->P:=by
  intro q;intros
  repeat (first|(refine lc' ?_;intro K hK;go_big_quiet_op;go_big_quiet_on)|refine lk' ?_)
  refine lo' fun K hK=>?_
  unfold Oper.gives
  go_simp
  refine ly' H hK ?_;clear hK K
  repeat (revert ‹Act->World->Prop›;have zz:=q;clear zz)
  exact q.o):P:=h ⟨k⟩
theorem yN {P Q:Prop} (k:Q) (h:Wr Q->P:=by
  intro q;intros
  repeat (first|(refine lc' ?_;intro K hK;go_big_quiet_op;go_big_quiet_on)|refine lk' ?_)
  refine aI ?_;replace H:=H.H;have C:=H.C;simp only[aC0,aC1,aN0,aN1,fv,fz,FR,FU,DB,DA,cf0,cf1,Nat.zero_add,Nat.add_zero,Nat.reduceAdd,true_and,and_true,and_assoc] at C
  go_wp2_with fail
  (try simp only[Nat.add_assoc,Nat.reduceAdd])
  (first|apply nqC|apply nqW|apply nqL|apply nqE|apply nqF)
  ·repeat (with_reducible first|exact H|apply Hq.bs0|apply Hq.al|apply Hq.st|apply Hq.sk)
   all_goals (try first|(simp only[World.size_alloc,World.size_setCell,World.size_drew,Nat.add_assoc,Nat.reduceAdd];done)|(simp only[World.size_alloc,World.size_setCell,World.size_drew,Nat.add_assoc,Nat.reduceAdd];exact rfl)|exact rfl)
   all_goals (repeat (with_reducible first|exact gv.z0|apply gv.s0|apply Upd.h0|apply Upd.o0|apply Upd.t0))
  intro u Hn
  (try clear H)
  clear C
  repeat (revert ‹Act->World->Prop›;have zz:=q;clear zz)
  revert u Hn
  exact q.o):P:=h ⟨k⟩
theorem yM {P Q:Prop} (k:Q) (h:Wr Q->P:=by
  intro q;intros
  repeat (first|(refine lc' ?_;intro K hK;go_big_quiet_op;go_big_quiet_on)|refine lk' ?_)
  refine lo' fun K hK=>?_
  unfold Oper.gives
  go_simp
  refine lz' (Hr.al H) hK ?_;clear hK K;intro w' H
  repeat (revert ‹Act->World->Prop›;have zz:=q;clear zz)
  revert w' H
  exact q.o):P:=h ⟨k⟩
theorem fM {P Q:Prop} (k:Q) (h:Wr Q->P:=by
  intro q;intros
  repeat (first|(refine lE ?_;intro K hK;go_big_quiet_op;go_big_quiet_on)|refine lG ?_)
  refine oU fun w1 hb K hK=>?_
  unfold Oper.gives
  go_simp
  refine BN (Hr.al (H.b hb)) (Qb.alloc Ql _) hK ?_;clear hK K hb;intro w' Hn
  repeat (revert ‹Act->World->Prop›;have zz:=q;clear zz)
  revert w1 w' Hn
  exact q.o):P:=h ⟨k⟩
theorem zRe {P Q:Prop} (k:Q) (h:Wr Q->P:=by
  intro q;intros;have C:=H.C;simp only[aC0,aC1,aN0,aN1,fv,fz,FR,FU,DB,DA,cf0,cf1,Nat.zero_add,Nat.add_zero,Nat.reduceAdd,true_and,and_true,and_assoc] at C;go_wp2
  (try simp only[Exit.inBlock,Exit.then])
  apply nqE
  ·repeat (with_reducible first|exact H|apply Hq.bs0|apply Hq.al|apply Hq.st|apply Hq.sk)
   all_goals (try first|(simp only[World.size_alloc,World.size_setCell,World.size_drew,Nat.add_assoc,Nat.reduceAdd];done)|(simp only[World.size_alloc,World.size_setCell,World.size_drew,Nat.add_assoc,Nat.reduceAdd];exact rfl)|exact rfl)
   all_goals (repeat (with_reducible first|exact gv.z0|apply gv.s0|apply Upd.h0|apply Upd.o0|apply Upd.t0))
  intro u Hn
  (try clear H)
  clear C
  revert u Hn
  exact q.o):P:=h ⟨k⟩
theorem yE {P Q:Prop} (k:Q) (h:Wr Q->P:=by
  intro q;intros
  repeat (first|(refine lc' ?_;intro K hK;go_big_quiet_op;go_big_quiet_on)|refine lk' ?_)
  refine lo' fun K hK=>?_
  unfold Oper.gives
  go_simp
  refine lz' (Hr.bs H _) hK ?_;clear hK K;intro w' H
  repeat (revert ‹Act->World->Prop›;have zz:=q;clear zz)
  revert w' H
  exact q.o):P:=h ⟨k⟩
theorem yG {P Q:Prop} (k:Q) (h:Wr Q->P:=by
  intro q;intros
  repeat (first|(refine lE ?_;intro K hK;go_big_quiet_op;go_big_quiet_on)|refine lG ?_)
  refine kZ (by decide) ?_
  intro w' g hb hg hG hC K hK;replace H:=Hr.zn E hb hg hG (by decide) (by repeat (first|exact Zs.z0|refine Zs.s0 (by first|exact qtO|exact qtA qtO qtO|exact qtA (qtA qtO qtO) qtO|exact qtA (qtA qtO qtO) (qtA qtO qtO)) ?_)) H
  go_simp
  refine hK _ ?_;clear hK K hb hG hC
  repeat (revert ‹Act->World->Prop›;have zz:=q;clear zz)
  revert w' g hg H
  exact q.o):P:=h ⟨k⟩
theorem yA {P Q T0 T1:Prop} (c:T0) (hm:T1) (k:Q) (h:T0->T1->Wr Q->P:=by
  intro c hm q;intros
  repeat (first|(refine lc' ?_;intro K hK;go_big_quiet_op;go_big_quiet_on)|refine lk' ?_)
  refine lo' fun K hK=>?_
  refine j8 _ _ rfl rfl rfl (H.o 0) c (by omega) (by omega) H.H.m ?_
  intro A n w' hO ho hc
  (try rw[Nat.zero_add,List.nil_append] at hO)
  go_simp
  replace H:=H.ap hO ho hc (by repeat (first|exact all_nil|refine all_cons (by first|assumption|exact Hq.nb H.H (by repeat (with_reducible first|exact Has.h0|apply Has.t0))|exact Hq.nq H.H (by repeat (with_reducible first|exact Has.h0|apply Has.t0))) ?_))
  refine ly' H hK ?_;clear hK K hO ho hc
  repeat (revert ‹Act->World->Prop›;have zz:=q;clear zz)
  revert A n w' H
  exact q.o):P:=h c hm ⟨k⟩
theorem zR {P Q:Prop} (k:Q) (h:Wr Q->P:=by
  intro q;intros;have C:=H.C;simp only[aC0,aC1,aN0,aN1,fv,fz,FR,FU,DB,DA,cf0,cf1,Nat.zero_add,Nat.add_zero,Nat.reduceAdd,true_and,and_true,and_assoc] at C;go_wp2
  (try simp only[Exit.inBlock,Exit.then])
  apply nqE
  ·repeat (with_reducible first|exact H|apply Hq.bs0|apply Hq.al|apply Hq.st|apply Hq.sk)
   all_goals (try first|(simp only[World.size_alloc,World.size_setCell,World.size_drew,Nat.add_assoc,Nat.reduceAdd];done)|(simp only[World.size_alloc,World.size_setCell,World.size_drew,Nat.add_assoc,Nat.reduceAdd];exact rfl)|exact rfl)
   all_goals (repeat (with_reducible first|exact gv.z0|apply gv.s0|apply Upd.h0|apply Upd.o0|apply Upd.t0))
  intro u Hn
  (try clear H)
  clear C
  (first|refine bodyPost_ret (results_tmp rfl _ _ _) rfl ?_|refine bodyPost_ret (results_tmp2 rfl _ _ _) rfl ?_)
  revert u Hn
  exact q.o):P:=h ⟨k⟩
theorem zD {P Q T0:Prop} (c:T0) (k:Q) (h:T0->Wr Q->P:=by
  intro c q;intros;simp only[cq0,cq1,ce0,ce1,Nat.zero_add,Nat.reduceAdd,and_true,and_assoc] at c
  repeat (revert ‹Act->World->Prop›;have zz:=q;clear zz)
  revert c
  exact q.o):P:=h c ⟨k⟩
theorem zCr {P Q:Prop} (k:Q) (h:Wr Q->P:=by
  intro q;intros;have C:=H.H.C;simp only[aC0,aC1,aN0,aN1,fv,fz,FR,FU,DB,DA,cf0,cf1,Nat.zero_add,Nat.add_zero,Nat.reduceAdd,true_and,and_true,and_assoc] at C
  repeat (revert ‹Act->World->Prop›;have zz:=q;clear zz)
  revert C
  exact q.o):P:=h ⟨k⟩
theorem zSt {P Q:Prop} (k:Q) (h:Wr Q->P:=by
  intro q;intros;apply Hq.lst H
  ·exact rfl
  ·exact rfl
  ·exact rfl
  ·exact rfl
  ·repeat (with_reducible first|exact UpB.h0|apply UpB.t0)
  ·rfl
  ·kernel_rfl
  ·simp[Value.oneCell']
  intro w' Hn
  (try clear H)
  repeat (revert ‹Act->World->Prop›;have zz:=q;clear zz)
  revert w' Hn
  exact q.o):P:=h ⟨k⟩
theorem zA {P Q T0 T1:Prop} (c:T0) (hm:T1) (k:Q) (h:T0->T1->Wr Q->P:=by
  intro c hm q;intros;refine fH rfl _ _ rfl rfl rfl (H.o 0) c (by omega) (by omega) H.m ?_
  intro A n w' hO ho hc
  (try rw[Nat.zero_add,List.nil_append] at hO)
  replace H:=H.ap hO ho hc;clear hO ho hc
  repeat (revert ‹Act->World->Prop›;have zz:=q;clear zz)
  revert A n w' H
  exact q.o):P:=h c hm ⟨k⟩
theorem zS_ {P Q:Prop} (k:Q) (h:Wr Q->P:=by
  intro q;intros;have C:=H.C;simp only[aC0,aC1,aN0,aN1,fv,fz,FR,FU,DB,DA,cf0,cf1,Nat.zero_add,Nat.add_zero,Nat.reduceAdd,true_and,and_true,and_assoc] at C;go_wp2
  (try simp only[Exit.inBlock,Exit.then])
  apply nqE
  ·repeat (with_reducible first|exact H|apply Hq.bs0|apply Hq.al|apply Hq.st|apply Hq.sk)
   all_goals (try first|(simp only[World.size_alloc,World.size_setCell,World.size_drew,Nat.add_assoc,Nat.reduceAdd];done)|(simp only[World.size_alloc,World.size_setCell,World.size_drew,Nat.add_assoc,Nat.reduceAdd];exact rfl)|exact rfl)
   all_goals (repeat (with_reducible first|exact gv.z0|apply gv.s0|apply Upd.h0|apply Upd.o0|apply Upd.t0))
  intro u Hn
  (try clear H)
  clear C
  (first|apply Hq.r1 Hn (by exact rfl)|apply Hq.r2 Hn (by exact rfl)|apply Hq.r3 Hn (by exact rfl))
  ·exact rfl
  ·repeat (with_reducible first|exact Has.h0|apply Has.t0)
  ·first|with_reducible exact underlying37|with_reducible exact underlying82|with_reducible exact underlying244|with_reducible exact underlying92|with_reducible exact underlying25|with_reducible exact underlying213|with_reducible exact underlying255|with_reducible exact underlying215|with_reducible exact underlying80|with_reducible exact underlying99
  ·rfl
  ·kernel_rfl
  ·rfl
  revert u Hn
  exact q.o):P:=h ⟨k⟩
theorem zX {P Q T0:Prop} (c:T0) (k:Q) (h:T0->Wr Q->P:=by
  intro c q;intros;refine Hq.lx c H ?_;intro S w' hne H
  repeat (revert ‹Act->World->Prop›;have zz:=q;clear zz)
  revert S w' hne H
  exact q.o):P:=h c ⟨k⟩
theorem zXZ {P Q T0:Prop} (c:T0) (k:Q) (h:T0->Wr Q->P:=by
  intro c q;intros;refine Hq.lxZ c H ?_;intro S w' hne H
  repeat (revert ‹Act->World->Prop›;have zz:=q;clear zz)
  revert S w' hne H
  exact q.o):P:=h c ⟨k⟩
theorem zU {P Q T0:Prop} (c:T0) (k:Q) (h:T0->Wr Q->P:=by
  intro c q;intros;refine Hq.sq c H ?_;intro S w' hne H
  repeat (revert ‹Act->World->Prop›;have zz:=q;clear zz)
  revert S w' hne H
  exact q.o):P:=h c ⟨k⟩
theorem zUZ {P Q T0:Prop} (c:T0) (k:Q) (h:T0->Wr Q->P:=by
  intro c q;intros;refine Hq.sqZ c H ?_;intro S w' hne H
  repeat (revert ‹Act->World->Prop›;have zz:=q;clear zz)
  revert S w' hne H
  exact q.o):P:=h c ⟨k⟩
theorem zXF {P Q T0:Prop} (c:T0) (k:Q) (h:T0->Wr Q->P:=by
  intro c q;intros;refine Hq.lF c H ?_;intro S w' hne H
  repeat (revert ‹Act->World->Prop›;have zz:=q;clear zz)
  revert S w' hne H
  exact q.o):P:=h c ⟨k⟩
abbrev Bw (w w':World):Prop:=Below w.heap.size w w'
theorem y_ {P Q T0:Prop} (c:T0) (k:Q) (h:T0->Wr Q->P:=by
  intro c q;intros
  repeat (first|(refine lc' ?_;intro K hK;go_big_quiet_op;go_big_quiet_on)|refine lk' ?_)
  refine lo' fun K hK=>?_
  unfold Oper.gives
  go_simp
  refine c.mono ?_;clear c;intro e w' hp
  revert K hK e w' hp
  exact q.o):P:=h c ⟨k⟩
theorem yK {P Q:Prop} (k:Q) (h:Wr Q->P:=by
  intro q;intros;refine lx' H hK ?_
  repeat (revert ‹Act->World->Prop›;have zz:=q;clear zz)
  exact q.o):P:=h ⟨k⟩
theorem f_ {P Q T0:Prop} (c:T0) (k:Q) (h:T0->Wr Q->P:=by
  intro c q;intros
  repeat (first|(refine lE ?_;intro K hK;go_big_quiet_op;go_big_quiet_on)|refine lG ?_)
  refine oU fun w1 hb K hK=>?_
  unfold Oper.gives
  go_simp
  refine(c w1 hb).mono ?_;replace H:=H.b hb;clear hb c;intro e w' hp
  revert w1 H K hK e w' hp
  exact q.o):P:=h c ⟨k⟩
theorem fK {P Q:Prop} (k:Q) (h:Wr Q->P:=by
  intro q;intros;refine xZ H hb hK ?_
  repeat (revert ‹Act->World->Prop›;have zz:=q;clear zz)
  exact q.o):P:=h ⟨k⟩
theorem zG {P Q T0:Prop} (c:T0) (k:Q) (h:T0->Wr Q->P:=by
  intro c q;intros;refine c.mono ?_;clear c;intro e w' hp
  repeat (revert ‹Act->World->Prop›;have zz:=q;clear zz)
  revert e w' hp
  exact q.o):P:=h c ⟨k⟩
end
end Go.Proofs.YtjciicheoghcdaaGreatDoor

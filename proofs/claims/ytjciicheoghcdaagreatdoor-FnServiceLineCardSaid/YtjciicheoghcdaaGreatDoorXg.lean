/- Part of the proof that the law FnServiceLine of the given program returns true for every input. -/
import Derived.Test.YtjciicheoghcdaaGreatDoorXe
import Derived.Test.YtjciicheoghcdaaGreatDoorXf
namespace Go.Proofs.YtjciicheoghcdaaGreatDoor
open Go.RowKit
set_option linter.unusedSimpArgs false
set_option linter.unusedVariables false
set_option maxRecDepth 20000
set_option maxHeartbeats 16000000
section
structure Elt (α:Type) where
 s:Nat
 P:World->List Value->α->List Nat->Prop
 len:∀ w cs x F,P w cs x F->cs.length=s
 au:∀ w w' cs x F,P w cs x F->(∀ g,g∈F->w'.heap[g]?=w.heap[g]?)->P w' cs x F
 lt:∀ w cs x F,P w cs x F->∀ g,g∈F->g<w.heap.size
theorem nQ {w w':World} {g:Nat} (hl:g<w.heap.size) (h:w'.heap[g]?=w.heap[g]?):g<w'.heap.size:=by
 rw [Array.getElem?_eq_getElem hl] at h;rcases Nat.lt_or_ge g w'.heap.size with hlt | hge
 ·exact hlt
 ·rw [Array.getElem?_eq_none hge] at h;cases h
def dJ {α:Type} (E:Elt α) (w:World):List (List Value)->List α->List Nat->Prop
 | [],[],F=>F=[]
 | cs::css,x::xs,F=>∃ F1 F2,F=F1++F2/\E.P w cs x F1/\dJ E w css xs F2
 | [],_::_,_=>False
 | _::_,[],_=>False
section
variable {α:Type} {E:Elt α} {w w':World}
theorem dJ.length:∀ {css:List (List Value)} {xs:List α} {F:List Nat},dJ E w css xs F->css.length=xs.length
 | [],[],_,_=>rfl
 | _::_,_::_,_,⟨_,_,_,_,h⟩=>by simp [dJ.length h]
theorem dJ.au:∀ {css:List (List Value)} {xs:List α} {F:List Nat},dJ E w css xs F->(∀ g,g∈F->w'.heap[g]?=w.heap[g]?)->dJ E w' css xs F
 | [],[],_,h,_=>h
 | _::_,_::_,_,⟨F1,F2,e,h1,h2⟩,hk=>⟨F1,F2,e,E.au _ _ _ _ _ h1 (fun g hg=>hk g (by rw [e];exact List.mem_append_left _ hg)),h2.au (fun g hg=>hk g (by rw [e];exact List.mem_append_right _ hg))⟩
theorem dJ.lt:∀ {css:List (List Value)} {xs:List α} {F:List Nat},dJ E w css xs F->∀ g,g∈F->g<w.heap.size
 | [],[],F,h,g,hg=>by
  have h':F=[]:=h;rw [h'] at hg;cases hg
 | _::_,_::_,_,⟨F1,F2,e,h1,h2⟩,g,hg=>by
  rw [e] at hg;rcases List.mem_append.1 hg with h | h
  ·exact E.lt _ _ _ _ h1 g h
  ·exact h2.lt g h
theorem dJ.push:∀ {css:List (List Value)} {xs:List α} {F F1:List Nat} {cs:List Value} {x:α},dJ E w css xs F->E.P w cs x F1->dJ E w (css++[cs]) (xs++[x]) (F++F1)
 | [],[],F,F1,_,_,h,h1=>by
  have h':F=[]:=h
  exact ⟨F1,[],by simp [h'],h1,rfl⟩
 | _::_,_::_,_,F1,_,_,⟨Fa,Fb,e,ha,hb⟩,h1=>⟨Fa,Fb++F1,by rw [e,List.append_assoc],ha,hb.push h1⟩
theorem dJ.at:∀ {css:List (List Value)} {xs:List α} {F:List Nat},dJ E w css xs F->∀ (i:Nat) (x:α),xs[i]?=some x->∃ cs F',css[i]?=some cs/\(∀ g,g∈F'->g∈F)/\E.P w cs x F'
 | [],[],_,_,i,x,hx=>by cases hx
 | cs::_,y::_,_,⟨F1,F2,e,h1,h2⟩,0,x,hx=>by
  have:y=x:=by simpa using hx
  subst this
  exact ⟨cs,F1,rfl,fun g hg=>by rw [e];exact List.mem_append_left _ hg,h1⟩
 | _::_,_::_,_,⟨F1,F2,e,h1,h2⟩,i+1,x,hx=>by
  obtain ⟨cs,F',e1,e2,e3⟩:=h2.at i x (by simpa using hx)
  exact ⟨cs,F',by simpa using e1,fun g hg=>by rw [e];exact List.mem_append_right _ (e2 g hg),e3⟩
theorem dJ.lens:∀ {css:List (List Value)} {xs:List α} {F:List Nat},dJ E w css xs F->∀ cs,cs∈css->cs.length=E.s
 | [],[],_,_,cs,h=>by cases h
 | c::_,_::_,_,⟨_,_,_,h1,h2⟩,cs,h=>by
  rcases List.mem_cons.1 h with rfl | h
  ·exact E.len _ _ _ _ h1
  ·exact h2.lens cs h
end
theorem iG {s:Nat}:∀ {css:List (List Value)} {rest:List Value} (h:∀ cs,cs∈css->cs.length=s) (i:Nat) (cs:List Value),css[i]?=some cs->∀ j,j<s->(css.flatten++rest)[i*s+j]?=cs[j]?
 | [],_,_,i,cs,hi,_,_=>by cases hi
 | c::css,rest,h,0,cs,hi,j,hj=>by
  have e:c=cs:=by simpa using hi
  subst e;have hl:=h c (List.mem_cons_self ..);rw [List.flatten_cons,List.append_assoc,Nat.zero_mul,Nat.zero_add,List.getElem?_append_left (by omega)]
 | c::css,rest,h,i+1,cs,hi,j,hj=>by
  have hl:=h c (List.mem_cons_self ..);have ih:=iG (rest:=rest) (css:=css) (fun x hx=>h x (List.mem_cons_of_mem _ hx)) i cs (by simpa using hi) j hj
  rw [List.flatten_cons,List.append_assoc,List.getElem?_append_right (by rw [hl,Nat.succ_mul];omega),hl,<- ih]
  congr 1
  rw [Nat.succ_mul];omega
def RI {α:Type} (E:Elt α) (w:World) (A:Option Addr) (n cap:Nat) (xs:List α) (F:List Nat):Prop :=
 xs.length=n/\n<=cap/\cap<=maxLen/\((n=0/\F=[])\/∃ b off css F',A=some ⟨b,off,none⟩/\b<w.heap.size/\F=b::F'/\dJ E w css xs F'/\∀ i cs,css[i]?=some cs->∀ j,j<E.s->w.cell? ⟨b,off+(i*E.s+j),none⟩=cs[j]?)
section
variable {α:Type} {E:Elt α} {w w':World} {A:Option Addr} {n cap:Nat} {xs:List α} {F:List Nat}
theorem RI.len (h:RI E w A n cap xs F):xs.length=n:=h.1
theorem RI.au (h:RI E w A n cap xs F) (hk:∀ g,g∈F->w'.heap[g]?=w.heap[g]?):RI E w' A n cap xs F:=by
 obtain ⟨h1,h2,h3,h4⟩:=h;refine ⟨h1,h2,h3,?_⟩;rcases h4 with h4 | ⟨b,off,css,F',e,hb,rfl,he,hc⟩
 ·exact .inl h4
 ·have hkb:=hk b (List.mem_cons_self ..)
  exact .inr ⟨b,off,css,F',e,nQ hb hkb,rfl,he.au (fun g hg=>hk g (List.mem_cons_of_mem _ hg)),fun i cs hi j hj=>(World.cell?_of_block (w:=w) hkb).trans (hc i cs hi j hj)⟩
theorem RI.lt (h:RI E w A n cap xs F):∀ g,g∈F->g<w.heap.size:=by
 obtain ⟨h1,h2,h3,h4⟩:=h;rcases h4 with ⟨_,rfl⟩ | ⟨b,off,css,F',e,hb,rfl,he,hc⟩
 ·intro g hg;cases hg
 ·intro g hg;rcases List.mem_cons.1 hg with rfl | hg
  ·exact hb
  ·exact he.lt g hg
theorem RI.below (h:RI E w A n cap xs F) (hb:Below w.heap.size w w'):RI E w' A n cap xs F:=h.au fun g hg=>hb.block g (h.lt g hg)
theorem RI.alloc (h:RI E w A n cap xs F) (o:Obj):RI E (w.alloc o) A n cap xs F:=h.au fun g hg=>Below.heap_alloc w o g (h.lt g hg)
theorem RI.nil (w:World) (A:Option Addr) {cap:Nat} (hc:cap<=maxLen):RI E w A 0 cap [] []:=⟨rfl,Nat.zero_le _,hc,.inl ⟨rfl,rfl⟩⟩
theorem RI.at (h:RI E w A n cap xs F) {i:Nat} {x:α} (hx:xs[i]?=some x):∃ b off cs F',A=some ⟨b,off,none⟩/\b<w.heap.size/\(∀ j,j<E.s->w.cell? ⟨b,off+(i*E.s+j),none⟩=cs[j]?)/\(∀ g,g∈F'->g∈F)/\E.P w cs x F':=by
 obtain ⟨h1,h2,h3,h4⟩:=h;rcases h4 with ⟨h0,_⟩ | ⟨b,off,css,F',e,hb,rfl,he,hc⟩
 ·have:xs=[]:=List.eq_nil_of_length_eq_zero (by omega)
  rw [this] at hx;cases hx
 ·obtain ⟨cs,F1,e1,e2,e3⟩:=he.at i x hx
  exact ⟨b,off,cs,F1,e,hb,fun j hj=>hc i cs e1 j hj,fun g hg=>List.mem_cons_of_mem _ (e2 g hg),e3⟩
end
def Fr (w:World) (base:Nat) (F:List Nat):Prop:=F.Nodup/\∀ g,g∈F->base<=g/\∃ t cs,Blk w g t cs/\t≠25
section
variable {w w':World} {base base':Nat} {F G:List Nat}
theorem Fr.nil (w:World) (base:Nat):Fr w base []:=⟨List.nodup_nil,fun g hg=>by cases hg⟩
theorem Fr.au (h:Fr w base F) (hk:∀ g,g∈F->w'.heap[g]?=w.heap[g]?):Fr w' base F:=⟨h.1,fun g hg=>by
 obtain ⟨h1,t,cs,h2,h3⟩:=h.2 g hg
 exact ⟨h1,t,cs,(hk g hg).trans h2,h3⟩⟩
theorem Fr.lt (h:Fr w base F):∀ g,g∈F->g<w.heap.size:=fun g hg=>by obtain ⟨_,t,cs,h2,_⟩:=h.2 g hg;exact h2.lt
theorem Fr.below (h:Fr w base F) (hb:Below w.heap.size w w'):Fr w' base F:=h.au fun g hg=>hb.block g (h.lt g hg)
theorem Fr.mono (h:Fr w base F) (hb:base'<=base):Fr w base' F:=⟨h.1,fun g hg=>by obtain ⟨h1,h2⟩:=h.2 g hg;exact ⟨Nat.le_trans hb h1,h2⟩⟩
theorem Fr.app (h:Fr w base F) (k:Fr w base G) (hd:∀ g,g∈F->g∈G->False):Fr w base (F++G) :=
 ⟨List.nodup_append.2 ⟨h.1,k.1,fun a ha b hb e=>hd a ha (e ▸ hb)⟩,fun g hg=>(List.mem_append.1 hg).elim (h.2 g) (k.2 g)⟩
theorem Fr.one {g:Nat} {t:TypeId} {cs:Array Value} (h:Blk w g t cs) (hb:base<=g) (ht:t≠25:=by decide):Fr w base [g] :=
 ⟨List.nodup_cons.2 ⟨fun h=>(by cases h),List.nodup_nil⟩,fun x hx=>by
  have:x=g:=by simpa using hx
  subst this
  exact ⟨hb,t,cs,h,ht⟩⟩
theorem Fr.cons {g:Nat} {t:TypeId} {cs:Array Value} (h:Blk w g t cs) (hb:base<=g) (k:Fr w base F) (hn:g∉F) (ht:t≠25:=by decide):Fr w base (g::F):=by
 have:=(Fr.one h hb ht).app k (fun x hx hF=>hn (by have e:x=g:=(by simpa using hx);rw [<- e];exact hF))
 simpa using this
end
def fpI (A:Option Addr) (n:Nat):List Nat:=if n=0 then [] else (blk A).toList
theorem bz {A:Option Addr} {n g:Nat} (h:g∈fpI A n):0<n/\blk A=some g:=by
 unfold fpI at h
 split at h
 ·cases h
 ·exact ⟨by omega,by simpa using h⟩
theorem uw {w w':World} {A:Option Addr} {n:Nat} {v:List Int} (h:SI w A n v) (hk:∀ g,g∈fpI A n->w'.heap[g]?=w.heap[g]?):SI w' A n v :=
 ⟨h.1,fun hn=>by
  obtain ⟨b,off,rfl,hb,hc⟩:=h.2 hn;have hk':=hk b (by unfold fpI;rw [if_neg (by omega)];simp [blk])
  exact ⟨b,off,rfl,nQ hb hk',fun i hi=>(World.cell?_of_block (w:=w) hk').trans (hc i hi)⟩⟩
theorem Cb {w:World} {A:Option Addr} {n:Nat} {v:List Int} (h:SI w A n v):∀ g,g∈fpI A n->g<w.heap.size:=fun g hg=>by
 obtain ⟨hn,hb⟩:=bz hg
 exact h.aj hn g hb
theorem ek {w:World} {base n c:Nat} {A:Option Addr} {v:List Int} (h:OS w base A n c v):Fr w base (fpI A n):=by
 unfold fpI
 split
 ·exact Fr.nil w base
 ·rcases h.2 with ⟨e,e'⟩ | ⟨g,c',cur,e,hb,hh,_⟩
  ·omega
  ·injection e with e1;subst e1
   exact Fr.one (g:=g) hh hb
def MF (w:World) (A:Option Addr) (c:Nat) (m:Mx) (F:List Nat):Prop:=SI w A m.v.length m.v/\m.v.length<=c/\c<=maxLen/\F=fpI A m.v.length
theorem MF.au {w w':World} {A:Option Addr} {c:Nat} {m:Mx} {F:List Nat} (h:MF w A c m F) (hk:∀ g,g∈F->w'.heap[g]?=w.heap[g]?):MF w' A c m F:=by
 obtain ⟨h1,h2,h3,rfl⟩:=h
 exact ⟨uw h1 hk,h2,h3,rfl⟩
theorem MF.lt {w:World} {A:Option Addr} {c:Nat} {m:Mx} {F:List Nat} (h:MF w A c m F):∀ g,g∈F->g<w.heap.size:=by
 obtain ⟨h1,h2,h3,rfl⟩:=h
 exact Cb h1
theorem MF.aB {w:World} {base c:Nat} {A:Option Addr} {m:Mx} (h:OS w base A m.v.length c m.v):MF w A c m (fpI A m.v.length):=⟨h.si,h.dC.1,h.dC.2,rfl⟩
def mxE:Elt Mx where
 s:=3
 P:=fun w cs m F=>∃ A c,cs=[.int .i64 m.r,.int .i64 m.c,.slice A m.v.length c]/\MF w A c m F
 len:=by rintro w cs x F ⟨A,c,rfl,_⟩;rfl
 au:=by rintro w w' cs x F ⟨A,c,rfl,h⟩ hk;exact ⟨A,c,rfl,h.au hk⟩
 lt:=by rintro w cs x F ⟨A,c,rfl,h⟩;exact h.lt
def smE:Elt (Mx×Mx) where
 s:=6
 P:=fun w cs p F=>∃ A c B d F1 F2,cs=[.int .i64 p.1.r,.int .i64 p.1.c,.slice A p.1.v.length c,.int .i64 p.2.r,.int .i64 p.2.c,.slice B p.2.v.length d]/\MF w A c p.1 F1/\MF w B d p.2 F2/\F=F1++F2
 len:=by rintro w cs x F ⟨A,c,B,d,F1,F2,rfl,_⟩;rfl
 au:=by
  rintro w w' cs x F ⟨A,c,B,d,F1,F2,rfl,h1,h2,rfl⟩ hk
  exact ⟨A,c,B,d,F1,F2,rfl,h1.au (fun g hg=>hk g (List.mem_append_left _ hg)),h2.au (fun g hg=>hk g (List.mem_append_right _ hg)),rfl⟩
 lt:=by
  rintro w cs x F ⟨A,c,B,d,F1,F2,rfl,h1,h2,rfl⟩ g hg
  exact (List.mem_append.1 hg).elim (h1.lt g) (h2.lt g)
def kE {α:Type} (E:Elt α):Elt (Int×List α) where
 s:=2
 P:=fun w cs x F=>∃ A c,cs=[.int .i64 x.1,.slice A x.2.length c]/\RI E w A x.2.length c x.2 F
 len:=by rintro w cs x F ⟨A,c,rfl,_⟩;rfl
 au:=by rintro w w' cs x F ⟨A,c,rfl,h⟩ hk;exact ⟨A,c,rfl,h.au hk⟩
 lt:=by rintro w cs x F ⟨A,c,rfl,h⟩;exact h.lt
def OX {α:Type} (E:Elt α) (w:World) (base:Nat) (T:TypeId) (A:Option Addr) (n cap:Nat) (css:List (List Value)) (xs:List α) (F:List Nat):Prop :=
 VO w base T E.s A n cap css.flatten/\xs.length=n/\dJ E w css xs F/\Fr w base F/\∀ g,blk A=some g->g∉F
section
variable {α:Type} {E:Elt α} {w w' wr w1:World} {base base' n cap k c g cap' m:Nat} {T:TypeId} {A:Option Addr} {css:List (List Value)} {xs:List α} {F F1:List Nat} {ys:List Value} {x:α} {o:Obj}
theorem OX.lt (h:OX E w base T A n cap css xs F):∀ g,g∈F->g<w.heap.size:=h.2.2.1.lt
theorem OX.au (h:OX E w base T A n cap css xs F) (hs:w.heap.size<=w'.heap.size) (hk:∀ g,g<w.heap.size->(blk A=some g\/g∈F)->w'.heap[g]?=w.heap[g]?):OX E w' base T A n cap css xs F :=
 ⟨h.1.au hs fun g hg hl=>hk g hl (.inl hg),h.2.1,h.2.2.1.au fun g hg=>hk g (h.lt g hg) (.inr hg),h.2.2.2.1.au fun g hg=>hk g (h.lt g hg) (.inr hg),h.2.2.2.2⟩
theorem OX.below (h:OX E w base T A n cap css xs F) (hb:Below w.heap.size w w'):OX E w' base T A n cap css xs F:=h.au hb.size fun g hl _=>hb.block g hl
theorem OX.alloc (h:OX E w base T A n cap css xs F) (o:Obj):OX E (w.alloc o) base T A n cap css xs F:=h.au (by simp) fun g hl _=>Below.heap_alloc w o g hl
theorem OX.drewN (h:OX E w base T A n cap css xs F) (q:Nat):OX E (w.drewN q) base T A n cap css xs F:=h.au (Nat.le_refl _) fun g hl _=>rfl
theorem OX.aj (h:OX E w base T A n cap css xs F):∀ g,blk A=some g->base<=g/\g<w.heap.size:=h.1.aj
theorem OX.lX {p:Addr} (h:OX E w base T A n cap css xs F) (hp:p.block<base) (u:Value):OX E (w.setCell p u) base T A n cap css xs F :=
 h.au (by simp [World.setCell]) fun g hl hg=>Below.heap_setCell w p u g (by
  rcases hg with hg | hg
  ·have:=(h.aj g hg).1;omega
  ·have:=(h.2.2.2.1.2 g hg).1;omega)
theorem OX.nil (w:World) (base:Nat) (T:TypeId):OX E w base T none 0 0 [] [] []:=⟨by have:=VO.nil w base T E.s;simpa using this,rfl,rfl,Fr.nil w base,fun g hg=>by cases hg⟩
theorem OX.kG (w:World) (hb:base<=w.heap.size) (T:TypeId):OX E (w.alloc (.cells #[] T)) base T (some ⟨w.heap.size,0,none⟩) 0 0 [] [] []:=⟨by have:=VO.kG w hb T E.s;simpa using this,rfl,rfl,Fr.nil _ base,fun g _ hg=>by cases hg⟩
theorem OX.mono (h:OX E w base T A n cap css xs F) (hb:base'<=base):OX E w base' T A n cap css xs F:=⟨h.1.mono hb,h.2.1,h.2.2.1,h.2.2.2.1.mono hb,h.2.2.2.2⟩
theorem OX.dC (h:OX E w base T A n cap css xs F):n<=cap/\cap<=maxLen:=h.1.dC
theorem OX.ri (h:OX E w base T A n cap css xs F) (hT:T≠25:=by decide):∃ F',RI E w A n cap xs F'/\Fr w base F':=by
 obtain ⟨h1,h2,h3,h4,h5⟩:=h;have hc:=h1.dC
 by_cases hn:n=0
 ·subst hn;have:xs=[]:=List.eq_nil_of_length_eq_zero h2;subst this
  exact ⟨[],⟨rfl,Nat.zero_le _,hc.2,.inl ⟨rfl,rfl⟩⟩,Fr.nil w base⟩
 ·obtain ⟨g,rfl,hb,hg⟩:=h1.pos (by omega)
  obtain ⟨cs,hblk⟩:∃ cs,Blk w g T cs:=by
   rcases h1.2 with ⟨e,e'⟩ | ⟨g',c',cur,e,_,hh,_⟩
   ·omega
   ·injection e with e1;injection e1 with e1;injection e1 with e1;subst e1
    exact ⟨_,hh⟩
  refine ⟨g::F,⟨h2,hc.1,hc.2,.inr ⟨g,0,css,F,rfl,hg,rfl,h3,fun i cs hi j hj=> ?_⟩⟩,Fr.cons hblk hb h4 (h5 g rfl) hT⟩
  have hil:i<n:=by
   have:=(List.getElem?_eq_some_iff.1 hi).1;rw [h3.length,h2] at this
   exact this
  have hlt:i*E.s+j<n*E.s:=by
   have:(i+1)*E.s<=n*E.s:=Nat.mul_le_mul_right _ hil;rw [Nat.succ_mul] at this
   omega
  rw [Nat.zero_add,h1.cell _ hlt];have:=iG (rest:=[]) h3.lens i cs hi j hj
  rwa [List.append_nil] at this
theorem Fr.zi {g:Nat} {cs:Array Value} (h:Fr w base F) (hb:Blk w g 25 cs):g∉F:=fun hg=>by
 obtain ⟨_,t,cs',h2,h3⟩:=h.2 g hg;unfold Blk at hb h2;rw [hb] at h2;injection h2 with h2;injection h2 with _ h2
 exact h3 h2.symm
theorem OX.push {B:Nat} (h:OX E wr base T A k c css xs F) (hx:E.P wr ys x F1) (hf:Fr wr base F1) (hd:∀ g,g∈F1->g∉F/\blk A≠some g) (hb:Below B w wr) (hB:B<=base) (hbs:base<=wr.heap.size)
  (hown:w1.ownsRow base T E.s (.slice (some ⟨g,0,none⟩) (k+1) cap') (k+1) (css.flatten++ys)) (hg:(wr.alloc o).grownBy w1 (Value.slice A k c).ownBlock)
  (hat:(Value.slice A k c).ownBlock=some g\/g=wr.heap.size+1) :
  OX E w1 base T (some ⟨g,0,none⟩) (k+1) cap' (css++[ys]) (xs++[x]) (F++F1)/\Below B w w1/\bJ A wr w1:=by
 obtain ⟨v1,v2,v3,v4⟩:=VO.push h.1 hb hB hbs hown hg hat;have hk:∀ g',g'<wr.heap.size->blk A≠some g'->w1.heap[g']?=wr.heap[g']?:=fun g' hl hne=>v3.block g' hl (fun e=>hne e.symm)
 have hFA:∀ g',g'∈F->blk A≠some g':=fun g' hg' e=>h.2.2.2.2 g' e hg'
 refine ⟨⟨by rw [List.flatten_append];simpa using v1,by rw [List.length_append,h.2.1];rfl,?_,?_,?_⟩,v2,v3⟩
 ·exact (h.2.2.1.au fun g' hg'=>hk g' (h.lt g' hg') (hFA g' hg')).push (E.au _ _ _ _ _ hx fun g' hg'=>hk g' (E.lt _ _ _ _ hx g' hg') (hd g' hg').2)
 ·exact (h.2.2.2.1.au fun g' hg'=>hk g' (h.lt g' hg') (hFA g' hg')).app (hf.au fun g' hg'=>hk g' (hf.lt g' hg') (hd g' hg').2) (fun g' h1 h2=>(hd g' h2).1 h1)
 ·intro g' hg' hF;have e:g=g':=by simpa [blk] using hg'
  subst e;rcases v4 with h4 | h4
  ·rcases List.mem_append.1 hF with hF | hF
   ·exact hFA g hF h4
   ·exact (hd g hF).2 h4
  ·rcases List.mem_append.1 hF with hF | hF
   ·have:=h.lt g hF;omega
   ·have:=hf.lt g hF;omega
end
end
@[reducible] def SMV (r1 c1:Int) (A1:Option Addr) (n1 p1:Nat) (r2 c2:Int) (A2:Option Addr) (n2 p2:Nat):Value:= .agg #[.int .i64 r1,.int .i64 c1,.slice A1 n1 p1,.int .i64 r2,.int .i64 c2,.slice A2 n2 p2]
def Br (a b:Mx) (w:World) (e:Ending) (w':World):Prop:=∃ (A B:Option Addr) (c d:Nat),e= .returned (SMV a.r a.c A a.v.length c b.r b.c B b.v.length d)/\OS w' w.heap.size A a.v.length c a.v/\OS w' w.heap.size B b.v.length d b.v/\eJ A B/\Below w.heap.size w w'
theorem dR (r1 c1 r2 c2:Int) (v1 v2:List Int) (A1 A2:Option Addr) (n1 p1 n2 p2:Nat) (w:World) (hx0:SI w A1 n1 v1) (hy0:SI w A2 n2 v2) (bn:n1<=1048576) (bm:n2<=1048576) :
  Calls Tryz.prog 95 #[SMV r1 c1 A1 n1 p1 r2 c2 A2 n2 p2] w (Br ⟨r1,c1,v1⟩ ⟨r2,c2,v2⟩ w):=by
 have HX:=Lib.hid hx0;have HY:=Lib.hid hy0;clear hx0 hy0;refine zE ?_;intro u1 H;refine zG (aQ r1 c1 v1 A1 n1 p1 u1 (SI.below HX.out H.O) bn) ?_;rintro e w2 ⟨Aa,ca,rfl,os,hb⟩;replace H:=H.os hb os
 dsimp only at H ⊢
 refine zN ?_;clear H;intro u3 H;refine zG (aQ r2 c2 v2 A2 n2 p2 u3 (SI.below HY.out H.O) bm) ?_;rintro e w4 ⟨Ab,cb,rfl,os,hb⟩;replace H:=H.os hb os
 dsimp only at H ⊢
 refine zS_ ?_;clear H;intro u5 H
 exact ⟨_,_,_,_,rfl,(H.o 1),(H.o 0),fun g h1 h2=>H.noo 1 0 g h1 h2,H.O⟩
def sP {α:Type} (E:Elt α) (x:α) (w:World) (e:Ending) (w':World):Prop:=∃ cs F,e= .returned (.agg cs.toArray)/\E.P w' cs x F/\Fr w' w.heap.size F/\Below w.heap.size w w'
def jV {α:Type} (E:Elt α) (xs:List α) (w:World) (e:Ending) (w':World):Prop:=∃ A c F,e= .returned (.slice A xs.length c)/\RI E w' A xs.length c xs F/\Fr w' w.heap.size F/\Below w.heap.size w w'
theorem jV.uk {α:Type} {E:Elt α} {w w':World} {T:TypeId} {A:Option Addr} {n c:Nat} {css:List (List Value)} {xs:List α} {F:List Nat} (h:OX E w' w.heap.size T A n c css xs F) (hb:Below w.heap.size w w') (hT:T≠25:=by decide):jV E xs w (.returned (.slice A n c)) w':=by
 obtain ⟨F',h1,h2⟩:=h.ri hT;obtain rfl:=h.2.1
 exact ⟨A,c,F',rfl,h1,h2,hb⟩
theorem RI.cells {α:Type} {E:Elt α} {w:World} {A:Option Addr} {n cap:Nat} {xs:List α} {F:List Nat} (h:RI E w A n cap xs F) {i:Nat} {x:α} (hx:xs[i]?=some x) (m:Nat) (hm:E.s=m) :
  ∃ b off cs F',A=some ⟨b,off,none⟩/\b<w.heap.size/\(∀ j,j<m->w.cell? ⟨b,off+i*m+j,none⟩=cs[j]?)/\(∀ g,g∈F'->g∈F)/\E.P w cs x F':=by
 subst hm;obtain ⟨b,off,cs,F',e,hb,hc,hF,hp⟩:=h.at hx
 exact ⟨b,off,cs,F',e,hb,fun j hj=>by rw [Nat.add_assoc];exact hc j hj,hF,hp⟩
theorem aH {α:Type} {xs:List α} {j:Nat} (h:j<xs.length):∃ x,xs[j]?=some x/\x∈xs:=⟨xs[j],List.getElem?_eq_getElem h,List.getElem_mem h⟩
theorem aW {α:Type} {xs:List α} {j:Nat} {x:α} (h:xs[j]?=some x):xs.take (j+1)=xs.take j++[x]:=by
 obtain ⟨hl,rfl⟩:=List.getElem?_eq_some_iff.1 h
 exact (List.take_append_getElem hl).symm
def mS (m:Mx):Prop:=m.v.length<=1048576
def smS (p:Mx×Mx):Prop:=mS p.1/\mS p.2
def kS {α:Type} (S:α->Prop) (l:Int×List α):Prop:=l.2.length<=1048576/\∀ p,p∈l.2->S p
def gG {α:Type} (S:α->Prop) (l:List α):Prop:=l.length<=1048576/\∀ p,p∈l->S p
theorem rI:(Tryz.prog.info? 37).map (fun i=>(i.zero,i.size,i.bytes))=some (some (.agg #[.int .i64 0,.int .i64 0,.slice none 0 0]),3,40):=by kernel_rfl
theorem lq:(Tryz.prog.info? 82).map (fun i=>(i.zero,i.size,i.bytes))=some (some (.agg #[.int .i64 0,.int .i64 0,.slice none 0 0,.int .i64 0,.int .i64 0,.slice none 0 0]),6,80):=by kernel_rfl
theorem we:(Tryz.prog.info? 80).map (fun i=>(i.zero,i.size,i.bytes))=some (some (.agg #[.int .i64 0,.slice none 0 0]),2,32):=by kernel_rfl
theorem nJ:(Tryz.prog.info? 99).map (fun i=>(i.zero,i.size,i.bytes))=some (some (.agg #[.int .i64 0,.slice none 0 0]),2,32):=by kernel_rfl
theorem BZ (W:World) (cs:List Value) (x:Mx) (F:List Nat) (h:mxE.P W cs x F) (b:mS x):Calls Tryz.prog 92 #[.agg cs.toArray] W (sP mxE x W):=by
 obtain ⟨A,c,rfl,h1⟩:=h;refine (aQ x.r x.c x.v A _ c W h1.1 b).mono ?_;rintro e w' ⟨A',c',rfl,o1,hb⟩
 exact ⟨_,_,rfl,⟨A',c',rfl,MF.aB o1⟩,ek o1,hb⟩
theorem AT (W:World) (cs:List Value) (x:Mx×Mx) (F:List Nat) (h:smE.P W cs x F) (b:smS x):Calls Tryz.prog 95 #[.agg cs.toArray] W (sP smE x W):=by
 obtain ⟨A,c,B,d,F1,F2,rfl,h1,h2,_⟩:=h;refine (dR x.1.r x.1.c x.2.r x.2.c x.1.v x.2.v A B _ c _ d W h1.1 h2.1 b.1 b.2).mono ?_;rintro e w' ⟨A',B',c',d',rfl,o1,o2,ap,hb⟩
 exact ⟨_,_,rfl,⟨A',c',B',d',_,_,rfl,MF.aB o1,MF.aB o2,rfl⟩,Fr.app (ek o1) (ek o2) (fun g h1 h2=>ap g (bz h1).2 (bz h2).2),hb⟩
section
theorem uS (z:Array Value) (hz:0<z.size) (n:Nat):(madeCells z (n*z.size)).toList=(List.replicate n z.toList).flatten:=by
 apply List.ext_getElem?
 intro k
 by_cases hk:k<n*z.size
 ·have hi:k/z.size<n:=Nat.div_lt_of_lt_mul (by rwa [Nat.mul_comm] at hk)
  have hj:k%z.size<z.size:=Nat.mod_lt _ hz;have h:=iG (s:=z.size) (css:=List.replicate n z.toList) (rest:=[]) (by intro cs h;rw [List.eq_of_mem_replicate h];simp) (k/z.size) z.toList (by rw [List.getElem?_replicate];simp [hi]) (k%z.size) hj
  rw [List.append_nil,Nat.mul_comm,Nat.div_add_mod] at h;rw [h]
  simp [madeCells,hk,hj]
 ·rw [List.getElem?_eq_none (by simp [size_madeCells];omega),List.getElem?_eq_none]
  rw [List.length_flatten]
  simp
  omega
theorem VO.made (w:World) (T:TypeId) (z:Array Value) (hz:0<z.size) (n:Nat) (hn:n<=maxLen):VO (w.alloc (.cells (madeCells z (n*z.size)) T)) w.heap.size T z.size (some ⟨w.heap.size,0,none⟩) n n (List.replicate n z.toList).flatten:=by
 have h:=World.ownsRow_lit (base:=w.heap.size) (e:=T) (size:=z.size) w (madeCells z (n*z.size)) n (Nat.le_refl _) hn (by simp [size_madeCells])
 rw [uS z hz n] at h
 exact h
def ZL:Array Value:=#[.int .i64 0,.slice none 0 0]
theorem CG (n:Nat) (hn:n<=1048576) (w:World):(Instr.makeSlice 32 (.int .i64 (n:Int)) (.int .i64 (n:Int))).run Tryz.prog w= .ok (.slice (some ⟨w.heap.size,0,none⟩) n n) (w.alloc (.cells (madeCells ZL (n*ZL.size)) 80)):=by
 obtain ⟨i,hi,hz,h1,h8⟩:=info_parts we;have h:=run_make (P:=Tryz.prog) w 32 80 i _ Tryz.underlying32 hi hz .i64 .i64 (n:Int) (n:Int) (by omega) (Int.le_refl _) (by rw [h8];omega) (by omega)
 rw [h,h1];simp only [Int.toNat_natCast]
 rfl
theorem zf (n:Nat) (hn:n<=1048576) (w:World):(Instr.makeSlice 23 (.int .i64 (n:Int)) (.int .i64 (n:Int))).run Tryz.prog w= .ok (.slice (some ⟨w.heap.size,0,none⟩) n n) (w.alloc (.cells (madeCells ZL (n*ZL.size)) 99)):=by
 obtain ⟨i,hi,hz,h1,h8⟩:=info_parts nJ;have h:=run_make (P:=Tryz.prog) w 23 99 i _ Tryz.underlying23 hi hz .i64 .i64 (n:Int) (n:Int) (by omega) (Int.le_refl _) (by rw [h8];omega) (by omega)
 rw [h,h1];simp only [Int.toNat_natCast]
 rfl
def FX {α:Type} (E:Elt α) (w:World) (base:Nat) (T:TypeId) (g n:Nat) (css:List (List Value)) (rest:List Value) (xs:List α) (F:List Nat):Prop :=
 VO w base T E.s (some ⟨g,0,none⟩) n n (css.flatten++rest)/\dJ E w css xs F/\Fr w base F/\g∉F
theorem dS {α:Type} {E:Elt α} {w:World} {css:List (List Value)} {xs:List α} {F:List Nat} (h:dJ E w css xs F):css.flatten.length=xs.length*E.s:=by
 have:∀ {css:List (List Value)},(∀ cs,cs∈css->cs.length=E.s)->css.flatten.length=css.length*E.s:=by
  intro css
  induction css with
  | nil=>intro _;simp
  | cons c l ih =>
   intro hl;rw [List.flatten_cons,List.length_append,ih (fun cs h=>hl cs (List.mem_cons_of_mem _ h)),hl c (List.mem_cons_self ..),List.length_cons,Nat.succ_mul]
   omega
 rw [this h.lens,h.length]
section
variable {α:Type} {E:Elt α} {w w':World} {base base' g n:Nat} {T:TypeId} {css:List (List Value)} {rest:List Value} {xs:List α} {F F1:List Nat} {ys:List Value} {x:α}
theorem FX.made (w:World) (T:TypeId) (z:Array Value) (hz:0<z.size) (hs:E.s=z.size) (n:Nat) (hn:n<=maxLen):FX E (w.alloc (.cells (madeCells z (n*z.size)) T)) w.heap.size T w.heap.size n [] (List.replicate n z.toList).flatten [] [] :=
 ⟨by rw [hs];exact VO.made w T z hz n hn,rfl,Fr.nil _ _,fun h=>by cases h⟩
theorem FX.au (h:FX E w base T g n css rest xs F) (hs:w.heap.size<=w'.heap.size) (hk:∀ g',g'<w.heap.size->(g'=g\/g'∈F)->w'.heap[g']?=w.heap[g']?):FX E w' base T g n css rest xs F :=
 ⟨h.1.au hs fun g' hg hl=>hk g' hl (.inl (by have e:g=g':=(by simpa [blk] using hg);exact e.symm)),h.2.1.au fun g' hg=>hk g' (h.2.1.lt g' hg) (.inr hg),h.2.2.1.au fun g' hg=>hk g' (h.2.1.lt g' hg) (.inr hg),h.2.2.2⟩
theorem FX.below (h:FX E w base T g n css rest xs F) (hb:Below w.heap.size w w'):FX E w' base T g n css rest xs F:=h.au hb.size fun g' hl _=>hb.block g' hl
theorem FX.glt (h:FX E w base T g n css rest xs F):base<=g/\g<w.heap.size:=h.1.aj g rfl
theorem FX.ri (h:FX E w base T g n css [] xs F) (hn:xs.length=n) (hT:T≠25:=by decide):∃ F',RI E w (some ⟨g,0,none⟩) n n xs F'/\Fr w base F':=by
 have h1:=h.1;rw [List.append_nil] at h1
 exact OX.ri ⟨h1,hn,h.2.1,h.2.2.1,fun g' hg=>(by have e:g=g':=(by simpa [blk] using hg);rw [<- e];exact h.2.2.2)⟩ hT
theorem FX.put {pre a b:List Value} {u:Value} {j:Nat} (h:VO w base T E.s (some ⟨g,0,none⟩) n n (pre++(a++u::b))) (hj:j=pre.length+a.length) (v:Value):VO (w.setCell ⟨g,j,none⟩ v) base T E.s (some ⟨g,0,none⟩) n n (pre++(a++v::b)):=by
 have:=h.store j v;subst hj;rw [List.set_append_right _ _ (by omega),Nat.add_sub_cancel_left,List.set_append_right _ _ (Nat.le_refl _),Nat.sub_self,List.set_cons_zero] at this
 exact this
theorem FX.step (hv:VO w' base T E.s (some ⟨g,0,none⟩) n n (css.flatten++(ys++rest))) (he:dJ E w css xs F) (hf:Fr w base F) (hg:g∉F) (hk:∀ g',g'∈F->w'.heap[g']?=w.heap[g']?)
  (hx:E.P w' ys x F1) (hf1:Fr w' base F1) (hd:∀ g',g'∈F1->g'∉F/\g'≠g):FX E w' base T g n (css++[ys]) rest (xs++[x]) (F++F1) :=
 ⟨by rw [List.flatten_append,List.append_assoc];simpa using hv,(he.au hk).push hx,(hf.au hk).app hf1 (fun g' h1 h2=>(hd g' h2).1 h1),fun h=>(List.mem_append.1 h).elim hg (fun h=>(hd g h).2 rfl)⟩
end
theorem eG {T:TypeId} {s:Nat} {u:Value} {a b:List Value} {wi:World} {gj n base:Nat} {pre:List Value} (h:VO wi base T s (some ⟨gj,0,none⟩) n n (pre++(a++u::b))) {i:Nat} (hi:i=pre.length+a.length):wi.cell? ⟨gj,i,none⟩=some u:=by
 have hl:=h.len;rw [h.cell i (by simp at hl;omega),hi,List.getElem?_append_right (by omega),Nat.add_sub_cancel_left,List.getElem?_append_right (Nat.le_refl _),Nat.sub_self]
 rfl
end
def pv (f:Int->Int->Int) (a b:Mx) (k:Nat):Int:=f (a.v.getD k 0) (b.v.getD k 0)
def aE (f:Int->Int->Int) (a b:Mx):Mx:=if az a b=true then ⟨a.r,a.c,fl (pv f a b) a.v.length⟩ else Mx.z
theorem fi {f:Int->Int->Int} {a b:Mx} (h:az a b=true):aE f a b=⟨a.r,a.c,fl (pv f a b) a.v.length⟩:=if_pos h
theorem ib {f:Int->Int->Int} {a b:Mx} (h:az a b=false):aE f a b=Mx.z:=if_neg (by rw [h];decide)
theorem cZ {m:Mx} (h:mvB m=true):(m.v.length:Int)=m.r*m.c/\side m.r=true/\side m.c=true/\m.v.all rv=true:=by
 unfold mvB at h;simp only [Bool.and_eq_true,decide_eq_true_eq] at h
 exact ⟨h.2.2.1,h.1,h.2.1,h.2.2.2⟩
theorem i_ {a b:Mx} (h:az a b=true):mvB a=true/\mvB b=true/\a.r=b.r/\a.c=b.c:=by
 unfold az bS at h;simp only [Bool.and_eq_true,decide_eq_true_eq] at h
 exact ⟨h.1,h.2.1,h.2.2.1,h.2.2.2⟩
theorem bt {a b:Mx} (h:az a b=true):a.v.length=b.v.length/\1<=a.v.length/\a.v.length<=25:=by
 obtain ⟨h1,h2,h3,h4⟩:=i_ h;obtain ⟨l1,s1,s2,_⟩:=cZ h1;obtain ⟨l2,_,_,_⟩:=cZ h2;have:=e6 s1 s2;rw [<- h3,<- h4] at l2
 omega
def La (f:Nat->Int) (a b:Mx) (w:World) (g5:Nat) (Aa Ab:Option Addr) (n ca cb:Nat) (wr:World) (j:Nat) (A:Option Addr) (c:Nat):Prop :=
 Blk wr w.heap.size 37 #[.int .i64 a.r,.int .i64 a.c,.slice Aa n ca]/\Blk wr (w.heap.size+1) 37 #[.int .i64 b.r,.int .i64 b.c,.slice Ab n cb]/\Blk wr (w.heap.size+2) 37 #[.int .i64 0,.int .i64 0,.slice none 0 0] /\
 Blk wr g5 37 #[.int .i64 a.r,.int .i64 a.c,.slice A j c]/\OS wr w.heap.size Aa n ca a.v/\OS wr w.heap.size Ab n cb b.v/\OS wr w.heap.size A j c (fl f j)/\eJ Aa A/\eJ Ab A/\Below w.heap.size w wr
def LaA (f:Nat->Int) (a b:Mx) (w:World) (g5:Nat) (Aa Ab:Option Addr) (n ca cb:Nat) (w1:World) (j:Nat) (A:Option Addr) (c g cap:Nat):Prop :=
 Blk w1 w.heap.size 37 #[.int .i64 a.r,.int .i64 a.c,.slice Aa n ca]/\Blk w1 (w.heap.size+1) 37 #[.int .i64 b.r,.int .i64 b.c,.slice Ab n cb]/\Blk w1 (w.heap.size+2) 37 #[.int .i64 0,.int .i64 0,.slice none 0 0] /\
 Blk w1 g5 37 #[.int .i64 a.r,.int .i64 a.c,.slice A j c]/\OS w1 w.heap.size Aa n ca a.v/\OS w1 w.heap.size Ab n cb b.v/\OS w1 w.heap.size (some ⟨g,0,none⟩) (j+1) cap (fl f (j+1))/\eJ Aa (some ⟨g,0,none⟩)/\eJ Ab (some ⟨g,0,none⟩)/\Below w.heap.size w w1
theorem La.app {f:Nat->Int} {a b:Mx} {w wr w1:World} {g5 n ca cb j c g cap m:Nat} {Aa Ab A:Option Addr} {o:Obj} (h:La f a b w g5 Aa Ab n ca cb wr j A c)
  (hown:w1.ownsRow w.heap.size 3 1 (.slice (some ⟨g,0,none⟩) (j+1) cap) (j+1) ((fl f j).map (Value.int .i64)++[.int .i64 (f j)])) (hg:((wr.drewN m).alloc o).grownBy w1 (Value.slice A j c).ownBlock)
  (hat:(Value.slice A j c).ownBlock=some g\/g=wr.heap.size+1):LaA f a b w g5 Aa Ab n ca cb w1 j A c g cap:=by
 obtain ⟨h1,h2,h3,h4,h5,h6,h7,h8,h9,h10⟩:=h;obtain ⟨k1,k2,k3,k4⟩:=fS (wr:=wr.drewN m) (OS.drewN h7 m) (below_drewN h10 m) h10.size hown hg hat;have n1:=bf h7 h1 (by decide)
 have n2:=bf h7 h2 (by decide)
 have n3:=bf h7 h3 (by decide)
 have n4:=bf h7 h4 (by decide)
 exact ⟨(h1.drewN m).bR k3 n1,(h2.drewN m).bR k3 n2,(h3.drewN m).bR k3 n3,(h4.drewN m).bR k3 n4,(OS.drewN h5 m).bR k3 h8,(OS.drewN h6 m).bR k3 h9,by rw [dd];exact k1,mY h8 h5 k4,mY h9 h6 k4,k2⟩
theorem La.next {f:Nat->Int} {a b:Mx} {w w1:World} {g5 n ca cb j c g cap:Nat} {Aa Ab A:Option Addr} (h:LaA f a b w g5 Aa Ab n ca cb w1 j A c g cap) (hT:w.heap.size+2<g5) :
  La f a b w g5 Aa Ab n ca cb (w1.setCell ⟨g5,2,none⟩ (.slice (some ⟨g,0,none⟩) (j+1) cap)) (j+1) (some ⟨g,0,none⟩) cap:=by
 obtain ⟨h1,h2,h3,h4,h5,h6,h7,h8,h9,h10⟩:=h
 exact ⟨h1.far (p:=⟨g5,2,none⟩) (by dsimp only;omega) _,h2.far (p:=⟨g5,2,none⟩) (by dsimp only;omega) _,h3.far (p:=⟨g5,2,none⟩) (by dsimp only;omega) _,h4.dc 2 _,
  h5.dk h4 (by decide) _,h6.dk h4 (by decide) _,h7.dk h4 (by decide) _,h8,h9,h10.setCell (by dsimp only;omega) _⟩
theorem uv {w w':World} {A:Option Addr} {xs:List Int} {n j b off:Nat} (h:SI w A n xs) (hA:A=some ⟨b,off,none⟩) (hj:j<n) (hb:Below w.heap.size w w'):w'.cell? ⟨b,off+j,none⟩=some (.int .i64 (xs.getD j 0)):=by
 subst hA;obtain ⟨b',off',e,_,hc⟩:=(SI.below h hb).2 (by omega)
 injection e with e;injection e with e1 e2;subst e1 e2
 exact hc j hj
theorem a7 {w:World} {base n c g i:Nat} {xs:List Int} (h:OS w base (some ⟨g,0,none⟩) n c xs) (hi:i<n):g<w.heap.size/\w.cell? ⟨g,i,none⟩=some (.int .i64 (xs.getD i 0))/\w.frozen? ⟨g,i,none⟩=false:=by
 obtain ⟨b,off,e,hl,hc⟩:=h.si.2 (by omega)
 injection e with e;injection e with e1 e2;subst e1 e2;have:=hc i hi;rw [Nat.zero_add] at this
 exact ⟨hl,this,h.frozen i g rfl⟩
theorem ki {op:Int->Int->Int} (f:FuncId) (hrun:∀ (W:World) (args:Array Value),(callFunc f args).run Tryz.prog W= .ok (.enter f args) W) (hf:∀ (x y:Int) (W:World),Calls Tryz.prog f #[.int .i64 x,.int .i64 y] W fun e w'=>e= .returned (.int .i64 (op x y))/\W=w')
  (r1 c1 r2 c2:Int) (v1 v2:List Int) (A1 A2:Option Addr) (n1 p1 n2 p2:Nat) (w:World) (hx0:SI w A1 n1 v1) (hy0:SI w A2 n2 v2) (bn:n1<=1048576) (bm:n2<=1048576) :
  Calls Tryz.prog 145 #[MV r1 c1 A1 n1 p1,MV r2 c2 A2 n2 p2,.func (.func f) #[] #[]] w (bD (aE op ⟨r1,c1,v1⟩ ⟨r2,c2,v2⟩) w):=by
 obtain rfl:v1.length=n1:=hx0.1;obtain rfl:v2.length=n2:=hy0.1;have HX:=Lib.hid hx0;have HY:=Lib.hid hy0;clear hx0 hy0
 cases g1:mvB ⟨r1,c1,v1⟩
 ·have HLK:Hid (az ⟨r1,c1,v1⟩ ⟨r2,c2,v2⟩=false):=by show az _ _=false;unfold az;rw [g1];rfl
  refine zE ?_;intro u1 H;refine zB (aw r1 c1 v1 A1 _ p1 u1 (SI.below HX.out H.O) (by omega)) ?_;clear H;intro w2 u2 H
  refine zS_ ?_;clear H;intro u3 H
  exact (by rw [ib HLK.out];exact ⟨none,0,rfl,OS.nil _ _,H.O⟩)
 cases g2:mvB ⟨r2,c2,v2⟩
 ·have HLK:Hid (az ⟨r1,c1,v1⟩ ⟨r2,c2,v2⟩=false):=by show az _ _=false;unfold az;rw [g1,g2];rfl
  refine zE ?_;intro u1 H;refine zB (aw r1 c1 v1 A1 _ p1 u1 (SI.below HX.out H.O) (by omega)) ?_;clear H;intro w2 u2 H
  refine zB (aw r2 c2 v2 A2 _ p2 u2 (SI.below HY.out H.O) (by omega)) ?_;clear H;intro w3 u3 H
  refine zS_ ?_;clear H;intro u4 H
  exact (by rw [ib HLK.out];exact ⟨none,0,rfl,OS.nil _ _,H.O⟩)
 cases g3:bS ⟨r1,c1,v1⟩ ⟨r2,c2,v2⟩
 ·have HLK:Hid (az ⟨r1,c1,v1⟩ ⟨r2,c2,v2⟩=false):=by show az _ _=false;unfold az;rw [g1,g2,g3];rfl
  refine zE ?_;intro u1 H;refine zB (aw r1 c1 v1 A1 _ p1 u1 (SI.below HX.out H.O) (by omega)) ?_;clear H;intro w2 u2 H
  refine zB (aw r2 c2 v2 A2 _ p2 u2 (SI.below HY.out H.O) (by omega)) ?_;clear H;intro w3 u3 H
  refine zB ((show Calls Tryz.prog 195 #[_,_] u3 (fun e w'=>e= .returned (.bool false)/\Below u3.heap.size u3 w') from g3 ▸ eY r1 c1 r2 c2 A1 A2 _ p1 _ p2 u3 v1 v2)) ?_;clear H;intro w4 u4 H
  refine zS_ ?_;clear H;intro u5 H
  exact (by rw [ib HLK.out];exact ⟨none,0,rfl,OS.nil _ _,H.O⟩)
 have HLK:Hid (az ⟨r1,c1,v1⟩ ⟨r2,c2,v2⟩=true):=by show az _ _=true;unfold az;rw [g1,g2,g3];rfl
 obtain ⟨hl1,hl2,hl3⟩:=bt HLK.out;have hml:=(cZ g1).1
 dsimp only at hl1 hl2 hl3 hml
 have HL1:=Lib.hid hl1;have HML:=Lib.hid hml;clear hl1 hml;obtain ⟨bA,oA,rfl,zA,_⟩:=HX.out.2 (by omega)
 obtain ⟨bB,oB,rfl,zB',_⟩:=HY.out.2 (by have:=HL1.out;omega)
 refine zE ?_;intro u1 H;refine zB (aw r1 c1 v1 (some ⟨bA,oA,none⟩) _ p1 u1 (SI.below HX.out H.O) (by omega)) ?_;clear H;intro w2 u2 H
 refine zB (aw r2 c2 v2 (some ⟨bB,oB,none⟩) _ p2 u2 (SI.below HY.out H.O) (by omega)) ?_;clear H;intro w3 u3 H
 refine zB ((show Calls Tryz.prog 195 #[_,_] u3 (fun e w'=>e= .returned (.bool true)/\Below u3.heap.size u3 w') from g3 ▸ eY r1 c1 r2 c2 (some ⟨bA,oA,none⟩) (some ⟨bB,oB,none⟩) _ p1 _ p2 u3 v1 v2)) ?_;clear H;intro w4 u4 H
 refine zG (di (n:=v1.length) HML.out.symm (by omega) u4) ?_
 rintro e w5 ⟨AG,cG,rfl,hosg,hb⟩;replace H:=H.os hb hosg;simp only [List.length_replicate] at H ⊢;obtain ⟨G,rfl,_,_⟩:=(H.o 0).pos (by omega)
 refine zN ?_;clear H;intro u6 H;obtain ⟨gT,hgT⟩:∃ g,g=w5.heap.size:=⟨_,rfl⟩;rw [<- hgT] at H ⊢;clear hgT;intros
 go_loopw [33] (fun i wr=>∃ j:Nat,j<=v1.length/\i= .int .i64 j/\Hid (Hq w [qB gT 37 [.int .i64 r1,.int .i64 c1,.slice (some ⟨G,0,none⟩) v1.length cG],qO w.heap.size (some ⟨G,0,none⟩) v1.length cG (fl (pv op ⟨r1,c1,v1⟩ ⟨r2,c2,v2⟩) j++List.replicate (v1.length-j) 0),qB (w.heap.size+2) 37 [.int .i64 0,.int .i64 0,.slice none 0 0],qB (w.heap.size+1) 37 [.int .i64 r2,.int .i64 c2,.slice (some ⟨bB,oB,none⟩) v2.length p2],qB w.heap.size 37 [.int .i64 r1,.int .i64 c1,.slice (some ⟨bA,oA,none⟩) v1.length p1]] wr)) (fun i _=>v1.length-(intOf i).toNat)
 case atStart=>exact ⟨0,Nat.zero_le _,rfl,H⟩
 case round =>
 clear H;obtain ⟨j,hj,rfl,H⟩:=hrel;have H:=H.out
 by_cases hlt:j<v1.length
 ·have i0:(0:Int)<=(j:Int):=by omega
  have i1:(j:Int)<(v1.length:Int):=by omega
  have i2:(j:Int)<(v2.length:Int):=by have:=HL1.out;omega
  obtain ⟨x,hx⟩:∃ x,x=v1.getD j 0:=⟨_,rfl⟩;obtain ⟨y,hy⟩:∃ y,y=v2.getD j 0:=⟨_,rfl⟩;have HS:Hid ((fl (pv op ⟨r1,c1,v1⟩ ⟨r2,c2,v2⟩) j++List.replicate (v1.length-j) 0).set j (op x y)=fl (pv op ⟨r1,c1,v1⟩ ⟨r2,c2,v2⟩) (j+1)++List.replicate (v1.length-(j+1)) 0):=by
   rw [hx,hy]
   exact jF (pv op ⟨r1,c1,v1⟩ ⟨r2,c2,v2⟩) v1.length j hlt
  have cA:=uv HX.out rfl hlt H.O;rw [<- hx] at cA;have HYY:=Lib.hid hy;clear hx hy;refine zC ?_;intro C;intros;go_upto_region 7 with fail;refine zM ?_;clear H C;intro u21 H;refine zXZ (tg [gT,(w.heap.size+1),bB]) ?_;clear H;intro S w22 hne H;refine zD ((And.intro (H.c 0) (H.c 3))) ?_;intro G;have rB:=uv HY.out rfl (by have:=HL1.out;omega:j<v2.length) H.O
  rw [<- HYY.out] at rB;replace rB:=H.row rB;refine yP (hf _ _ w22) ?_;have D:=a7 (H.o 1) hlt;refine nY ?_;clear H D;intro u22 H;replace H:=(((((H.r 4).r 4).r 4).r 4).r 4);refine zC ?_;intro C;intros;go_wp2
  go_roundw
  case rel=>exact ⟨j+1,by omega,by go_num,(by rw [HS.out] at H;exact H)⟩
  case measure=>simp [intOf];omega
 ·obtain rfl:j=v1.length:=by omega
  rw [Nat.sub_self,List.replicate_zero,List.append_nil] at H;refine zS_ ?_;clear H;intro u41 H
  exact (by rw [fi HLK.out];exact ⟨some ⟨G,0,none⟩,cG,by dsimp only;rw [aD],by dsimp only;rw [aD];exact (H.o 1),H.O⟩)
theorem CV (r1 c1 r2 c2:Int) (v1 v2:List Int) (A1 A2:Option Addr) (n1 p1 n2 p2:Nat) (w:World) (hx0:SI w A1 n1 v1) (hy0:SI w A2 n2 v2) (bn:n1<=1048576) (bm:n2<=1048576) :
  Calls Tryz.prog 145 #[MV r1 c1 A1 n1 p1,MV r2 c2 A2 n2 p2,.func (.func 146) #[] #[]] w (bD (aE aJ ⟨r1,c1,v1⟩ ⟨r2,c2,v2⟩) w):=ki _ (fun _ _=>by kernel_rfl) iX r1 c1 r2 c2 v1 v2 A1 A2 n1 p1 n2 p2 w hx0 hy0 bn bm
theorem DG (r1 c1 r2 c2:Int) (v1 v2:List Int) (A1 A2:Option Addr) (n1 p1 n2 p2:Nat) (w:World) (hx0:SI w A1 n1 v1) (hy0:SI w A2 n2 v2) (bn:n1<=1048576) (bm:n2<=1048576) :
  Calls Tryz.prog 145 #[MV r1 c1 A1 n1 p1,MV r2 c2 A2 n2 p2,.func (.func 209) #[] #[]] w (bD (aE bC ⟨r1,c1,v1⟩ ⟨r2,c2,v2⟩) w):=ki _ (fun _ _=>by kernel_rfl) gD r1 c1 r2 c2 v1 v2 A1 A2 n1 p1 n2 p2 w hx0 hy0 bn bm
end Go.Proofs.YtjciicheoghcdaaGreatDoor

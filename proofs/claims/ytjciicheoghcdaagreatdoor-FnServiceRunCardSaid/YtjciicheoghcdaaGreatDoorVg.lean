/- Part of the proof: the law FnServiceRun is true for every input. -/
import Derived.Deep.AppendLies
import Derived.Test.YtjciicheoghcdaaGreatDoorVb
import Derived.Test.YtjciicheoghcdaaGreatDoorVc
import Derived.Test.YtjciicheoghcdaaGreatDoorVf
namespace Go.Proofs.YtjciicheoghcdaaGreatDoor
open Go.RowKit Go.Proofs.Tryz
set_option linter.all false
set_option maxRecDepth 20000
set_option maxHeartbeats 16000000
def az (a b:Mx):Bool:=mvB a && (mvB b && bS a b)
def dfB (a b:Mx):Bool:=mvB a && (mvB b && (decide (b.c=1) && decide (b.r=a.r)))
theorem eD (r1 c1 r2 c2:Int) (v1 v2:List Int) (A1 A2:Option Addr) (n1 p1 n2 p2:Nat) (w:World) (hx0:SI w A1 n1 v1) (hy0:SI w A2 n2 v2) (bn:n1<=1048576) (bm:n2<=1048576) :
  Calls prog 134 #[MV r1 c1 A1 n1 p1,MV r2 c2 A2 n2 p2] w fun e w'=>e= .returned (.bool (az ⟨r1,c1,v1⟩ ⟨r2,c2,v2⟩))/\Below w.heap.size w w':=by
 have HX:=Qh hx0;have HY:=Qh hy0;clear hx0 hy0
 cases g1:mvB ⟨r1,c1,v1⟩
 ·have es:az ⟨r1,c1,v1⟩ ⟨r2,c2,v2⟩=false:=by unfold az;rw[g1];simp[bS]
  rw[es];clear es;refine zE ?_;intro u1 H;refine zB (aM r1 c1 v1 A1 n1 p1 u1 (SI.below HX.out H.O) (by omega)) ?_;clear H;intro w2 u2 H
  refine zR ?_;clear H;intro u3 H
  exact⟨rfl,H.O⟩
 cases g2:mvB ⟨r2,c2,v2⟩
 ·have es:az ⟨r1,c1,v1⟩ ⟨r2,c2,v2⟩=false:=by unfold az;rw[g1,g2];simp[bS]
  rw[es];clear es;refine zE ?_;intro u1 H;refine zB (aM r1 c1 v1 A1 n1 p1 u1 (SI.below HX.out H.O) (by omega)) ?_;clear H;intro w2 u2 H
  refine zB (aM r2 c2 v2 A2 n2 p2 u2 (SI.below HY.out H.O) (by omega)) ?_;clear H;intro w3 u3 H
  refine zR ?_;clear H;intro u4 H
  exact⟨rfl,H.O⟩
 by_cases h1:r1=r2
 ·by_cases h2:c1=c2
  ·have es:az ⟨r1,c1,v1⟩ ⟨r2,c2,v2⟩=true:=by unfold az;rw[g1,g2];simp[bS,h1,h2]
   rw[es];clear es;have e1:(r1 == r2)=true:=by simp[h1]
   have e2:(c1 == c2)=true:=by simp[h2]
   clear h1 h2;refine zE ?_;intro u1 H;refine zB (aM r1 c1 v1 A1 n1 p1 u1 (SI.below HX.out H.O) (by omega)) ?_;clear H;intro w2 u2 H
   refine zB (aM r2 c2 v2 A2 n2 p2 u2 (SI.below HY.out H.O) (by omega)) ?_;clear H;intro w3 u3 H
   refine zR ?_;clear H;intro u4 H
   exact⟨rfl,H.O⟩
  ·have es:az ⟨r1,c1,v1⟩ ⟨r2,c2,v2⟩=false:=by unfold az;rw[g1,g2];simp[bS,h1,h2]
   rw[es];clear es;have e1:(r1 == r2)=true:=by simp[h1]
   have e2:(c1 == c2)=false:=by simp[h2]
   clear h1 h2;refine zE ?_;intro u1 H;refine zB (aM r1 c1 v1 A1 n1 p1 u1 (SI.below HX.out H.O) (by omega)) ?_;clear H;intro w2 u2 H
   refine zB (aM r2 c2 v2 A2 n2 p2 u2 (SI.below HY.out H.O) (by omega)) ?_;clear H;intro w3 u3 H
   refine zR ?_;clear H;intro u4 H
   exact⟨rfl,H.O⟩
 ·have es:az ⟨r1,c1,v1⟩ ⟨r2,c2,v2⟩=false:=by unfold az;rw[g1,g2];simp[bS,h1]
  rw[es];clear es;have e1:(r1 == r2)=false:=by simp[h1]
  clear h1;refine zE ?_;intro u1 H;refine zB (aM r1 c1 v1 A1 n1 p1 u1 (SI.below HX.out H.O) (by omega)) ?_;clear H;intro w2 u2 H
  refine zB (aM r2 c2 v2 A2 n2 p2 u2 (SI.below HY.out H.O) (by omega)) ?_;clear H;intro w3 u3 H
  refine zR ?_;clear H;intro u4 H
  exact⟨rfl,H.O⟩
theorem DK (r1 c1 r2 c2:Int) (v1 v2:List Int) (A1 A2:Option Addr) (n1 p1 n2 p2:Nat) (w:World) (hx0:SI w A1 n1 v1) (hy0:SI w A2 n2 v2) (bn:n1<=1048576) (bm:n2<=1048576) :
  Calls prog 147 #[MV r1 c1 A1 n1 p1,MV r2 c2 A2 n2 p2] w fun e w'=>e= .returned (.bool (dfB ⟨r1,c1,v1⟩ ⟨r2,c2,v2⟩))/\Below w.heap.size w w':=by
 have HX:=Qh hx0;have HY:=Qh hy0;clear hx0 hy0
 cases g1:mvB ⟨r1,c1,v1⟩
 ·have es:dfB ⟨r1,c1,v1⟩ ⟨r2,c2,v2⟩=false:=by unfold dfB;rw[g1];simp[bS]
  rw[es];clear es;refine zE ?_;intro u1 H;refine zB (aw r1 c1 v1 A1 n1 p1 u1 (SI.below HX.out H.O) (by omega)) ?_;clear H;intro w2 u2 H
  refine zR ?_;clear H;intro u3 H
  exact⟨rfl,H.O⟩
 cases g2:mvB ⟨r2,c2,v2⟩
 ·have es:dfB ⟨r1,c1,v1⟩ ⟨r2,c2,v2⟩=false:=by unfold dfB;rw[g1,g2];simp[bS]
  rw[es];clear es;refine zE ?_;intro u1 H;refine zB (aw r1 c1 v1 A1 n1 p1 u1 (SI.below HX.out H.O) (by omega)) ?_;clear H;intro w2 u2 H
  refine zB (aw r2 c2 v2 A2 n2 p2 u2 (SI.below HY.out H.O) (by omega)) ?_;clear H;intro w3 u3 H
  refine zR ?_;clear H;intro u4 H
  exact⟨rfl,H.O⟩
 by_cases h1:c2=1
 ·by_cases h2:r2=r1
  ·have es:dfB ⟨r1,c1,v1⟩ ⟨r2,c2,v2⟩=true:=by unfold dfB;rw[g1,g2];simp[bS,h1,h2]
   rw[es];clear es;have e1:(c2 == 1)=true:=by simp[h1]
   have e2:(r2 == r1)=true:=by simp[h2]
   clear h1 h2;refine zE ?_;intro u1 H;refine zB (aw r1 c1 v1 A1 n1 p1 u1 (SI.below HX.out H.O) (by omega)) ?_;clear H;intro w2 u2 H
   refine zB (aw r2 c2 v2 A2 n2 p2 u2 (SI.below HY.out H.O) (by omega)) ?_;clear H;intro w3 u3 H
   refine zR ?_;clear H;intro u4 H
   exact⟨rfl,H.O⟩
  ·have es:dfB ⟨r1,c1,v1⟩ ⟨r2,c2,v2⟩=false:=by unfold dfB;rw[g1,g2];simp[bS,h1,h2]
   rw[es];clear es;have e1:(c2 == 1)=true:=by simp[h1]
   have e2:(r2 == r1)=false:=by simp[h2]
   clear h1 h2;refine zE ?_;intro u1 H;refine zB (aw r1 c1 v1 A1 n1 p1 u1 (SI.below HX.out H.O) (by omega)) ?_;clear H;intro w2 u2 H
   refine zB (aw r2 c2 v2 A2 n2 p2 u2 (SI.below HY.out H.O) (by omega)) ?_;clear H;intro w3 u3 H
   refine zR ?_;clear H;intro u4 H
   exact⟨rfl,H.O⟩
 ·have es:dfB ⟨r1,c1,v1⟩ ⟨r2,c2,v2⟩=false:=by unfold dfB;rw[g1,g2];simp[bS,h1]
  rw[es];clear es;have e1:(c2 == 1)=false:=by simp[h1]
  clear h1;refine zE ?_;intro u1 H;refine zB (aw r1 c1 v1 A1 n1 p1 u1 (SI.below HX.out H.O) (by omega)) ?_;clear H;intro w2 u2 H
  refine zB (aw r2 c2 v2 A2 n2 p2 u2 (SI.below HY.out H.O) (by omega)) ?_;clear H;intro w3 u3 H
  refine zR ?_;clear H;intro u4 H
  exact⟨rfl,H.O⟩
section
structure Elt (α:Type) where
 s:Nat
 P:World->List Value->α->List Nat->Prop
 len:∀ w cs x F,P w cs x F->cs.length=s
 au:∀ w w' cs x F,P w cs x F->(∀ g,g∈F->w'.heap[g]?=w.heap[g]?)->P w' cs x F
 lt:∀ w cs x F,P w cs x F->∀ g,g∈F->g<w.heap.size
theorem nQ {w w':World} {g:Nat} (hl:g<w.heap.size) (h:w'.heap[g]?=w.heap[g]?):g<w'.heap.size:=by
 rw[Array.getElem?_eq_getElem hl] at h;rcases Nat.lt_or_ge g w'.heap.size with hlt|hge
 ·exact hlt
 ·rw[Array.getElem?_eq_none hge] at h;cases h
def dJ {α:Type} (E:Elt α) (w:World):List (List Value)->List α->List Nat->Prop
 | [],[],F=>F=[]
 | cs::css,x::xs,F=>∃ F1 F2,F=F1++F2/\E.P w cs x F1/\dJ E w css xs F2
 | [],_::_,_=>False
 | _::_,[],_=>False
section
variable {α:Type} {E:Elt α} {w w':World}
theorem dJ.length:∀ {css:List (List Value)} {xs:List α} {F:List Nat},dJ E w css xs F->css.length=xs.length
 | [],[],_,_=>rfl
 | _::_,_::_,_,⟨_,_,_,_,h⟩=>by simp[dJ.length h]
theorem dJ.au:∀ {css:List (List Value)} {xs:List α} {F:List Nat},dJ E w css xs F->(∀ g,g∈F->w'.heap[g]?=w.heap[g]?)->dJ E w' css xs F
 | [],[],_,h,_=>h
 | _::_,_::_,_,⟨F1,F2,e,h1,h2⟩,hk=>⟨F1,F2,e,E.au _ _ _ _ _ h1 (fun g hg=>hk g (by rw[e];exact List.mem_append_left _ hg)),h2.au (fun g hg=>hk g (by rw[e];exact List.mem_append_right _ hg))⟩
theorem dJ.lt:∀ {css:List (List Value)} {xs:List α} {F:List Nat},dJ E w css xs F->∀ g,g∈F->g<w.heap.size
 | [],[],F,h,g,hg=>by
  have h':F=[]:=h;rw[h'] at hg;cases hg
 | _::_,_::_,_,⟨F1,F2,e,h1,h2⟩,g,hg=>by
  rw[e] at hg;rcases List.mem_append.1 hg with h|h
  ·exact E.lt _ _ _ _ h1 g h
  ·exact h2.lt g h
theorem dJ.push:∀ {css:List (List Value)} {xs:List α} {F F1:List Nat} {cs:List Value} {x:α},dJ E w css xs F->E.P w cs x F1->dJ E w (css++[cs]) (xs++[x]) (F++F1)
 | [],[],F,F1,_,_,h,h1=>by
  have h':F=[]:=h
  exact⟨F1,[],by simp[h'],h1,rfl⟩
 | _::_,_::_,_,F1,_,_,⟨Fa,Fb,e,ha,hb⟩,h1=>⟨Fa,Fb++F1,by rw[e,List.append_assoc],ha,hb.push h1⟩
theorem dJ.at:∀ {css:List (List Value)} {xs:List α} {F:List Nat},dJ E w css xs F->∀ (i:Nat) (x:α),xs[i]?=some x->∃ cs F',css[i]?=some cs/\(∀ g,g∈F'->g∈F)/\E.P w cs x F'
 | [],[],_,_,i,x,hx=>by cases hx
 | cs::_,y::_,_,⟨F1,F2,e,h1,h2⟩,0,x,hx=>by
  have:y=x:=by simpa using hx
  subst this
  exact⟨cs,F1,rfl,fun g hg=>by rw[e];exact List.mem_append_left _ hg,h1⟩
 | _::_,_::_,_,⟨F1,F2,e,h1,h2⟩,i+1,x,hx=>by
  obtain⟨cs,F',e1,e2,e3⟩:=h2.at i x (by simpa using hx)
  exact⟨cs,F',by simpa using e1,fun g hg=>by rw[e];exact List.mem_append_right _ (e2 g hg),e3⟩
theorem dJ.lens:∀ {css:List (List Value)} {xs:List α} {F:List Nat},dJ E w css xs F->∀ cs,cs∈css->cs.length=E.s
 | [],[],_,_,cs,h=>by cases h
 | c::_,_::_,_,⟨_,_,_,h1,h2⟩,cs,h=>by
  rcases List.mem_cons.1 h with rfl|h
  ·exact E.len _ _ _ _ h1
  ·exact h2.lens cs h
end
theorem iG {s:Nat}:∀ {css:List (List Value)} {rest:List Value} (h:∀ cs,cs∈css->cs.length=s) (i:Nat) (cs:List Value),css[i]?=some cs->∀ j,j<s->(css.flatten++rest)[i*s+j]?=cs[j]?
 | [],_,_,i,cs,hi,_,_=>by cases hi
 | c::css,rest,h,0,cs,hi,j,hj=>by
  have e:c=cs:=by simpa using hi
  subst e;have hl:=h c (List.mem_cons_self ..);rw[List.flatten_cons,List.append_assoc,Nat.zero_mul,Nat.zero_add,List.getElem?_append_left (by omega)]
 | c::css,rest,h,i+1,cs,hi,j,hj=>by
  have hl:=h c (List.mem_cons_self ..);have ih:=iG (rest:=rest) (css:=css) (fun x hx=>h x (List.mem_cons_of_mem _ hx)) i cs (by simpa using hi) j hj
  rw[List.flatten_cons,List.append_assoc,List.getElem?_append_right (by rw[hl,Nat.succ_mul];omega),hl,<-ih]
  congr 1
  rw[Nat.succ_mul];omega
def RI {α:Type} (E:Elt α) (w:World) (A:Option Addr) (n cap:Nat) (xs:List α) (F:List Nat):Prop :=
 xs.length=n/\n<=cap/\cap<=maxLen/\((n=0/\F=[])\/∃ b off css F',A=some ⟨b,off,none⟩/\b<w.heap.size/\F=b::F'/\dJ E w css xs F'/\∀ i cs,css[i]?=some cs->∀ j,j<E.s->w.cell? ⟨b,off+(i*E.s+j),none⟩=cs[j]?)
section
variable {α:Type} {E:Elt α} {w w':World} {A:Option Addr} {n cap:Nat} {xs:List α} {F:List Nat}
theorem RI.len (h:RI E w A n cap xs F):xs.length=n:=h.1
theorem RI.au (h:RI E w A n cap xs F) (hk:∀ g,g∈F->w'.heap[g]?=w.heap[g]?):RI E w' A n cap xs F:=by
 obtain⟨h1,h2,h3,h4⟩:=h;refine⟨h1,h2,h3,?_⟩;rcases h4 with h4|⟨b,off,css,F',e,hb,rfl,he,hc⟩
 ·exact .inl h4
 ·have hkb:=hk b (List.mem_cons_self ..)
  exact .inr ⟨b,off,css,F',e,nQ hb hkb,rfl,he.au (fun g hg=>hk g (List.mem_cons_of_mem _ hg)),fun i cs hi j hj=>(World.cell?_of_block (w:=w) hkb).trans (hc i cs hi j hj)⟩
theorem RI.lt (h:RI E w A n cap xs F):∀ g,g∈F->g<w.heap.size:=by
 obtain⟨h1,h2,h3,h4⟩:=h;rcases h4 with⟨_,rfl⟩|⟨b,off,css,F',e,hb,rfl,he,hc⟩
 ·intro g hg;cases hg
 ·intro g hg;rcases List.mem_cons.1 hg with rfl|hg
  ·exact hb
  ·exact he.lt g hg
theorem RI.below (h:RI E w A n cap xs F) (hb:Below w.heap.size w w'):RI E w' A n cap xs F:=h.au fun g hg=>hb.block g (h.lt g hg)
theorem RI.alloc (h:RI E w A n cap xs F) (o:Obj):RI E (w.alloc o) A n cap xs F:=h.au fun g hg=>Below.heap_alloc w o g (h.lt g hg)
theorem RI.nil (w:World) (A:Option Addr) {cap:Nat} (hc:cap<=maxLen):RI E w A 0 cap [] []:=⟨rfl,Nat.zero_le _,hc,.inl ⟨rfl,rfl⟩⟩
theorem RI.at (h:RI E w A n cap xs F) {i:Nat} {x:α} (hx:xs[i]?=some x):∃ b off cs F',A=some ⟨b,off,none⟩/\b<w.heap.size/\(∀ j,j<E.s->w.cell? ⟨b,off+(i*E.s+j),none⟩=cs[j]?)/\(∀ g,g∈F'->g∈F)/\E.P w cs x F':=by
 obtain⟨h1,h2,h3,h4⟩:=h;rcases h4 with⟨h0,_⟩|⟨b,off,css,F',e,hb,rfl,he,hc⟩
 ·have:xs=[]:=List.eq_nil_of_length_eq_zero (by omega)
  rw[this] at hx;cases hx
 ·obtain⟨cs,F1,e1,e2,e3⟩:=he.at i x hx
  exact⟨b,off,cs,F1,e,hb,fun j hj=>hc i cs e1 j hj,fun g hg=>List.mem_cons_of_mem _ (e2 g hg),e3⟩
end
def Fr (w:World) (base:Nat) (F:List Nat):Prop:=F.Nodup/\∀ g,g∈F->base<=g/\∃ t cs,Blk w g t cs/\t≠25
section
variable {w w':World} {base base':Nat} {F G:List Nat}
theorem Fr.nil (w:World) (base:Nat):Fr w base []:=⟨List.nodup_nil,fun g hg=>by cases hg⟩
theorem Fr.au (h:Fr w base F) (hk:∀ g,g∈F->w'.heap[g]?=w.heap[g]?):Fr w' base F:=⟨h.1,fun g hg=>by
 obtain⟨h1,t,cs,h2,h3⟩:=h.2 g hg
 exact⟨h1,t,cs,(hk g hg).trans h2,h3⟩⟩
theorem Fr.lt (h:Fr w base F):∀ g,g∈F->g<w.heap.size:=fun g hg=>by obtain⟨_,t,cs,h2,_⟩:=h.2 g hg;exact h2.lt
theorem Fr.below (h:Fr w base F) (hb:Below w.heap.size w w'):Fr w' base F:=h.au fun g hg=>hb.block g (h.lt g hg)
theorem Fr.mono (h:Fr w base F) (hb:base'<=base):Fr w base' F:=⟨h.1,fun g hg=>by obtain⟨h1,h2⟩:=h.2 g hg;exact⟨Nat.le_trans hb h1,h2⟩⟩
theorem Fr.app (h:Fr w base F) (k:Fr w base G) (hd:∀ g,g∈F->g∈G->False):Fr w base (F++G) :=
 ⟨List.nodup_append.2 ⟨h.1,k.1,fun a ha b hb e=>hd a ha (e ▸ hb)⟩,fun g hg=>(List.mem_append.1 hg).elim (h.2 g) (k.2 g)⟩
theorem Fr.one {g:Nat} {t:TypeId} {cs:Array Value} (h:Blk w g t cs) (hb:base<=g) (ht:t≠25:=by decide):Fr w base [g] :=
 ⟨List.nodup_cons.2 ⟨fun h=>(by cases h),List.nodup_nil⟩,fun x hx=>by
  have:x=g:=by simpa using hx
  subst this
  exact⟨hb,t,cs,h,ht⟩⟩
theorem Fr.cons {g:Nat} {t:TypeId} {cs:Array Value} (h:Blk w g t cs) (hb:base<=g) (k:Fr w base F) (hn:g∉F) (ht:t≠25:=by decide):Fr w base (g::F):=by
 have:=(Fr.one h hb ht).app k (fun x hx hF=>hn (by have e:x=g:=(by simpa using hx);rw[<-e];exact hF))
 simpa using this
end
def fpI (A:Option Addr) (n:Nat):List Nat:=if n=0 then [] else (blk A).toList
theorem bz {A:Option Addr} {n g:Nat} (h:g∈fpI A n):0<n/\blk A=some g:=by
 unfold fpI at h
 split at h
 ·cases h
 ·exact⟨by omega,by simpa using h⟩
theorem uw {w w':World} {A:Option Addr} {n:Nat} {v:List Int} (h:SI w A n v) (hk:∀ g,g∈fpI A n->w'.heap[g]?=w.heap[g]?):SI w' A n v :=
 ⟨h.1,fun hn=>by
  obtain⟨b,off,rfl,hb,hc⟩:=h.2 hn;have hk':=hk b (by unfold fpI;rw[if_neg (by omega)];simp[blk])
  exact⟨b,off,rfl,nQ hb hk',fun i hi=>(World.cell?_of_block (w:=w) hk').trans (hc i hi)⟩⟩
theorem Cb {w:World} {A:Option Addr} {n:Nat} {v:List Int} (h:SI w A n v):∀ g,g∈fpI A n->g<w.heap.size:=fun g hg=>by
 obtain⟨hn,hb⟩:=bz hg
 exact h.aj hn g hb
theorem ek {w:World} {base n c:Nat} {A:Option Addr} {v:List Int} (h:OS w base A n c v):Fr w base (fpI A n):=by
 unfold fpI
 split
 ·exact Fr.nil w base
 ·rcases h.2 with⟨e,e'⟩|⟨g,c',cur,e,hb,hh,_⟩
  ·omega
  ·injection e with e1;subst e1
   exact Fr.one (g:=g) hh hb
def MF (w:World) (A:Option Addr) (c:Nat) (m:Mx) (F:List Nat):Prop:=SI w A m.v.length m.v/\m.v.length<=c/\c<=maxLen/\F=fpI A m.v.length
theorem MF.au {w w':World} {A:Option Addr} {c:Nat} {m:Mx} {F:List Nat} (h:MF w A c m F) (hk:∀ g,g∈F->w'.heap[g]?=w.heap[g]?):MF w' A c m F:=by
 obtain⟨h1,h2,h3,rfl⟩:=h
 exact⟨uw h1 hk,h2,h3,rfl⟩
theorem MF.lt {w:World} {A:Option Addr} {c:Nat} {m:Mx} {F:List Nat} (h:MF w A c m F):∀ g,g∈F->g<w.heap.size:=by
 obtain⟨h1,h2,h3,rfl⟩:=h
 exact Cb h1
theorem MF.aB {w:World} {base c:Nat} {A:Option Addr} {m:Mx} (h:OS w base A m.v.length c m.v):MF w A c m (fpI A m.v.length):=⟨h.si,h.dC.1,h.dC.2,rfl⟩
def mxE:Elt Mx where
 s:=3
 P:=fun w cs m F=>∃ A c,cs=[.int .i64 m.r,.int .i64 m.c,.slice A m.v.length c]/\MF w A c m F
 len:=by rintro w cs x F ⟨A,c,rfl,_⟩;rfl
 au:=by rintro w w' cs x F ⟨A,c,rfl,h⟩ hk;exact⟨A,c,rfl,h.au hk⟩
 lt:=by rintro w cs x F ⟨A,c,rfl,h⟩;exact h.lt
def smE:Elt (Mx×Mx) where
 s:=6
 P:=fun w cs p F=>∃ A c B d F1 F2,cs=[.int .i64 p.1.r,.int .i64 p.1.c,.slice A p.1.v.length c,.int .i64 p.2.r,.int .i64 p.2.c,.slice B p.2.v.length d]/\MF w A c p.1 F1/\MF w B d p.2 F2/\F=F1++F2
 len:=by rintro w cs x F ⟨A,c,B,d,F1,F2,rfl,_⟩;rfl
 au:=by
  rintro w w' cs x F ⟨A,c,B,d,F1,F2,rfl,h1,h2,rfl⟩ hk
  exact⟨A,c,B,d,F1,F2,rfl,h1.au (fun g hg=>hk g (List.mem_append_left _ hg)),h2.au (fun g hg=>hk g (List.mem_append_right _ hg)),rfl⟩
 lt:=by
  rintro w cs x F ⟨A,c,B,d,F1,F2,rfl,h1,h2,rfl⟩ g hg
  exact(List.mem_append.1 hg).elim (h1.lt g) (h2.lt g)
def kE {α:Type} (E:Elt α):Elt (Int×List α) where
 s:=2
 P:=fun w cs x F=>∃ A c,cs=[.int .i64 x.1,.slice A x.2.length c]/\RI E w A x.2.length c x.2 F
 len:=by rintro w cs x F ⟨A,c,rfl,_⟩;rfl
 au:=by rintro w w' cs x F ⟨A,c,rfl,h⟩ hk;exact⟨A,c,rfl,h.au hk⟩
 lt:=by rintro w cs x F ⟨A,c,rfl,h⟩;exact h.lt
def OX {α:Type} (E:Elt α) (w:World) (base:Nat) (T:TypeId) (A:Option Addr) (n cap:Nat) (css:List (List Value)) (xs:List α) (F:List Nat):Prop :=
 VO w base T E.s A n cap css.flatten/\xs.length=n/\dJ E w css xs F/\Fr w base F/\∀ g,blk A=some g->g∉F
section
variable {α:Type} {E:Elt α} {w w' wr w1:World} {base base' n cap k c g cap' m:Nat} {T:TypeId} {A:Option Addr} {css:List (List Value)} {xs:List α} {F F1:List Nat} {ys:List Value} {x:α} {o:Obj}
theorem OX.lt (h:OX E w base T A n cap css xs F):∀ g,g∈F->g<w.heap.size:=h.2.2.1.lt
theorem OX.au (h:OX E w base T A n cap css xs F) (hs:w.heap.size<=w'.heap.size) (hk:∀ g,g<w.heap.size->(blk A=some g\/g∈F)->w'.heap[g]?=w.heap[g]?):OX E w' base T A n cap css xs F :=
 ⟨h.1.au hs fun g hg hl=>hk g hl (.inl hg),h.2.1,h.2.2.1.au fun g hg=>hk g (h.lt g hg) (.inr hg),h.2.2.2.1.au fun g hg=>hk g (h.lt g hg) (.inr hg),h.2.2.2.2⟩
theorem OX.below (h:OX E w base T A n cap css xs F) (hb:Below w.heap.size w w'):OX E w' base T A n cap css xs F:=h.au hb.size fun g hl _=>hb.block g hl
theorem OX.alloc (h:OX E w base T A n cap css xs F) (o:Obj):OX E (w.alloc o) base T A n cap css xs F:=h.au (by simp) fun g hl _=>Below.heap_alloc w o g hl
theorem OX.drewN (h:OX E w base T A n cap css xs F) (q:Nat):OX E (w.drewN q) base T A n cap css xs F:=h.au Ql fun g hl _=>rfl
theorem OX.aj (h:OX E w base T A n cap css xs F):∀ g,blk A=some g->base<=g/\g<w.heap.size:=h.1.aj
theorem OX.lX {p:Addr} (h:OX E w base T A n cap css xs F) (hp:p.block<base) (u:Value):OX E (w.setCell p u) base T A n cap css xs F :=
 h.au (by simp[World.setCell]) fun g hl hg=>Below.heap_setCell w p u g (by
  rcases hg with hg|hg
  ·have:=(h.aj g hg).1;omega
  ·have:=(h.2.2.2.1.2 g hg).1;omega)
theorem OX.nil (w:World) (base:Nat) (T:TypeId):OX E w base T none 0 0 [] [] []:=⟨by have:=VO.nil w base T E.s;simpa using this,rfl,rfl,Fr.nil w base,fun g hg=>by cases hg⟩
theorem OX.kG (w:World) (hb:base<=w.heap.size) (T:TypeId):OX E (w.alloc (.cells #[] T)) base T (some ⟨w.heap.size,0,none⟩) 0 0 [] [] []:=⟨by have:=VO.kG w hb T E.s;simpa using this,rfl,rfl,Fr.nil _ base,fun g _ hg=>by cases hg⟩
theorem OX.mono (h:OX E w base T A n cap css xs F) (hb:base'<=base):OX E w base' T A n cap css xs F:=⟨h.1.mono hb,h.2.1,h.2.2.1,h.2.2.2.1.mono hb,h.2.2.2.2⟩
theorem OX.dC (h:OX E w base T A n cap css xs F):n<=cap/\cap<=maxLen:=h.1.dC
theorem OX.ri (h:OX E w base T A n cap css xs F) (hT:T≠25:=by decide):∃ F',RI E w A n cap xs F'/\Fr w base F':=by
 obtain⟨h1,h2,h3,h4,h5⟩:=h;have hc:=h1.dC
 by_cases hn:n=0
 ·subst hn;have:xs=[]:=List.eq_nil_of_length_eq_zero h2;subst this
  exact⟨[],⟨rfl,Nat.zero_le _,hc.2,.inl ⟨rfl,rfl⟩⟩,Fr.nil w base⟩
 ·obtain⟨g,rfl,hb,hg⟩:=h1.pos (by omega)
  obtain⟨cs,hblk⟩:∃ cs,Blk w g T cs:=by
   rcases h1.2 with⟨e,e'⟩|⟨g',c',cur,e,_,hh,_⟩
   ·omega
   ·injection e with e1;injection e1 with e1;injection e1 with e1;subst e1
    exact⟨_,hh⟩
  refine⟨g::F,⟨h2,hc.1,hc.2,.inr ⟨g,0,css,F,rfl,hg,rfl,h3,fun i cs hi j hj=>?_⟩⟩,Fr.cons hblk hb h4 (h5 g rfl) hT⟩
  have hil:i<n:=by
   have:=(List.getElem?_eq_some_iff.1 hi).1;rw[h3.length,h2] at this
   exact this
  have hlt:i*E.s+j<n*E.s:=by
   have:(i+1)*E.s<=n*E.s:=Nat.mul_le_mul_right _ hil;rw[Nat.succ_mul] at this
   omega
  rw[Nat.zero_add,h1.cell _ hlt];have:=iG (rest:=[]) h3.lens i cs hi j hj
  rwa [List.append_nil] at this
theorem Fr.zi {g:Nat} {cs:Array Value} (h:Fr w base F) (hb:Blk w g 25 cs):g∉F:=fun hg=>by
 obtain⟨_,t,cs',h2,h3⟩:=h.2 g hg;unfold Blk at hb h2;rw[hb] at h2;injection h2 with h2;injection h2 with _ h2
 exact h3 h2.symm
theorem OX.push {B:Nat} (h:OX E wr base T A k c css xs F) (hx:E.P wr ys x F1) (hf:Fr wr base F1) (hd:∀ g,g∈F1->g∉F/\blk A≠some g) (hb:Below B w wr) (hB:B<=base) (hbs:base<=wr.heap.size)
  (hown:w1.ownsRow base T E.s (.slice (some ⟨g,0,none⟩) (k+1) cap') (k+1) (css.flatten++ys)) (hg:(wr.alloc o).grownBy w1 (Value.slice A k c).ownBlock)
  (hat:(Value.slice A k c).ownBlock=some g\/g=wr.heap.size+1) :
  OX E w1 base T (some ⟨g,0,none⟩) (k+1) cap' (css++[ys]) (xs++[x]) (F++F1)/\Below B w w1/\bJ A wr w1:=by
 obtain⟨v1,v2,v3,v4⟩:=VO.push h.1 hb hB hbs hown hg hat;have hk:∀ g',g'<wr.heap.size->blk A≠some g'->w1.heap[g']?=wr.heap[g']?:=fun g' hl hne=>v3.block g' hl (fun e=>hne e.symm)
 have hFA:∀ g',g'∈F->blk A≠some g':=fun g' hg' e=>h.2.2.2.2 g' e hg'
 refine⟨⟨by rw[List.flatten_append];simpa using v1,by rw[List.length_append,h.2.1];rfl,?_,?_,?_⟩,v2,v3⟩
 ·exact(h.2.2.1.au fun g' hg'=>hk g' (h.lt g' hg') (hFA g' hg')).push (E.au _ _ _ _ _ hx fun g' hg'=>hk g' (E.lt _ _ _ _ hx g' hg') (hd g' hg').2)
 ·exact(h.2.2.2.1.au fun g' hg'=>hk g' (h.lt g' hg') (hFA g' hg')).app (hf.au fun g' hg'=>hk g' (hf.lt g' hg') (hd g' hg').2) (fun g' h1 h2=>(hd g' h2).1 h1)
 ·intro g' hg' hF;have e:g=g':=by simpa [blk] using hg'
  subst e;rcases v4 with h4|h4
  ·rcases List.mem_append.1 hF with hF|hF
   ·exact hFA g hF h4
   ·exact(hd g hF).2 h4
  ·rcases List.mem_append.1 hF with hF|hF
   ·have:=h.lt g hF;omega
   ·have:=hf.lt g hF;omega
end
end
@[reducible] def SMV (r1 c1:Int) (A1:Option Addr) (n1 p1:Nat) (r2 c2:Int) (A2:Option Addr) (n2 p2:Nat):Value:= .agg #[.int .i64 r1,.int .i64 c1,.slice A1 n1 p1,.int .i64 r2,.int .i64 c2,.slice A2 n2 p2]
def Br (a b:Mx) (w:World) (e:Ending) (w':World):Prop:=∃ (A B:Option Addr) (c d:Nat),e= .returned (SMV a.r a.c A a.v.length c b.r b.c B b.v.length d)/\OS w' w.heap.size A a.v.length c a.v/\OS w' w.heap.size B b.v.length d b.v/\eJ A B/\Below w.heap.size w w'
theorem dR (r1 c1 r2 c2:Int) (v1 v2:List Int) (A1 A2:Option Addr) (n1 p1 n2 p2:Nat) (w:World) (hx0:SI w A1 n1 v1) (hy0:SI w A2 n2 v2) (bn:n1<=1048576) (bm:n2<=1048576) :
  Calls prog 95 #[SMV r1 c1 A1 n1 p1 r2 c2 A2 n2 p2] w (Br ⟨r1,c1,v1⟩ ⟨r2,c2,v2⟩ w):=by
 have HX:=Qh hx0;have HY:=Qh hy0;clear hx0 hy0;refine zE ?_;intro u1 H;refine zG (aQ r1 c1 v1 A1 n1 p1 u1 (SI.below HX.out H.O) bn) ?_;rintro e w2 ⟨Aa,ca,rfl,os,hb⟩;replace H:=H.os hb os
 dsimp only at H ⊢
 refine zN ?_;clear H;intro u3 H;refine zG (aQ r2 c2 v2 A2 n2 p2 u3 (SI.below HY.out H.O) bm) ?_;rintro e w4 ⟨Ab,cb,rfl,os,hb⟩;replace H:=H.os hb os
 dsimp only at H ⊢
 refine zS_ ?_;clear H;intro u5 H
 exact⟨_,_,_,_,rfl,(H.o 1),(H.o 0),fun g h1 h2=>H.noo 1 0 g h1 h2,H.O⟩
def sP {α:Type} (E:Elt α) (x:α) (w:World) (e:Ending) (w':World):Prop:=∃ cs F,e= .returned (.agg cs.toArray)/\E.P w' cs x F/\Fr w' w.heap.size F/\Below w.heap.size w w'
def jV {α:Type} (E:Elt α) (xs:List α) (w:World) (e:Ending) (w':World):Prop:=∃ A c F,e= .returned (.slice A xs.length c)/\RI E w' A xs.length c xs F/\Fr w' w.heap.size F/\Below w.heap.size w w'
theorem jV.uk {α:Type} {E:Elt α} {w w':World} {T:TypeId} {A:Option Addr} {n c:Nat} {css:List (List Value)} {xs:List α} {F:List Nat} (h:OX E w' w.heap.size T A n c css xs F) (hb:Below w.heap.size w w') (hT:T≠25:=by decide):jV E xs w (.returned (.slice A n c)) w':=by
 obtain⟨F',h1,h2⟩:=h.ri hT;obtain rfl:=h.2.1
 exact⟨A,c,F',rfl,h1,h2,hb⟩
theorem RI.cells {α:Type} {E:Elt α} {w:World} {A:Option Addr} {n cap:Nat} {xs:List α} {F:List Nat} (h:RI E w A n cap xs F) {i:Nat} {x:α} (hx:xs[i]?=some x) (m:Nat) (hm:E.s=m) :
  ∃ b off cs F',A=some ⟨b,off,none⟩/\b<w.heap.size/\(∀ j,j<m->w.cell? ⟨b,off+i*m+j,none⟩=cs[j]?)/\(∀ g,g∈F'->g∈F)/\E.P w cs x F':=by
 subst hm;obtain⟨b,off,cs,F',e,hb,hc,hF,hp⟩:=h.at hx
 exact⟨b,off,cs,F',e,hb,fun j hj=>by rw[Nat.add_assoc];exact hc j hj,hF,hp⟩
theorem aH {α:Type} {xs:List α} {j:Nat} (h:j<xs.length):∃ x,xs[j]?=some x/\x∈xs:=⟨xs[j],List.getElem?_eq_getElem h,List.getElem_mem h⟩
theorem aW {α:Type} {xs:List α} {j:Nat} {x:α} (h:xs[j]?=some x):xs.take (j+1)=xs.take j++[x]:=by
 obtain⟨hl,rfl⟩:=List.getElem?_eq_some_iff.1 h
 exact(List.take_append_getElem hl).symm
def mS (m:Mx):Prop:=m.v.length<=1048576
def smS (p:Mx×Mx):Prop:=mS p.1/\mS p.2
def kS {α:Type} (S:α->Prop) (l:Int×List α):Prop:=l.2.length<=1048576/\∀ p,p∈l.2->S p
def gG {α:Type} (S:α->Prop) (l:List α):Prop:=l.length<=1048576/\∀ p,p∈l->S p
theorem rI:(prog.info? 37).map (fun i=>(i.zero,i.size,i.bytes))=some (some (.agg #[.int .i64 0,.int .i64 0,.slice none 0 0]),3,40):=by kernel_rfl
theorem lq:(prog.info? 82).map (fun i=>(i.zero,i.size,i.bytes))=some (some (.agg #[.int .i64 0,.int .i64 0,.slice none 0 0,.int .i64 0,.int .i64 0,.slice none 0 0]),6,80):=by kernel_rfl
theorem we:(prog.info? 80).map (fun i=>(i.zero,i.size,i.bytes))=some (some (.agg #[.int .i64 0,.slice none 0 0]),2,32):=by kernel_rfl
theorem nJ:(prog.info? 99).map (fun i=>(i.zero,i.size,i.bytes))=some (some (.agg #[.int .i64 0,.slice none 0 0]),2,32):=by kernel_rfl
theorem BZ (W:World) (cs:List Value) (x:Mx) (F:List Nat) (h:mxE.P W cs x F) (b:mS x):Calls prog 92 #[.agg cs.toArray] W (sP mxE x W):=by
 obtain⟨A,c,rfl,h1⟩:=h;refine(aQ x.r x.c x.v A _ c W h1.1 b).mono ?_;rintro e w' ⟨A',c',rfl,o1,hb⟩
 exact⟨_,_,rfl,⟨A',c',rfl,MF.aB o1⟩,ek o1,hb⟩
theorem AT (W:World) (cs:List Value) (x:Mx×Mx) (F:List Nat) (h:smE.P W cs x F) (b:smS x):Calls prog 95 #[.agg cs.toArray] W (sP smE x W):=by
 obtain⟨A,c,B,d,F1,F2,rfl,h1,h2,_⟩:=h;refine(dR x.1.r x.1.c x.2.r x.2.c x.1.v x.2.v A B _ c _ d W h1.1 h2.1 b.1 b.2).mono ?_;rintro e w' ⟨A',B',c',d',rfl,o1,o2,ap,hb⟩
 exact⟨_,_,rfl,⟨A',c',B',d',_,_,rfl,MF.aB o1,MF.aB o2,rfl⟩,Fr.app (ek o1) (ek o2) (fun g h1 h2=>ap g (bz h1).2 (bz h2).2),hb⟩
section
theorem uS (z:Array Value) (hz:0<z.size) (n:Nat):(madeCells z (n*z.size)).toList=(List.replicate n z.toList).flatten:=by
 apply List.ext_getElem?
 intro k
 by_cases hk:k<n*z.size
 ·have hi:k/z.size<n:=Nat.div_lt_of_lt_mul (by rwa [Nat.mul_comm] at hk)
  have hj:k%z.size<z.size:=Nat.mod_lt _ hz;have h:=iG (s:=z.size) (css:=List.replicate n z.toList) (rest:=[]) (by intro cs h;rw[List.eq_of_mem_replicate h];simp) (k/z.size) z.toList (by rw[List.getElem?_replicate];simp[hi]) (k%z.size) hj
  rw[List.append_nil,Nat.mul_comm,Nat.div_add_mod] at h;rw[h]
  simp[madeCells,hk,hj]
 ·rw[List.getElem?_eq_none (by simp[size_madeCells];omega),List.getElem?_eq_none]
  rw[List.length_flatten]
  simp
  omega
theorem VO.made (w:World) (T:TypeId) (z:Array Value) (hz:0<z.size) (n:Nat) (hn:n<=maxLen):VO (w.alloc (.cells (madeCells z (n*z.size)) T)) w.heap.size T z.size (some ⟨w.heap.size,0,none⟩) n n (List.replicate n z.toList).flatten:=by
 have h:=World.ownsRow_lit (base:=w.heap.size) (e:=T) (size:=z.size) w (madeCells z (n*z.size)) n Ql hn (by simp[size_madeCells])
 rw[uS z hz n] at h
 exact h
def ZL:Array Value:=#[.int .i64 0,.slice none 0 0]
theorem CG (n:Nat) (hn:n<=1048576) (w:World):(Instr.makeSlice 32 (.int .i64 (n:Int)) (.int .i64 (n:Int))).run prog w= .ok (.slice (some ⟨w.heap.size,0,none⟩) n n) (w.alloc (.cells (madeCells ZL (n*ZL.size)) 80)):=by
 obtain⟨i,hi,hz,h1,h8⟩:=info_parts we;have h:=run_make (P:=prog) w 32 80 i _ underlying32 hi hz .i64 .i64 (n:Int) (n:Int) (by omega) (Int.le_refl _) (by rw[h8];omega) (by omega)
 rw[h,h1];simp only[Int.toNat_natCast]
 rfl
theorem zf (n:Nat) (hn:n<=1048576) (w:World):(Instr.makeSlice 23 (.int .i64 (n:Int)) (.int .i64 (n:Int))).run prog w= .ok (.slice (some ⟨w.heap.size,0,none⟩) n n) (w.alloc (.cells (madeCells ZL (n*ZL.size)) 99)):=by
 obtain⟨i,hi,hz,h1,h8⟩:=info_parts nJ;have h:=run_make (P:=prog) w 23 99 i _ underlying23 hi hz .i64 .i64 (n:Int) (n:Int) (by omega) (Int.le_refl _) (by rw[h8];omega) (by omega)
 rw[h,h1];simp only[Int.toNat_natCast]
 rfl
def FX {α:Type} (E:Elt α) (w:World) (base:Nat) (T:TypeId) (g n:Nat) (css:List (List Value)) (rest:List Value) (xs:List α) (F:List Nat):Prop :=
 VO w base T E.s (some ⟨g,0,none⟩) n n (css.flatten++rest)/\dJ E w css xs F/\Fr w base F/\g∉F
theorem dS {α:Type} {E:Elt α} {w:World} {css:List (List Value)} {xs:List α} {F:List Nat} (h:dJ E w css xs F):css.flatten.length=xs.length*E.s:=by
 have:∀ {css:List (List Value)},(∀ cs,cs∈css->cs.length=E.s)->css.flatten.length=css.length*E.s:=by
  intro css
  induction css with
  | nil=>intro _;simp
  | cons c l ih =>
   intro hl;rw[List.flatten_cons,List.length_append,ih (fun cs h=>hl cs (List.mem_cons_of_mem _ h)),hl c (List.mem_cons_self ..),List.length_cons,Nat.succ_mul]
   omega
 rw[this h.lens,h.length]
section
variable {α:Type} {E:Elt α} {w w':World} {base base' g n:Nat} {T:TypeId} {css:List (List Value)} {rest:List Value} {xs:List α} {F F1:List Nat} {ys:List Value} {x:α}
theorem FX.made (w:World) (T:TypeId) (z:Array Value) (hz:0<z.size) (hs:E.s=z.size) (n:Nat) (hn:n<=maxLen):FX E (w.alloc (.cells (madeCells z (n*z.size)) T)) w.heap.size T w.heap.size n [] (List.replicate n z.toList).flatten [] [] :=
 ⟨by rw[hs];exact VO.made w T z hz n hn,rfl,Fr.nil _ _,fun h=>by cases h⟩
theorem FX.au (h:FX E w base T g n css rest xs F) (hs:w.heap.size<=w'.heap.size) (hk:∀ g',g'<w.heap.size->(g'=g\/g'∈F)->w'.heap[g']?=w.heap[g']?):FX E w' base T g n css rest xs F :=
 ⟨h.1.au hs fun g' hg hl=>hk g' hl (.inl (by have e:g=g':=(by simpa [blk] using hg);exact e.symm)),h.2.1.au fun g' hg=>hk g' (h.2.1.lt g' hg) (.inr hg),h.2.2.1.au fun g' hg=>hk g' (h.2.1.lt g' hg) (.inr hg),h.2.2.2⟩
theorem FX.below (h:FX E w base T g n css rest xs F) (hb:Below w.heap.size w w'):FX E w' base T g n css rest xs F:=h.au hb.size fun g' hl _=>hb.block g' hl
theorem FX.glt (h:FX E w base T g n css rest xs F):base<=g/\g<w.heap.size:=h.1.aj g rfl
theorem FX.ri (h:FX E w base T g n css [] xs F) (hn:xs.length=n) (hT:T≠25:=by decide):∃ F',RI E w (some ⟨g,0,none⟩) n n xs F'/\Fr w base F':=by
 have h1:=h.1;rw[List.append_nil] at h1
 exact OX.ri ⟨h1,hn,h.2.1,h.2.2.1,fun g' hg=>(by have e:g=g':=(by simpa [blk] using hg);rw[<-e];exact h.2.2.2)⟩ hT
theorem FX.put {pre a b:List Value} {u:Value} {j:Nat} (h:VO w base T E.s (some ⟨g,0,none⟩) n n (pre++(a++u::b))) (hj:j=pre.length+a.length) (v:Value):VO (w.setCell ⟨g,j,none⟩ v) base T E.s (some ⟨g,0,none⟩) n n (pre++(a++v::b)):=by
 have:=h.store j v;subst hj;rw[List.set_append_right _ _ (by omega),Nat.add_sub_cancel_left,List.set_append_right _ _ Ql,Nat.sub_self,List.set_cons_zero] at this
 exact this
theorem FX.step (hv:VO w' base T E.s (some ⟨g,0,none⟩) n n (css.flatten++(ys++rest))) (he:dJ E w css xs F) (hf:Fr w base F) (hg:g∉F) (hk:∀ g',g'∈F->w'.heap[g']?=w.heap[g']?)
  (hx:E.P w' ys x F1) (hf1:Fr w' base F1) (hd:∀ g',g'∈F1->g'∉F/\g'≠g):FX E w' base T g n (css++[ys]) rest (xs++[x]) (F++F1) :=
 ⟨by rw[List.flatten_append,List.append_assoc];simpa using hv,(he.au hk).push hx,(hf.au hk).app hf1 (fun g' h1 h2=>(hd g' h2).1 h1),fun h=>(List.mem_append.1 h).elim hg (fun h=>(hd g h).2 rfl)⟩
end
theorem eG {T:TypeId} {s:Nat} {u:Value} {a b:List Value} {wi:World} {gj n base:Nat} {pre:List Value} (h:VO wi base T s (some ⟨gj,0,none⟩) n n (pre++(a++u::b))) {i:Nat} (hi:i=pre.length+a.length):wi.cell? ⟨gj,i,none⟩=some u:=by
 have hl:=h.len;rw[h.cell i (by simp at hl;omega),hi,List.getElem?_append_right (by omega),Nat.add_sub_cancel_left,List.getElem?_append_right Ql,Nat.sub_self]
 rfl
end
section
section
variable {α:Type} {E:Elt α} {w w':World} {base rb n cap:Nat} {A:Option Addr} {T:TypeId} {css:List (List Value)} {xs:List α} {F:List Nat}
theorem RI.only (h:RI E w A n cap xs F) (ho:aZ rb w w') (hf:rb∉F):RI E w' A n cap xs F:=h.au fun g hg=>ho.block g (h.lt g hg) (fun e=>hf (by injection e with e;rw[<-e];exact hg))
theorem Fr.only (h:Fr w base F) (ho:aZ rb w w') (hr:rb<base):Fr w' base F:=h.au fun g hg=>ho.block g (h.lt g hg) (fun e=>by have:=(h.2 g hg).1;injection e;omega)
theorem Fr.not (h:Fr w base F) (hr:rb<base):rb∉F:=fun hg=>by have:=(h.2 rb hg).1;omega
theorem OX.only (h:OX E w base T A n cap css xs F) (ho:aZ rb w w') (hr:rb<base):OX E w' base T A n cap css xs F:=h.au ho.size fun g hl hg=>ho.block g hl (fun e=>by
 injection e with e;rcases hg with hg|hg
 ·have:=(h.aj g hg).1;omega
 ·have:=(h.2.2.2.1.2 g hg).1;omega)
theorem OX.lit (W:World) (hb:base<=W.heap.size) (T:TypeId) (h:dJ E W css xs F) (hf:Fr W base F) (hn:xs.length<=maxLen):OX E (W.alloc (.cells css.flatten.toArray T)) base T (some ⟨W.heap.size,0,none⟩) xs.length xs.length css xs F:=by
 refine⟨?_,rfl,h.au fun g hg=>Below.heap_alloc W _ g (h.lt g hg),hf.au fun g hg=>Below.heap_alloc W _ g (h.lt g hg),fun g hg hF=>?_⟩
 ·have hl:css.flatten.length=xs.length*E.s:=dS h;have:=World.ownsRow_lit (base:=base) (e:=T) (size:=E.s) W css.flatten.toArray xs.length hb hn (by simpa using hl)
  rw[show css.flatten.toArray.toList=css.flatten by simp] at this
  exact this
 ·have e:W.heap.size=g:=by simpa [blk] using hg
  have:=h.lt g hF
  omega
end
def Sdn (w:World) (rb P:Nat) (e:Ending) (w':World):Prop:=∃ v:Int,e= .returned (.int .i64 v)/\Rd w' rb P/\aZ rb w w'
theorem Ea (rb P:Nat) (n:Int) (hn:0<=n/\n<=1000000) (w:World) (h:Rd w rb P) (hP:P<549755813888):Calls prog 74 #[.pointer (some ⟨rb,0,none⟩),.int .i64 n] w (Sdn w rb (P+3)):=by
 have hrw:=h.lt
 go_enter func74,ntmps74
 go_wp2_with fail
 refine(EG rb P n hn w h (by omega)).mono ?_
 rintro e w1 ⟨v,rfl,r1,o1⟩;have t1:=r1.lt;clear h
 cases v
 ·go_wp2_with fail
  refine(FE rb (P+1) 256 w1 r1 (by omega)).mono ?_
  rintro e w2 ⟨v2,rfl,a2,b2,r2,o2⟩;have c2:v2<=255:=by omega
  have t2:=r2.lt;clear b2
  go_wp2_with fail
  refine(FE rb (P+1+1) 6 _ ((r2.alloc _).alloc _) (by omega)).mono ?_
  rintro e w3 ⟨v3,rfl,a3,b3,r3,o3⟩;have c3:v3<6:=by omega
  clear b3;obtain⟨x,hx,x0,x1⟩:=FG [0,0,0,0,1,2] 0 2 (by simp) v3 a3 (by simp;omega)
  obtain⟨y,hy,y0,y1⟩:=FG [1+v2*8000000,1,2147483646] 0 2147483646 (by simp;omega) x x0 (by simp;omega)
  have hcx:w3.cell? ⟨w2.heap.size+1,v3.toNat,none⟩=some (.int .i64 x):=by
   rw[o3.cell (by simp) (by omega)]
   have:=kr (w2.alloc (.cells #[.int .i64 (1+v2*8000000),.int .i64 1,.int .i64 2147483646] 3)) [0,0,0,0,1,2] 3 v3.toNat;rw[hx,World.size_alloc] at this
   exact this
  have hcy:w3.cell? ⟨w2.heap.size,x.toNat,none⟩=some (.int .i64 y):=by
   rw[o3.cell (by simp;omega) (by omega),World.cell?_alloc_lt _ _ _ (by simp)]
   have:=kr w2 [1+v2*8000000,1,2147483646] 3 x.toNat;rw[hy] at this
   exact this
  have O3:=Qh ((o1.trans o2).trans ((((aZ.refl rb w2).alloc _).alloc _).trans o3));clear o1 o2 o3 hx hy r1 r2;have xx:x<3:=by omega
  go_wp2
  go_ret
  exact⟨y,rfl,r3.mono (by omega),O3.out⟩
 ·go_wp2_with fail
  refine(FE rb (P+1) 3 _ (r1.alloc _) (by omega)).mono ?_
  rintro e w2 ⟨v2,rfl,a2,b2,r2,o2⟩;have c2:v2<3:=by omega
  clear b2;obtain⟨y,hy,y0,y1⟩:=FG [0,-1,2147483647] (-1) 2147483647 (by simp) v2 a2 (by simp;omega)
  have hcy:w2.cell? ⟨w1.heap.size,v2.toNat,none⟩=some (.int .i64 y):=by
   rw[o2.cell (by simp) (by omega)]
   have:=kr w1 [0,-1,2147483647] 3 v2.toNat;rw[hy] at this
   exact this
  have O3:=Qh (o1.trans (((aZ.refl rb w1).alloc _).trans o2));clear o1 o2 hy r1;go_wp2
  go_ret
  exact⟨y,rfl,r2.mono (by omega),O3.out⟩
def DLy (w:World) (rb P:Nat) (kd:Int) (e:Ending) (w':World):Prop:=∃ A n c ms F,e= .returned (.agg #[.int .i64 kd,.slice A n c])/\RI mxE w' A n c ms F/\Fr w' w.heap.size F/\n<=3/\(∀ m,m∈ms->m.v.length<=26)/\(kd=1->∃ m0,ms[0]?=some m0/\1<=m0.r/\m0.r<=5)/\Rd w' rb P/\aZ rb w w'
section
variable {w w1 w2 w3 w4:World} {rb:Nat}
theorem MF.only {A:Option Addr} {c:Nat} {m:Mx} {F:List Nat} {base:Nat} (h:MF w A c m F) (hf:∀ g,g∈F->base<=g) (ho:aZ rb w w1) (hr:rb<base):MF w1 A c m F:=h.au fun g hg=>ho.block g (h.lt g hg) (fun e=>by injection e with e;have:=hf g hg;omega)
end
theorem Ef (rb P:Nat) (rows cols:Int) (hr:1<=rows/\rows<=5) (hc:1<=cols/\cols<=5) (w:World) (h:Rd w rb P) (hP:P<900000) :
  Calls prog 161 #[.pointer (some ⟨rb,0,none⟩),.int .i64 1,.int .i64 rows,.int .i64 cols,.int .i64 0] w (DLy w rb (P+700) 1):=by
 obtain⟨u1,hu1⟩:∃ u,u=((w.alloc (.cells #[.int .i64 0,.slice none 0 0] 80)).alloc (.cells #[.int .i64 1,.slice none 0 0] 80)):=⟨_,rfl⟩;have b0_1:Blk u1 w.heap.size 80 #[.int .i64 0,.slice none 0 0]:=by rw[hu1];exact(Blk.new _ _ _).alloc _
 have b1_1:Blk u1 (w.heap.size+1) 80 #[.int .i64 1,.slice none 0 0]:=by rw[hu1];have h:=Blk.new (w.alloc (.cells #[.int .i64 0,.slice none 0 0] 80)) 80 #[.int .i64 1,.slice none 0 0];simpa using h
 have r_1:Rd u1 rb P:=by rw[hu1];exact(h.alloc _).alloc _
 have o_1:aZ rb w u1:=by rw[hu1];exact((aZ.refl rb w).alloc _).alloc _
 have hrw:=h.lt;clear h
 go_enter func161,ntmps161
 go_wp2_with fail
 rw[<-hu1];have s_1:w.heap.size+2<=u1.heap.size:=by rw[hu1];simp
 clear hu1;refine(FE rb P 3 u1 r_1 (by omega)).mono ?_
 rintro e w2 ⟨v,rfl,v0,v1,r',o'⟩;have v2:v<=2:=by omega
 clear v1;have b0_2:=b0_1.only o' (by omega)
 have b1_2:=b1_1.only o' (by omega)
 have r_2:=r';have o_2:=o_1.trans o';have s_2:=o_2.size;have t_2:=o'.size;clear b0_1 b1_1 r_1 o_1 o' r';have hv5:=IntWalk.i64_in (1+v) (by omega)
 go_wp2_with fail
 refine(FF rb (P+1) (1+v) (rows) (by omega) hr w2 r_2 (by omega)).mono ?_
 rintro e w3 ⟨A0,c0,x0,rfl,hos,hl0,r',o'⟩;have b0_3:=b0_2.only o' (by omega)
 have b1_3:=b1_2.only o' (by omega)
 have r_3:=r';have o_3:=o_2.trans o';have s_3:=o_3.size;have t_3:=o'.size;clear b0_2 b1_2 r_2 o_2 o' r';have hos0_3:=hos;have hlt0:∀ g,blk A0=some g->g<w3.heap.size:=fun g hg=>(hos0_3.aj g hg).2
 clear hos;have hbs0:w.heap.size+2<=w2.heap.size:=by omega
 go_wp2_with fail
 refine(FF rb (P+1+220) (1+v) (1) (by omega) (by omega) w3 r_3 (by omega)).mono ?_
 rintro e w4 ⟨A1,c1,x1,rfl,hos,hl1,r',o'⟩;have b0_4:=b0_3.only o' (by omega)
 have b1_4:=b1_3.only o' (by omega)
 have r_4:=r';have o_4:=o_3.trans o';have hos0_4:=hos0_3.only o' (by omega)
 have s_4:=o_4.size;have t_4:=o'.size;clear b0_3 b1_3 r_3 o_3 o' r' hos0_3;have hos1_4:=hos;have hlt1:∀ g,blk A1=some g->g<w4.heap.size:=fun g hg=>(hos1_4.aj g hg).2
 clear hos;have hbs1:w.heap.size+2<=w3.heap.size:=by omega
 have HMF:Hid (∃ F,dJ mxE w4 [[.int .i64 (1+v),.int .i64 (rows),.slice A0 x0.length c0],[.int .i64 (1+v),.int .i64 (1),.slice A1 x1.length c1]] [(⟨1+v,rows,x0⟩:Mx),(⟨1+v,1,x1⟩:Mx)] F/\Fr w4 (w.heap.size+2) F):=by
  have f0:=ek hos0_4;have f1:=ek hos1_4;have hd0:∀ g,g∈fpI A0 x0.length->g∈fpI A1 x1.length->False:=by
   intro g h1 h2;have a1:=hlt0 g (bz h1).2;rcases h2 with h2
   ·have a2:=(hos1_4.aj g (bz h2).2).1;omega
  have hd1:∀ g,g∈fpI A1 x1.length->False->False:=by
   intro g h1 h2;exact h2
  exact⟨_,⟨_,_,rfl,⟨A0,c0,rfl,MF.aB (m:=⟨1+v,rows,x0⟩) hos0_4⟩,⟨_,_,rfl,⟨A1,c1,rfl,MF.aB (m:=⟨1+v,1,x1⟩) hos1_4⟩,rfl⟩⟩,Fr.app (f0.mono (by omega)) (Fr.app (f1.mono (by omega)) (Fr.nil _ _) (fun g h1 h2=>by cases h2)) (fun g h1 h2=>hd0 g h1 (by simpa using h2))⟩
 have z0:w.heap.size<w4.heap.size:=b0_4.lt;have z1:w.heap.size+1<w4.heap.size:=b1_4.lt;have cb00:w4.cell? ⟨w.heap.size,0,none⟩=some (.int .i64 0):=b0_4.cell 0;have fb00:w4.frozen? ⟨w.heap.size,0,none⟩=false:=b0_4.frozen 0;have cb01:w4.cell? ⟨w.heap.size,1,none⟩=some (.slice none 0 0):=b0_4.cell 1;have fb01:w4.frozen? ⟨w.heap.size,1,none⟩=false:=b0_4.frozen 1;have cb10:w4.cell? ⟨w.heap.size+1,0,none⟩=some (.int .i64 1):=b1_4.cell 0;have fb10:w4.frozen? ⟨w.heap.size+1,0,none⟩=false:=b1_4.frozen 0;have cb11:w4.cell? ⟨w.heap.size+1,1,none⟩=some (.slice none 0 0):=b1_4.cell 1;have fb11:w4.frozen? ⟨w.heap.size+1,1,none⟩=false:=b1_4.frozen 1
 go_wp2_with fail
 refine Qc (DH rb _) ?_;obtain⟨F,hE,hF⟩:=HMF.out;have hkk:∀ g,g∈F->(((w4.setCell ⟨w.heap.size+1,1,none⟩ (.slice (some ⟨w4.heap.size,0,none⟩) 2 2)).setCell ⟨w.heap.size,0,none⟩ (.int .i64 1)).setCell ⟨w.heap.size,1,none⟩ (.slice (some ⟨w4.heap.size,0,none⟩) 2 2)).heap[g]?=w4.heap[g]?:=fun g hg=>by
  have:=(hF.2 g hg).1
  exact(Below.heap_setCell _ _ _ g (by dsimp only;omega)).trans ((Below.heap_setCell _ _ _ g (by dsimp only;omega)).trans (Below.heap_setCell _ _ _ g (by dsimp only;omega)))
 have hzz:(((w4.setCell ⟨w.heap.size+1,1,none⟩ (.slice (some ⟨w4.heap.size,0,none⟩) 2 2)).setCell ⟨w.heap.size,0,none⟩ (.int .i64 1)).setCell ⟨w.heap.size,1,none⟩ (.slice (some ⟨w4.heap.size,0,none⟩) 2 2)).heap.size=w4.heap.size:=by simp[World.setCell]
 have hox:=OX.lit (((w4.setCell ⟨w.heap.size+1,1,none⟩ (.slice (some ⟨w4.heap.size,0,none⟩) 2 2)).setCell ⟨w.heap.size,0,none⟩ (.int .i64 1)).setCell ⟨w.heap.size,1,none⟩ (.slice (some ⟨w4.heap.size,0,none⟩) 2 2)) (base:=w.heap.size+2) (by rw[hzz];omega) 37 (hE.au hkk) (hF.au hkk) (by unfold maxLen;simp)
 rw[hzz] at hox;clear hkk hzz;obtain⟨F2,hr2,hf2⟩:=hox.ri;simp only[List.flatten_cons,List.flatten_nil,List.cons_append,List.nil_append,List.length_cons,List.length_nil] at hr2 hf2;have HR2:=Qh hr2;have HF2:=Qh hf2;clear hE hF hox hr2 hf2 HMF;have HR:=Qh r_4;have HO:=Qh o_4;clear r_4 o_4 hos0_4 hlt0 hos1_4 hlt1;go_wp2
 exact bodyPost_ret (v:= .agg #[.int .i64 1,.slice (some ⟨w4.heap.size,0,none⟩) 2 2]) (by simp[results,results161,go_sem,z0,z1,cb00,fb00,cb01,fb01,cb10,fb10,cb11,fb11]) rfl ⟨_,2,2,[(⟨1+v,rows,x0⟩:Mx),(⟨1+v,1,x1⟩:Mx)],F2,rfl,HR2.out,HF2.out.mono (by omega),by omega,by intro m hm;simp at hm;rcases hm with rfl|rfl <;> assumption,fun _=>⟨_,rfl,by dsimp only;omega,by dsimp only;omega⟩,((((((HR.out.setCell (by dsimp only;omega) _).setCell (by dsimp only;omega) _).setCell (by dsimp only;omega) _).alloc _))).mono (by omega),(((((HO.out.setCell (.inr (by dsimp only;omega)) _).setCell (.inr (by dsimp only;omega)) _).setCell (.inr (by dsimp only;omega)) _).alloc _))⟩
theorem Eg (rb P:Nat) (rows cols:Int) (hr:1<=rows/\rows<=5) (hc:1<=cols/\cols<=5) (w:World) (h:Rd w rb P) (hP:P<900000) :
  Calls prog 161 #[.pointer (some ⟨rb,0,none⟩),.int .i64 2,.int .i64 rows,.int .i64 cols,.int .i64 0] w (DLy w rb (P+700) 2):=by
 obtain⟨u1,hu1⟩:∃ u,u=((w.alloc (.cells #[.int .i64 0,.slice none 0 0] 80)).alloc (.cells #[.int .i64 2,.slice none 0 0] 80)):=⟨_,rfl⟩;have b0_1:Blk u1 w.heap.size 80 #[.int .i64 0,.slice none 0 0]:=by rw[hu1];exact(Blk.new _ _ _).alloc _
 have b1_1:Blk u1 (w.heap.size+1) 80 #[.int .i64 2,.slice none 0 0]:=by rw[hu1];have h:=Blk.new (w.alloc (.cells #[.int .i64 0,.slice none 0 0] 80)) 80 #[.int .i64 2,.slice none 0 0];simpa using h
 have r_1:Rd u1 rb P:=by rw[hu1];exact(h.alloc _).alloc _
 have o_1:aZ rb w u1:=by rw[hu1];exact((aZ.refl rb w).alloc _).alloc _
 have hrw:=h.lt;clear h
 go_enter func161,ntmps161
 go_wp2_with fail
 rw[<-hu1];have s_1:w.heap.size+2<=u1.heap.size:=by rw[hu1];simp
 clear hu1;have z0:w.heap.size<u1.heap.size:=b0_1.lt;have z1:w.heap.size+1<u1.heap.size:=b1_1.lt;have cb00:u1.cell? ⟨w.heap.size,0,none⟩=some (.int .i64 0):=b0_1.cell 0;have fb00:u1.frozen? ⟨w.heap.size,0,none⟩=false:=b0_1.frozen 0;have cb01:u1.cell? ⟨w.heap.size,1,none⟩=some (.slice none 0 0):=b0_1.cell 1;have fb01:u1.frozen? ⟨w.heap.size,1,none⟩=false:=b0_1.frozen 1;have cb10:u1.cell? ⟨w.heap.size+1,0,none⟩=some (.int .i64 2):=b1_1.cell 0;have fb10:u1.frozen? ⟨w.heap.size+1,0,none⟩=false:=b1_1.frozen 0;have cb11:u1.cell? ⟨w.heap.size+1,1,none⟩=some (.slice none 0 0):=b1_1.cell 1;have fb11:u1.frozen? ⟨w.heap.size+1,1,none⟩=false:=b1_1.frozen 1
 go_wp2_with fail
 refine Qc (DH rb _) ?_;have HR:=Qh r_1;have HO:=Qh o_1;clear r_1 o_1;go_wp2
 exact bodyPost_ret (v:= .agg #[.int .i64 2,.slice none 0 0]) (by simp[results,results161,go_sem,z0,z1,cb00,fb00,cb01,fb01,cb10,fb10,cb11,fb11]) rfl ⟨none,0,0,[],[],rfl,RI.nil _ none (by unfold maxLen;omega),Fr.nil _ _,by omega,(fun m hm=>by cases hm),fun h=>absurd h (by decide),(((HR.out.setCell (by dsimp only;omega) _).setCell (by dsimp only;omega) _)).mono (by omega),((HO.out.setCell (.inr (by dsimp only;omega)) _).setCell (.inr (by dsimp only;omega)) _)⟩
theorem Eh (rb P:Nat) (rows cols:Int) (hr:1<=rows/\rows<=5) (hc:1<=cols/\cols<=5) (w:World) (h:Rd w rb P) (hP:P<900000) :
  Calls prog 161 #[.pointer (some ⟨rb,0,none⟩),.int .i64 3,.int .i64 rows,.int .i64 cols,.int .i64 0] w (DLy w rb (P+700) 3):=by
 obtain⟨u1,hu1⟩:∃ u,u=((w.alloc (.cells #[.int .i64 0,.slice none 0 0] 80)).alloc (.cells #[.int .i64 3,.slice none 0 0] 80)):=⟨_,rfl⟩;have b0_1:Blk u1 w.heap.size 80 #[.int .i64 0,.slice none 0 0]:=by rw[hu1];exact(Blk.new _ _ _).alloc _
 have b1_1:Blk u1 (w.heap.size+1) 80 #[.int .i64 3,.slice none 0 0]:=by rw[hu1];have h:=Blk.new (w.alloc (.cells #[.int .i64 0,.slice none 0 0] 80)) 80 #[.int .i64 3,.slice none 0 0];simpa using h
 have r_1:Rd u1 rb P:=by rw[hu1];exact(h.alloc _).alloc _
 have o_1:aZ rb w u1:=by rw[hu1];exact((aZ.refl rb w).alloc _).alloc _
 have hrw:=h.lt;clear h
 go_enter func161,ntmps161
 go_wp2_with fail
 rw[<-hu1];have s_1:w.heap.size+2<=u1.heap.size:=by rw[hu1];simp
 clear hu1;refine(FF rb (P) (cols) (cols) hc hc u1 r_1 (by omega)).mono ?_
 rintro e w2 ⟨A0,c0,x0,rfl,hos,hl0,r',o'⟩;have b0_2:=b0_1.only o' (by omega)
 have b1_2:=b1_1.only o' (by omega)
 have r_2:=r';have o_2:=o_1.trans o';have s_2:=o_2.size;have t_2:=o'.size;clear b0_1 b1_1 r_1 o_1 o' r';have hos0_2:=hos;have hlt0:∀ g,blk A0=some g->g<w2.heap.size:=fun g hg=>(hos0_2.aj g hg).2
 clear hos;have hbs0:w.heap.size+2<=u1.heap.size:=by omega
 go_wp2_with fail
 refine(FF rb (P+220) (cols) (cols) hc hc w2 r_2 (by omega)).mono ?_
 rintro e w3 ⟨A1,c1,x1,rfl,hos,hl1,r',o'⟩;have b0_3:=b0_2.only o' (by omega)
 have b1_3:=b1_2.only o' (by omega)
 have r_3:=r';have o_3:=o_2.trans o';have hos0_3:=hos0_2.only o' (by omega)
 have s_3:=o_3.size;have t_3:=o'.size;clear b0_2 b1_2 r_2 o_2 o' r' hos0_2;have hos1_3:=hos;have hlt1:∀ g,blk A1=some g->g<w3.heap.size:=fun g hg=>(hos1_3.aj g hg).2
 clear hos;have hbs1:w.heap.size+2<=w2.heap.size:=by omega
 go_wp2_with fail
 refine(FF rb (P+220+220) (cols) (cols) hc hc w3 r_3 (by omega)).mono ?_
 rintro e w4 ⟨A2,c2,x2,rfl,hos,hl2,r',o'⟩;have b0_4:=b0_3.only o' (by omega)
 have b1_4:=b1_3.only o' (by omega)
 have r_4:=r';have o_4:=o_3.trans o';have hos0_4:=hos0_3.only o' (by omega)
 have hos1_4:=hos1_3.only o' (by omega)
 have s_4:=o_4.size;have t_4:=o'.size;clear b0_3 b1_3 r_3 o_3 o' r' hos0_3 hos1_3;have hos2_4:=hos;have hlt2:∀ g,blk A2=some g->g<w4.heap.size:=fun g hg=>(hos2_4.aj g hg).2
 clear hos;have hbs2:w.heap.size+2<=w3.heap.size:=by omega
 have HMF:Hid (∃ F,dJ mxE w4 [[.int .i64 (cols),.int .i64 (cols),.slice A0 x0.length c0],[.int .i64 (cols),.int .i64 (cols),.slice A1 x1.length c1],[.int .i64 (cols),.int .i64 (cols),.slice A2 x2.length c2]] [(⟨cols,cols,x0⟩:Mx),(⟨cols,cols,x1⟩:Mx),(⟨cols,cols,x2⟩:Mx)] F/\Fr w4 (w.heap.size+2) F):=by
  have f0:=ek hos0_4;have f1:=ek hos1_4;have f2:=ek hos2_4;have hd0:∀ g,g∈fpI A0 x0.length->g∈fpI A1 x1.length\/g∈fpI A2 x2.length->False:=by
   intro g h1 h2;have a1:=hlt0 g (bz h1).2;rcases h2 with h2|h2
   ·have a2:=(hos1_4.aj g (bz h2).2).1;omega
   ·have a2:=(hos2_4.aj g (bz h2).2).1;omega
  have hd1:∀ g,g∈fpI A1 x1.length->g∈fpI A2 x2.length->False:=by
   intro g h1 h2;have a1:=hlt1 g (bz h1).2;rcases h2 with h2
   ·have a2:=(hos2_4.aj g (bz h2).2).1;omega
  have hd2:∀ g,g∈fpI A2 x2.length->False->False:=by
   intro g h1 h2;exact h2
  exact⟨_,⟨_,_,rfl,⟨A0,c0,rfl,MF.aB (m:=⟨cols,cols,x0⟩) hos0_4⟩,⟨_,_,rfl,⟨A1,c1,rfl,MF.aB (m:=⟨cols,cols,x1⟩) hos1_4⟩,⟨_,_,rfl,⟨A2,c2,rfl,MF.aB (m:=⟨cols,cols,x2⟩) hos2_4⟩,rfl⟩⟩⟩,Fr.app (f0.mono (by omega)) (Fr.app (f1.mono (by omega)) (Fr.app (f2.mono (by omega)) (Fr.nil _ _) (fun g h1 h2=>by cases h2)) (fun g h1 h2=>hd1 g h1 (by simpa using h2))) (fun g h1 h2=>hd0 g h1 (by simpa using h2))⟩
 have z0:w.heap.size<w4.heap.size:=b0_4.lt;have z1:w.heap.size+1<w4.heap.size:=b1_4.lt;have cb00:w4.cell? ⟨w.heap.size,0,none⟩=some (.int .i64 0):=b0_4.cell 0;have fb00:w4.frozen? ⟨w.heap.size,0,none⟩=false:=b0_4.frozen 0;have cb01:w4.cell? ⟨w.heap.size,1,none⟩=some (.slice none 0 0):=b0_4.cell 1;have fb01:w4.frozen? ⟨w.heap.size,1,none⟩=false:=b0_4.frozen 1;have cb10:w4.cell? ⟨w.heap.size+1,0,none⟩=some (.int .i64 3):=b1_4.cell 0;have fb10:w4.frozen? ⟨w.heap.size+1,0,none⟩=false:=b1_4.frozen 0;have cb11:w4.cell? ⟨w.heap.size+1,1,none⟩=some (.slice none 0 0):=b1_4.cell 1;have fb11:w4.frozen? ⟨w.heap.size+1,1,none⟩=false:=b1_4.frozen 1
 go_wp2_with fail
 refine Qc (DH rb _) ?_;obtain⟨F,hE,hF⟩:=HMF.out;have hkk:∀ g,g∈F->(((w4.setCell ⟨w.heap.size+1,1,none⟩ (.slice (some ⟨w4.heap.size,0,none⟩) 3 3)).setCell ⟨w.heap.size,0,none⟩ (.int .i64 3)).setCell ⟨w.heap.size,1,none⟩ (.slice (some ⟨w4.heap.size,0,none⟩) 3 3)).heap[g]?=w4.heap[g]?:=fun g hg=>by
  have:=(hF.2 g hg).1
  exact(Below.heap_setCell _ _ _ g (by dsimp only;omega)).trans ((Below.heap_setCell _ _ _ g (by dsimp only;omega)).trans (Below.heap_setCell _ _ _ g (by dsimp only;omega)))
 have hzz:(((w4.setCell ⟨w.heap.size+1,1,none⟩ (.slice (some ⟨w4.heap.size,0,none⟩) 3 3)).setCell ⟨w.heap.size,0,none⟩ (.int .i64 3)).setCell ⟨w.heap.size,1,none⟩ (.slice (some ⟨w4.heap.size,0,none⟩) 3 3)).heap.size=w4.heap.size:=by simp[World.setCell]
 have hox:=OX.lit (((w4.setCell ⟨w.heap.size+1,1,none⟩ (.slice (some ⟨w4.heap.size,0,none⟩) 3 3)).setCell ⟨w.heap.size,0,none⟩ (.int .i64 3)).setCell ⟨w.heap.size,1,none⟩ (.slice (some ⟨w4.heap.size,0,none⟩) 3 3)) (base:=w.heap.size+2) (by rw[hzz];omega) 37 (hE.au hkk) (hF.au hkk) (by unfold maxLen;simp)
 rw[hzz] at hox;clear hkk hzz;obtain⟨F2,hr2,hf2⟩:=hox.ri;simp only[List.flatten_cons,List.flatten_nil,List.cons_append,List.nil_append,List.length_cons,List.length_nil] at hr2 hf2;have HR2:=Qh hr2;have HF2:=Qh hf2;clear hE hF hox hr2 hf2 HMF;have HR:=Qh r_4;have HO:=Qh o_4;clear r_4 o_4 hos0_4 hlt0 hos1_4 hlt1 hos2_4 hlt2;go_wp2
 exact bodyPost_ret (v:= .agg #[.int .i64 3,.slice (some ⟨w4.heap.size,0,none⟩) 3 3]) (by simp[results,results161,go_sem,z0,z1,cb00,fb00,cb01,fb01,cb10,fb10,cb11,fb11]) rfl ⟨_,3,3,[(⟨cols,cols,x0⟩:Mx),(⟨cols,cols,x1⟩:Mx),(⟨cols,cols,x2⟩:Mx)],F2,rfl,HR2.out,HF2.out.mono (by omega),by omega,by intro m hm;simp at hm;rcases hm with rfl|rfl|rfl <;> assumption,fun h=>absurd h (by decide),((((((HR.out.setCell (by dsimp only;omega) _).setCell (by dsimp only;omega) _).setCell (by dsimp only;omega) _).alloc _))).mono (by omega),(((((HO.out.setCell (.inr (by dsimp only;omega)) _).setCell (.inr (by dsimp only;omega)) _).setCell (.inr (by dsimp only;omega)) _).alloc _))⟩
end
theorem Er {kd:Int} (hk:1<=kd/\kd<=3) (rb P:Nat) (rows cols:Int) (hr:1<=rows/\rows<=5) (hc:1<=cols/\cols<=5) (w:World) (h:Rd w rb P) (hP:P<900000) :
  Calls prog 161 #[.pointer (some ⟨rb,0,none⟩),.int .i64 kd,.int .i64 rows,.int .i64 cols,.int .i64 0] w (DLy w rb (P+700) kd):=by
 have:kd=1\/kd=2\/kd=3:=by omega
 rcases this with rfl|rfl|rfl
 ·exact Ef rb P rows cols hr hc w h hP
 ·exact Eg rb P rows cols hr hc w h hP
 ·exact Eh rb P rows cols hr hc w h hP
def DNt (w:World) (rb P:Nat) (e:Ending) (w':World):Prop:=∃ A n c ls F,e= .returned (.slice A n c)/\RI (kE mxE) w' A n c ls F/\Fr w' w.heap.size F/\n<=3/\(∀ l,l∈ls->l.2.length<=3/\∀ m,m∈l.2->m.v.length<=26)/\Rd w' rb P/\aZ rb w w'
theorem EL (rb P:Nat) (rows cols:Int) (hr:1<=rows/\rows<=5) (hc:1<=cols/\cols<=5) (w:World) (h:Rd w rb P) (hP:P<100000) :
  Calls prog 120 #[.pointer (some ⟨rb,0,none⟩),.int .i64 rows,.int .i64 cols,.int .i64 0] w (DNt w rb (P+4000)):=by
 obtain⟨i2,hi2,hy0,hy1,hy2⟩:=info_parts we;have hrw:=h.lt;have HX0:Hid (OX (kE mxE) (w.alloc (.cells #[] 80)) w.heap.size 80 (some ⟨w.heap.size,0,none⟩) 0 0 [] [] []):=OX.kG w Ql _;obtain⟨hr1,hr2⟩:=hr;have HC:=Qh hc;clear hc
 go_enter func120,ntmps120
 go_wp2_with fail
 refine(FE rb P 4 _ (h.alloc _) (by omega)).mono ?_
 rintro e w2 ⟨v,rfl,v0,v1,r2,o2⟩;have c1:v<=3:=by omega
 have HX2:=Qh (HX0.out.only o2 hrw);have HO2:Hid (aZ rb w w2):=((aZ.refl rb w).alloc _).trans o2;have HR2:Hid (Rd w2 rb (P+1+800*0)):=r2;clear v1 h r2 o2 HX0;go_wp2
 go_loopw [1,9,10] (fun v1 v9 v10 wr=>∃ (j:Nat) (k rw:Int),0<=k/\(j:Int)+k<=3/\1<=rw/\rw<=5/\v10= .int .i64 k/\v1= .int .i64 rw/\∃ (A:Option Addr) (c:Nat) (css:List (List Value)) (ls:List (Int×List Mx)) (F:List Nat),v9= .slice A j c/\Hid (OX (kE mxE) wr w.heap.size 80 A j c css ls F)/\Hid (∀ l,l∈ls->l.2.length<=3/\∀ m,m∈l.2->m.v.length<=26)/\Hid (Rd wr rb (P+1+800*j))/\Hid (aZ rb w wr)) (fun _ _ k _=>(intOf k).toNat)
 case atStart=>exact⟨0,v,rows,by omega,by omega,hr1,hr2,by go_num,rfl,_,_,_,_,_,rfl,HX2,(fun l hl=>by cases hl),HR2,HO2⟩
 case round =>
 obtain⟨j,k,rw',k0,hjk,hw1,hw2,rfl,rfl,A,c,css,ls,FO,rfl,hox,hls,hrd,hon⟩:=hrel;have hwr:w.heap.size<=wr.heap.size:=hon.out.size
 by_cases hk:0<k
 ·clear HX2 HO2 HR2;have hrl:=hrd.out.lt
  go_wp2_with fail
  refine(FE rb (P+1+800*j) 4 _ (hrd.out.alloc _) (by omega)).mono ?_
  rintro e w2' ⟨q,rfl,q0,q1,r2,o2⟩;have q2:q<4:=by omega
  clear q1;obtain⟨kd,hkd,d0,d1⟩:=FG [1,1,2,3] 1 3 (by simp) q q0 (by simp;omega)
  have hcx:w2'.cell? ⟨wr.heap.size,q.toNat,none⟩=some (.int .i64 kd):=by
   rw[o2.cell (by simp) (by omega)]
   have:=kr wr [1,1,2,3] 3 q.toNat;rw[hkd] at this
   exact this
  have HX3:=Qh ((hox.out.alloc (.cells #[.int .i64 1,.int .i64 1,.int .i64 2,.int .i64 3] 3)).only o2 hrw);have HO3:Hid (aZ rb w w2'):=(hon.out.alloc _).trans o2;have HR3:=Qh r2;have hz2:wr.heap.size<w2'.heap.size:=by have:=o2.size;simp at this;omega
  clear r2 o2 hkd hrd hon hox
  go_wp2_with fail
  refine(Er ⟨d0,d1⟩ rb (P+1+800*j+1) rw' cols ⟨hw1,hw2⟩ HC.out w2' HR3.out (by omega)).mono ?_
  rintro e w3 ⟨A',n',c',ms,F',rfl,hri,hfr,hn',hms,hone,r3,o3⟩;have HOX:=Qh (HX3.out.only o3 hrw);have HO:Hid (aZ rb w w3):=HO3.out.trans o3;have HRD:=Qh r3;have HR:=Qh hri;have HF:=Qh hfr;have HMS:=Qh hms;have HML:=Qh hri.1;have hz3:w2'.heap.size<=w3.heap.size:=o3.size;have HDD:Hid (∀ g,g∈F'->g∉FO/\blk A≠some g):=fun g hg=>⟨fun h=>by have:=HX3.out.lt g h;have:=(hfr.2 g hg).1;omega,fun h=>by have:=(HX3.out.aj g h).2;have:=(hfr.2 g hg).1;omega⟩
  clear hri hfr hms r3 o3 HX3 HO3 HR3 hcx
  by_cases hk1:kd=1
  ·subst hk1;obtain⟨m0,hm0,hm1,hm2⟩:=hone rfl;obtain⟨b,off,cs,F0,rfl,hbl,hc0,_,A0,p0,rfl,_⟩:=HR.out.cells hm0 3 rfl;have e0:w3.cell? ⟨b,off,none⟩=some (.int .i64 m0.r):=by have:=hc0 0 (by omega);simpa using this
   have hn0:0<n':=by have:=(List.getElem?_eq_some_iff.1 hm0).1;have:=HML.out;omega
   have hn0':(0:Int)<(n':Int):=by omega
   clear hc0 hm0 hone;have HQ:Hid ((kE mxE).P w3 [.int .i64 1,.slice (some ⟨b,off,none⟩) n' c'] ((1:Int),ms) F'):=⟨some ⟨b,off,none⟩,c',by dsimp only;rw[HML.out],by dsimp only;rw[HML.out];exact HR.out⟩
   have HD:Hid (∀ g,g∈F'->g∉FO/\blk A≠some g):=HDD;clear HDD
   go_wp2_with (at_builtin;refine wpList_append_lies _ rfl _ _ 32 rfl w.heap.size 80 i2 (.agg #[.int .i64 0,.slice none 0 0]) 2 32 underlying32 hi2 hy0 hy1 hy2 rfl (by decide) (.slice A j c) j _ rfl (World.ownsRow.alloc (World.ownsRow.alloc HOX.out.1 _) _) ⟨w3.heap.size+1,0,none⟩ 1 1 [.int .i64 1,.slice (some ⟨b,off,none⟩) n' c'] rfl rfl ?c1 ?c2 ?c3 ?c4 ?c5 ?c6 (w3.heap.size+1+1) ?c7 ?_)
   case c1 =>
    have h:=dz (w3.alloc (.cells #[.int .i64 1,.slice (some ⟨b,off,none⟩) n' c'] 80)) 80 [.int .i64 1,.slice (some ⟨b,off,none⟩) n' c'];rw[World.size_alloc] at h
    exact h
   case c2=>intro u hu;simp at hu;rcases hu with rfl|rfl <;> rfl
   case c3=>omega
   case c4=>unfold maxLen;omega
   case c5=>omega
   case c6=>simp;omega
   case c7=>simp
   intro g cap5 w5 hown hgrow hat hlt5;have hal:Below w3.heap.size w3 (w3.alloc (.cells #[.int .i64 1,.slice (some ⟨b,off,none⟩) n' c'] 80)):=Qb.alloc Ql _;obtain⟨k1,_,k3⟩:=OX.push (HOX.out.below hal) ((kE mxE).au _ _ _ _ _ HQ.out (fun g hg=>hal.block g ((kE mxE).lt _ _ _ _ HQ.out g hg))) (((HF.out.mono (by omega)).below hal)) HD.out (Below.refl w.heap.size _) Ql (by simp;omega) hown hgrow (hat.imp id (fun h=>by rw[World.size_alloc];exact h))
   have K1:=Qh k1;have K2:Hid (aZ rb w w5):=⟨k3.os.trans (HO.out.alloc _).os,k3.tape.trans (HO.out.alloc _).tape,k3.output.trans (HO.out.alloc _).output,Nat.le_trans (HO.out.alloc _).size k3.size,fun i hi hne=>(k3.block i (by simp;omega) (fun e=>by have:=(HOX.out.aj i e.symm).1;omega)).trans ((HO.out.alloc (.cells #[.int .i64 1,.slice (some ⟨b,off,none⟩) n' c'] 80)).block i hi hne)⟩
   have K3:Hid (Rd w5 rb (P+1+800*(j+1))):=((HRD.out.alloc (.cells #[.int .i64 1,.slice (some ⟨b,off,none⟩) n' c'] 80)).au (fun i hi=>k3.block i (by simp;omega) (fun e=>by have:=(HOX.out.aj i e.symm).1;omega))).mono (by omega)
   have K4:Hid (∀ l,l∈ls++[((1:Int),ms)]->l.2.length<=3/\∀ m,m∈l.2->m.v.length<=26):=by
    intro l hl;rcases List.mem_append.1 hl with hl|hl
    ·exact hls.out l hl
    ·have e:l=((1:Int),ms):=by simpa using hl
     subst e
     exact⟨by dsimp only;rw[HML.out];exact hn',HMS.out⟩
   clear k1 k3 hal hown hgrow hat HOX HQ HD HR HF HRD HO;go_wp2
   go_roundw
   case rel=>exact⟨j+1,k-1,m0.r,by omega,by omega,by omega,by omega,by go_num,rfl,_,_,_,_,_,rfl,K1,K4,K3,K2⟩
   case measure=>simp[intOf] <;> omega
  ·have t1:(kd == 1)=false:=by simp[hk1]
   clear hone;have HQ:Hid ((kE mxE).P w3 [.int .i64 kd,.slice A' n' c'] (kd,ms) F'):=⟨A',c',by dsimp only;rw[HML.out],by dsimp only;rw[HML.out];exact HR.out⟩
   have HD:Hid (∀ g,g∈F'->g∉FO/\blk A≠some g):=HDD;clear HDD
   go_wp2_with (at_builtin;refine wpList_append_lies _ rfl _ _ 32 rfl w.heap.size 80 i2 (.agg #[.int .i64 0,.slice none 0 0]) 2 32 underlying32 hi2 hy0 hy1 hy2 rfl (by decide) (.slice A j c) j _ rfl (World.ownsRow.alloc (World.ownsRow.alloc HOX.out.1 _) _) ⟨w3.heap.size+1,0,none⟩ 1 1 [.int .i64 kd,.slice A' n' c'] rfl rfl ?c1 ?c2 ?c3 ?c4 ?c5 ?c6 (w3.heap.size+1+1) ?c7 ?_)
   case c1 =>
    have h:=dz (w3.alloc (.cells #[.int .i64 kd,.slice A' n' c'] 80)) 80 [.int .i64 kd,.slice A' n' c'];rw[World.size_alloc] at h
    exact h
   case c2=>intro u hu;simp at hu;rcases hu with rfl|rfl <;> rfl
   case c3=>omega
   case c4=>unfold maxLen;omega
   case c5=>omega
   case c6=>simp;omega
   case c7=>simp
   intro g cap5 w5 hown hgrow hat hlt5;have hal:Below w3.heap.size w3 (w3.alloc (.cells #[.int .i64 kd,.slice A' n' c'] 80)):=Qb.alloc Ql _;obtain⟨k1,_,k3⟩:=OX.push (HOX.out.below hal) ((kE mxE).au _ _ _ _ _ HQ.out (fun g hg=>hal.block g ((kE mxE).lt _ _ _ _ HQ.out g hg))) (((HF.out.mono (by omega)).below hal)) HD.out (Below.refl w.heap.size _) Ql (by simp;omega) hown hgrow (hat.imp id (fun h=>by rw[World.size_alloc];exact h))
   have K1:=Qh k1;have K2:Hid (aZ rb w w5):=⟨k3.os.trans (HO.out.alloc _).os,k3.tape.trans (HO.out.alloc _).tape,k3.output.trans (HO.out.alloc _).output,Nat.le_trans (HO.out.alloc _).size k3.size,fun i hi hne=>(k3.block i (by simp;omega) (fun e=>by have:=(HOX.out.aj i e.symm).1;omega)).trans ((HO.out.alloc (.cells #[.int .i64 kd,.slice A' n' c'] 80)).block i hi hne)⟩
   have K3:Hid (Rd w5 rb (P+1+800*(j+1))):=((HRD.out.alloc (.cells #[.int .i64 kd,.slice A' n' c'] 80)).au (fun i hi=>k3.block i (by simp;omega) (fun e=>by have:=(HOX.out.aj i e.symm).1;omega))).mono (by omega)
   have K4:Hid (∀ l,l∈ls++[(kd,ms)]->l.2.length<=3/\∀ m,m∈l.2->m.v.length<=26):=by
    intro l hl;rcases List.mem_append.1 hl with hl|hl
    ·exact hls.out l hl
    ·have e:l=(kd,ms):=by simpa using hl
     subst e
     exact⟨by dsimp only;rw[HML.out];exact hn',HMS.out⟩
   clear k1 k3 hal hown hgrow hat HOX HQ HD HR HF HRD HO;go_wp2
   go_roundw
   case rel=>exact⟨j+1,k-1,rw',by omega,by omega,by omega,by omega,by go_num,rfl,_,_,_,_,_,rfl,K1,K4,K3,K2⟩
   case measure=>simp[intOf] <;> omega
 ·obtain rfl:k=0:=by omega
  have HN:Hid (DNt w rb (P+4000) (.returned (.slice A j c)) wr):=by
   obtain⟨F2,h1,h2⟩:=hox.out.ri
   exact⟨A,j,c,ls,F2,rfl,h1,h2,by omega,hls.out,hrd.out.mono (by omega),hon.out⟩
  clear HX2 HO2 HR2
  go_wp2_with fail
  refine Qc (DH rb wr) ?_;go_wp2
  exact bodyPost_ret (v:= .slice A j c) (by simp[results,results120,go_sem]) rfl HN.out
end Go.Proofs.YtjciicheoghcdaaGreatDoor

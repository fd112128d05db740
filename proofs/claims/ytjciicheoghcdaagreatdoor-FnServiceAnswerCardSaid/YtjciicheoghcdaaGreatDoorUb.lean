/- Part of the proof of FnServiceAnswer. -/
import Derived.BigQuiet
import Derived.Deep.AppendLies
import Derived.Deep.QuietTactic
import Derived.Deep.RegionHeld3
import Derived.Laws.MakeOwn
import Derived.Laws.OwnMore
import Derived.OwnWalk
import Derived.RegionTactic
import Derived.Test.YtjciicheoghcdaaGreatDoorUa
namespace Go.Proofs.YtjciicheoghcdaaGreatDoor
open Go.RowKit Go.Proofs.Tryz
set_option linter.all false
set_option maxRecDepth 20000
set_option maxHeartbeats 16000000
section
def ptr (g:Nat):Value:= .pointer (some ⟨g,0,none⟩)
structure FA (X:TypeId->Bool) (P:Program) (o:Oper) (d:Nat) (Z:Obj):Prop where
 dst:o.dst=some d
 guard:o.guard=none
 calm:bK X o=false
 run:∀ (a:Act) (w:World),(execOp a.eval o).run P w= .ok (.value (ptr w.heap.size)) (w.alloc Z)
section
variable {X:TypeId->Bool} {P:Program} {ops:Array Oper} {md:Region.Mode} {C:World->Prop} {Q:Act->World->Prop} {w:World} {a:Act} {o oi oj of:Oper} {R R':Value->World->Prop} {d f base L:Nat} {nl:Bool} {Z:Obj}
theorem FA.wanted (h:FA X P of d Z) (y:Nat->Option Bool):Region.wanted of y=true:=by
 unfold Region.wanted;rw[h.guard]
theorem FA.gives (h:FA X P of d Z) {K:Value->World->Prop} (hk:K (ptr w.heap.size) (w.alloc Z)):Oper.gives P of a w K:=by
 unfold Oper.gives;rw[h.run a w]
 exact hk
theorem FA.lOp (h:FA X P of d Z) (hf:ops[f]?=some of) {K:Act->World->Prop} (hk:K (a.put (some d) (ptr w.heap.size)) (w.alloc Z)):lOp X P ops C f K a w:=by
 unfold Proofs.YtjciicheoghcdaaGreatDoor.lOp;simp only[hf,h.wanted,h.calm,if_true,Bool.false_eq_true,if_false];refine h.gives ?_;rw[h.dst]
 exact hk
def jT (X:TypeId->Bool) (md:Region.Mode) (ops:Array Oper) (listed:Array Bool) (i f:Nat):Prop :=
 ∃ B:Nat->Prop,(∀ j,B j->listed.getD j true=false/\∃ oj,ops[j]?=some oj/\∃ e∈oj.after,Region.binds md e=true/\(e.on=i\/B e.on)) /\
  (∀ j oj,ops[j]?=some oj->j≠i->j≠f->listed.getD j true=false->bK X oj=false->B j)
theorem jT.calm {i j:Nat} {listed:Array Bool} (h:jT X md ops listed i f) (hr:i∈Region.ready md ops listed) (hj:j∈Region.ready md ops listed) (hji:j≠i) (hjf:j≠f) (hoj:ops[j]?=some oj):bK X oj=true:=by
 obtain⟨B,h1,h2⟩:=h
 cases hc:bK X oj
 ·exact absurd (h2 j oj hoj hji hjf (mem_ready.1 hj).1 hc) (waits.none h1 hr hj)
 ·rfl
theorem jT.set {i j:Nat} {listed:Array Bool} (h:jT X md ops listed i f) (hr:i∈Region.ready md ops listed) (hj:j∈Region.ready md ops listed):jT X md ops (listed.setIfInBounds j true) i f:=by
 obtain⟨B,h1,h2⟩:=h;have hn:=waits.none h1 hr hj;refine⟨B,fun k hk=>?_,fun k ok hk hki hkf hun hck=>?_⟩
 ·have hjk:j≠k:=fun e=>by subst e;exact hn hk
  rw[getD_set_ne true hjk]
  exact h1 k hk
 ·refine h2 k ok hk hki hkf ?_ hck
  by_cases hjk:j=k
  ·subst hjk;exact(mem_ready.1 hj).1
  ·rw[getD_set_ne true hjk] at hun;exact hun
def DS (md:Region.Mode) (ops:Array Oper) (listed:Array Bool) (i:Nat) (oi:Oper):Prop :=
 ∀ j oj,ops[j]?=some oj->j≠i->listed.getD j true=false->(∀ e∈oj.after,Region.binds md e=true->e.on≠i)->oi.apart ops oj=true
theorem DS.set {i j:Nat} {listed:Array Bool} (h:DS md ops listed i oi) (hj:listed.getD j true=false):DS md ops (listed.setIfInBounds j true) i oi:=fun k ok hk hki hun hno=>by
 refine h k ok hk hki ?_ hno
 by_cases hjk:j=k
 ·subst hjk;exact hj
 ·rw[getD_set_ne true hjk] at hun;exact hun
theorem rk {i:Nat} (hL:ju md ops L) (hfL:f≠L) (hi:ops[i]?=some oi) (hci:bK X oi=false) (hf:ops[f]?=some of) (hof:FA X P of d Z) (hif:f≠i) (hsel:∀ (j:Nat) (o:Oper) cs b,ops[j]?=some o->o.op≠ .select cs b) :
  ∀ (fuel:Nat) (listed:Array Bool) (a:Act),DS md ops listed i oi->DS md ops listed f of->jT X md ops listed i f->i∈Region.ready md ops listed->f∈Region.ready md ops listed->C w->Region.wanted oi (yielded ops a.tmps)=true ->
   Oper.gives P oi a w (fun v w'=>(i≠L->C w')/\eQ X P md ops C L Q fuel (listed.setIfInBounds i true) (a.put oi.dst v) w')->C (w.alloc Z) ->
   eQ X P md ops C L Q fuel (listed.setIfInBounds f true) (a.put (some d) (ptr w.heap.size)) (w.alloc Z)->eQ X P md ops C L Q (fuel+1) listed a w:=by
 have hsi:∀ cs b,oi.op≠ .select cs b:=fun cs b=>hsel i oi cs b hi
 intro fuel
 induction fuel with
 | zero =>
  intro listed a _ _ hwt hr hrf hC hwn H hCA H2;refine⟨fun h=>(by rw[h] at hr;cases hr),fun j hj=>?_⟩
  by_cases hji:j=i
  ·subst hji;unfold lOp;simp only[hi,hwn,hci,if_true,Bool.false_eq_true,if_false]
   exact H
  ·obtain⟨v,w',_,h1,_⟩:=g_ H;have:=ready_mono hj hji;rw[h1] at this
   cases this
 | succ fuel ih =>
  intro listed a hfree hfreeF hwt hr hrf hC hwn H hCA H2;refine⟨fun h=>(by rw[h] at hr;cases hr),fun j hj=>?_⟩
  by_cases hji:j=i
  ·subst hji;unfold lOp;simp only[hi,hwn,hci,if_true,Bool.false_eq_true,if_false]
   exact H
  by_cases hjf:j=f
  ·subst hjf
   exact hof.lOp hf ⟨fun _=>hCA,H2⟩
  ·obtain⟨hjun,oj,hoj,hall⟩:=mem_ready.1 hj;have hcj:=hwt.calm hr hj hji hjf hoj;obtain⟨h1,h2,h3⟩:=Oper.apart_spec (hfree j oj hoj hji hjun (fh (j:=j) hr hall));obtain⟨k1,k2,k3⟩:=Oper.apart_spec (hfreeF j oj hoj hjf hjun (fh (j:=j) hrf hall));rw[hof.dst] at k1 k2;have hsj:∀ cs b,oj.op≠ .select cs b:=fun cs b=>hsel j oj cs b hoj
   have back:∀ v u,aX X P ops C oj u (a.put oi.dst v)->aX X P ops C oj u a:=fun v u hy=>hy.of_same (execOp_put oj hsj a oi.dst v h1).symm (wanted_put oj a oi.dst v h1).symm
   have backF:∀ v u,aX X P ops C oj u (a.put (some d) v)->aX X P ops C oj u a:=fun v u hy=>hy.of_same (execOp_put oj hsj a (some d) v k1).symm (wanted_put oj a (some d) v k1).symm
   obtain⟨v0,w0,hv0⟩:=g_ H;obtain⟨u,hu,_⟩:=aX.nU hoj hcj (hv0.2.2 j (ready_mono hj hji));have hua:=back v0 u hu;refine hua.op hoj ⟨fun _=>hC,?_⟩
   refine ih (listed.setIfInBounds j true) (a.put oj.dst u) (hfree.set hjun) (hfreeF.set hjun) (hwt.set hr hj) (ready_mono hr (Ne.symm hji)) (ready_mono hrf (Ne.symm hjf)) hC (by rw[wanted_put oi a oj.dst u h3];exact hwn) ?_ hCA ?_
   ·unfold Oper.gives at H ⊢;rw[execOp_put oi hsi a oj.dst u h3];refine cf (fun v w' hv=>⟨hv.1,?_⟩) H
    obtain⟨u',hu',hk⟩:=aX.nU hoj hcj (hv.2.2 j (ready_mono hj hji));obtain rfl:=aX.one hC (back v u' hu') hua;rw[Array.setIfInBounds_comm _ _ hji,<-Act.put_comm a v u' h2]
    exact hk.2
   ·obtain⟨u',hu',hk⟩:=aX.nU hoj hcj (H2.2 j (ready_mono hj hjf));obtain rfl:=aX.one hC (backF _ u' hu') hua;rw[Array.setIfInBounds_comm _ _ hjf,<-Act.put_comm a (ptr w.heap.size) u' k2]
    exact hk.2
def gq (X:TypeId->Bool) (P:Program) (ops:Array Oper) (C:World->Prop) (nl:Bool) (Q:Act->World->Prop) (f:Nat):Nat->List Oper->Act->World->Prop
 | _,[],_,_=>False
 | k,o::rest,a,w=>if k=f then bx X P ops C nl Q rest a w else
   if Region.wanted o (yielded ops a.tmps) then (if bK X o then o.quiet P a C (fun a'=>gq X P ops C nl Q f (k+1) rest a' w) else Oper.gives P o a w (fun v w'=>C w'/\gq X P ops C nl Q f (k+1) rest (a.put o.dst v) w')) else gq X P ops C nl Q f (k+1) rest (a.put o.dst undef) w
structure KB (base:Nat) (Z:Obj) (a b:World):Prop where
 size:a.heap.size<=b.heap.size
 block:∀ i,base<=i->i<a.heap.size->a.heap[i]?=some Z->b.heap[i]?=some Z
def a_ (X:TypeId->Bool) (P:Program) (ops:Array Oper) (C:World->Prop) (nl:Bool) (Q:Act->World->Prop) (f d:Nat) (Z:Obj) (base:Nat):Nat->List Oper->Act->World->Prop
 | _,[],_,_=>False
 | k,o::rest,a,w=>if k=f then ∀ w' g,Below w.heap.size w w'->base<=g->w'.heap[g]?=some Z->C w'->bx X P ops C nl Q rest (a.put (some d) (ptr g)) w' else
   if Region.wanted o (yielded ops a.tmps) then (if bK X o then o.quiet P a C (fun a'=>a_ X P ops C nl Q f d Z base (k+1) rest a' w) else
    ∀ w',(w'=w\/w'=w.alloc Z)->Oper.gives P o a w' (fun v w''=>C w''/\KB base Z w' w''/\a_ X P ops C nl Q f d Z base (k+1) rest (a.put o.dst v) w'')) else a_ X P ops C nl Q f d Z base (k+1) rest (a.put o.dst undef) w
def AR (ops:Array Oper) (d:Nat) (o:Oper):Bool:= !(o.looksAt ops).contains d && o.dst != some d && match o.op with | .select .. => false|_=>true
def ia (ops:Array Oper) (d f:Nat):Nat->List Oper->Bool
 | _,[]=>true
 | k,o::rest=>k == f || (AR ops d o && ia ops d f (k+1) rest)
theorem pB (h:AR ops d o=true):(∀ e,some d=some e->e∉o.looksAt ops)/\(∀ e,some d=some e->o.dst≠some e)/\(∀ cs b,o.op≠ .select cs b):=by
 simp only[AR,Bool.and_eq_true,Bool.not_eq_true',bne_iff_ne,ne_eq] at h;refine⟨fun e he=>?_,fun e he=>?_,fun cs b he=>?_⟩
 ·injection he with he;subst he;simpa using h.1.1
 ·injection he with he;subst he;exact h.1.2
 ·rw[he] at h;simp at h
theorem iZ {g:Nat}:∀ (l:List Oper) (k:Nat) (a:Act) (w:World),ia ops d f k l=true->base<=g->C w->w.heap[g]?=some Z->a_ X P ops C nl Q f d Z base k l a w->gq X P ops C nl Q f k l (a.put (some d) (ptr g)) w
 | [],_,_,_,_,_,_,_,h=>h
 | o::rest,k,a,w,hoff,hb,hC,hg,h=>by
  unfold a_ at h;unfold gq
  by_cases hk:k=f
  ·simp only[hk,if_true] at h ⊢
   exact h w g Qb hb hg hC
  ·simp only[hk,if_false] at h ⊢;have hk':(k == f)=false:=by simp[hk]
   simp only[ia,hk',Bool.false_or,Bool.and_eq_true] at hoff;obtain⟨h1,h2,h3⟩:=pB hoff.1;rw[wanted_put o a (some d) _ h1]
   split
   ·rename_i hw
    simp only[hw,if_true] at h
    split
    ·rename_i hc
     simp only[hc,if_true] at h;obtain⟨v,hv,hn⟩:=h;refine⟨v,fun w' hw'=>?_,by rw[Act.put_comm a (ptr g) v h2];exact iZ rest (k+1) _ w hoff.2 hb hC hg hn⟩
     have:=hv w' hw';unfold Oper.quietAt at *
     rwa [execOp_put o h3 a (some d) (ptr g) h1]
    ·rename_i hc
     simp only[hc] at h;have h:=h w (.inl rfl);unfold Oper.gives at h ⊢;rw[execOp_put o h3 a (some d) (ptr g) h1];refine cf (fun v w' ⟨c1,c2,c3⟩=>⟨c1,?_⟩) h
     rw[Act.put_comm a (ptr g) v h2];have hgl:g<w.heap.size:=(Array.getElem?_eq_some_iff.1 hg).1
     exact iZ rest (k+1) _ w' hoff.2 hb c1 (c2.block g hb hgl hg) c3
   ·rename_i hw
    simp only[hw] at h;rw[Act.put_comm a (ptr g) undef h2]
    exact iZ rest (k+1) _ w hoff.2 hb hC hg h
theorem nN (hA:∀ w,C w->C (w.alloc Z)):∀ (l:List Oper) (k:Nat) (a:Act) (w:World),ia ops d f k l=true->base<=w.heap.size->C w->a_ X P ops C nl Q f d Z base k l a w->gq X P ops C nl Q f k l (a.put (some d) (ptr w.heap.size)) (w.alloc Z)
 | [],_,_,_,_,_,_,h=>h
 | o::rest,k,a,w,hoff,hb,hC,h=>by
  have hnew:(w.alloc Z).heap[w.heap.size]?=some Z:=heap_alloc_new w Z;unfold a_ at h;unfold gq
  by_cases hk:k=f
  ·simp only[hk,if_true] at h ⊢
   exact h _ _ (Qb.alloc Ql _) hb hnew (hA w hC)
  ·simp only[hk,if_false] at h ⊢;have hk':(k == f)=false:=by simp[hk]
   simp only[ia,hk',Bool.false_or,Bool.and_eq_true] at hoff;obtain⟨h1,h2,h3⟩:=pB hoff.1;rw[wanted_put o a (some d) _ h1]
   split
   ·rename_i hw
    simp only[hw,if_true] at h
    split
    ·rename_i hc
     simp only[hc,if_true] at h;obtain⟨v,hv,hn⟩:=h;refine⟨v,fun w' hw'=>?_,by rw[Act.put_comm a _ v h2];exact nN hA rest (k+1) _ w hoff.2 hb hC hn⟩
     have:=hv w' hw';unfold Oper.quietAt at *
     rwa [execOp_put o h3 a (some d) _ h1]
    ·rename_i hc
     simp only[hc] at h;have h:=h _ (.inr rfl);unfold Oper.gives at h ⊢;rw[execOp_put o h3 a (some d) _ h1];refine cf (fun v w' ⟨c1,c2,c3⟩=>⟨c1,?_⟩) h
     rw[Act.put_comm a _ v h2]
     exact iZ rest (k+1) _ w' hoff.2 hb c1 (c2.block _ hb (by simp) hnew) c3
   ·rename_i hw
    simp only[hw] at h;rw[Act.put_comm a _ undef h2]
    exact nN hA rest (k+1) _ w hoff.2 hb hC h
def dV (X:TypeId->Bool) (md:Region.Mode) (ops:Array Oper) (f:Nat):Nat->Nat->Array Bool->Bool
 | 0,_,_=>false
 | fuel+1,k,listed=>if k=f then listed.getD f false && dW X md ops fuel (k+1) listed else
   (Region.ready md ops listed).contains k && Region.free md ops listed k && oD X md ops listed k && dV X md ops f fuel (k+1) (listed.setIfInBounds k true)
theorem mn (hL:ju md ops (cW ops nl)) (hs:Region.noSelect ops=true):∀ (l:List Oper) (k:Nat) (listed:Array Bool) (a:Act) (w:World),(∀ j,l[j]?=ops[k+j]?)->dV X md ops f l.length k listed=true->closed md ops listed->C w->gq X P ops C nl Q f k l a w->eQ X P md ops C (cW ops nl) Q (l.length-1) listed a w
 | [],_,_,_,_,_,hB,_,_,_=>by simp[dV] at hB
 | o::l,k,listed,a,w,hl,hB,hcl,hC,h=>by
  have h0:ops[k]?=some o:=by simpa using (hl 0).symm
  have hl':∀ j,l[j]?=ops[k+1+j]?:=fun j=>by have:=hl (j+1);simpa [Nat.add_assoc,Nat.add_comm 1 j] using this
  simp only[List.length_cons,Nat.add_sub_cancel];unfold gq at h
  by_cases hk:k=f
  ·simp only[hk,if_true] at h;simp only[List.length_cons,dV,hk,if_true,Bool.and_eq_true] at hB
   exact eR hL hs l (k+1) listed a w hl' (by rw[hk];exact hB.2) hcl hC h
  ·simp only[hk,if_false] at h;simp only[List.length_cons,dV,hk,if_false,Bool.and_eq_true] at hB;obtain⟨⟨⟨hr,hf⟩,hwt⟩,hB'⟩:=hB;have hpos:l≠[]:=fun e=>by subst e;simp[dV] at hB'
   obtain⟨n,hn⟩:∃ n,l.length=n+1:=⟨l.length-1,by cases l with
    | nil=>exact absurd rfl hpos
    | cons _ _=>simp⟩
   have ih:∀ a w,C w->gq X P ops C nl Q f (k+1) l a w->eQ X P md ops C (cW ops nl) Q n (listed.setIfInBounds k true) a w:=fun a w hC h=>by
    have:=mn hL hs l (k+1) _ a w hl' hB' (hcl.set (by simpa using hr)) hC h
    rwa [hn] at this
   have hkL:k≠cW ops nl:=by
    have hks:k+1<ops.size:=by
     have:=hl' 0
     cases l with
     | nil=>exact absurd rfl hpos
     | cons x _=>exact(Array.getElem?_eq_some_iff.1 (this.symm.trans (List.getElem?_cons_zero ..))).1
    unfold cW
    cases nl <;> simp <;> omega
   rw[hn]
   by_cases hw:Region.wanted o (yielded ops a.tmps)=true
   ·simp only[hw,if_true] at h
    cases hc:bK X o
    ·simp only[hc,Bool.false_eq_true,if_false] at h;refine jE hL h0 hc (Region.noSelect_spec hs) n listed a (Region.free_spec h0 hf) (iU h0 hc hwt) (by simpa using hr) hC hw ?_
     exact cf (fun v w' ⟨h1,h2⟩=>⟨fun _=>h1,ih _ _ h1 h2⟩) h
    ·simp only[hc,if_true] at h;obtain⟨v,hv,hk⟩:=h
     exact eK hL hkL h0 (Region.noSelect_spec hs) n listed a w (Region.free_spec h0 hf) hcl (by simpa using hr) hC (.inl ⟨hw,hc,hv⟩) (ih _ _ hC hk)
   ·simp only[hw] at h
    exact eK hL hkL h0 (Region.noSelect_spec hs) n listed a w (Region.free_spec h0 hf) hcl (by simpa using hr) hC (.inr ⟨by simpa using hw,rfl⟩) (ih _ _ hC h)
def oE (X:TypeId->Bool) (md:Region.Mode) (ops:Array Oper) (listed:Array Bool) (i f:Nat) (B:Array Bool):Bool :=
 ((List.range B.size).all fun j=> !B.getD j false || (!listed.getD j true && match ops[j]? with
  | some oj=>oj.after.any (fun e=>Region.binds md e && (e.on == i || B.getD e.on false))
  | none=>false)) &&
 ((List.range ops.size).all fun j=>j == i || j == f || listed.getD j true || B.getD j false || match ops[j]? with
  | some oj=>bK X oj
  | none=>true)
theorem pc {i:Nat} {listed:Array Bool} {B:Array Bool} (h:oE X md ops listed i f B=true):jT X md ops listed i f:=by
 simp only[oE,Bool.and_eq_true,List.all_eq_true,List.mem_range] at h;refine⟨fun j=>B.getD j false=true,fun j hj=>?_,fun j oj hj hne hnf hun hcj=>?_⟩
 ·have hlt:j<B.size:=by
   rcases Nat.lt_or_ge j B.size with h'|h'
   ·exact h'
   ·simp[Array.getElem?_eq_none h'] at hj
  have h1:=h.1 j hlt;simp only[hj,Bool.not_true,Bool.false_or,Bool.and_eq_true,Bool.not_eq_true'] at h1;refine⟨h1.1,?_⟩
  cases ho:ops[j]? with
  | none=>rw[ho] at h1;cases h1.2
  | some oj =>
   rw[ho] at h1;obtain⟨e,he,hb⟩:=Array.any_eq_true'.1 h1.2;simp only[Bool.and_eq_true,Bool.or_eq_true,beq_iff_eq] at hb
   exact⟨oj,rfl,e,he,hb.1,hb.2⟩
 ·have h1:=h.2 j (Array.getElem?_eq_some_iff.1 hj).1;simp only[hj,Bool.or_eq_true,beq_iff_eq,hne,hnf,false_or,hun,Bool.false_eq_true,hcj,or_false] at h1
  exact h1
def fq (X:TypeId->Bool) (md:Region.Mode) (ops:Array Oper) (f:Nat):Nat->Nat->Array Bool->Bool
 | 0,_,_=>false
 | fuel+1,k,listed=>(Region.ready md ops listed).contains k && Region.free md ops listed k && if k=f then oD X md ops listed k && dW X md ops fuel (k+1) (listed.setIfInBounds k true) else
   (Region.ready md ops listed).contains f && Region.free md ops listed f && (match ops[k]? with|some o=>bK X o || oE X md ops listed k f (behind md ops listed k)|none=>false) && fq X md ops f fuel (k+1) (listed.setIfInBounds k true)
theorem fZ (hL:ju md ops (cW ops nl)) (hs:Region.noSelect ops=true) (hof:ops[f]?=some of) (hfa:FA X P of d Z) (hA:∀ w,C w->C (w.alloc Z)) (hfL:f≠cW ops nl):∀ (l:List Oper) (k:Nat) (listed:Array Bool) (a:Act) (w:World),(∀ j,l[j]?=ops[k+j]?)->ia ops d f k l=true->fq X md ops f l.length k listed=true ->
  dV X md ops f l.length k (listed.setIfInBounds f true)=true->base<=w.heap.size->closed md ops listed->C w->a_ X P ops C nl Q f d Z base k l a w->eQ X P md ops C (cW ops nl) Q l.length listed a w
 | [],_,_,_,_,_,_,hB,_,_,_,_,_=>by simp[fq] at hB
 | o::l,k,listed,a,w,hl,hoff,hB,hD,hb,hcl,hC,h=>by
  have h0:ops[k]?=some o:=by simpa using (hl 0).symm
  have hl':∀ j,l[j]?=ops[k+1+j]?:=fun j=>by have:=hl (j+1);simpa [Nat.add_assoc,Nat.add_comm 1 j] using this
  have h':=h;unfold a_ at h;simp only[List.length_cons]
  by_cases hk:k=f
  ·subst hk;rw[h0] at hof;injection hof with hof;subst hof;simp only[if_true] at h;simp only[List.length_cons,fq,if_true,Bool.and_eq_true] at hB;obtain⟨⟨hr,hf⟩,hwt,hB'⟩:=hB;refine jE hL h0 hfa.calm (Region.noSelect_spec hs) l.length listed a (Region.free_spec h0 hf) (iU h0 hfa.calm hwt) (by simpa using hr) hC (hfa.wanted _) (hfa.gives ⟨fun _=>hA w hC,?_⟩)
   rw[hfa.dst]
   exact eR hL hs l (k+1) _ _ _ hl' hB' (hcl.set (by simpa using hr)) (hA w hC) (h _ _ (Qb.alloc Ql _) hb (heap_alloc_new w Z) (hA w hC))
  ·simp only[hk,if_false] at h;have hk':(k == f)=false:=by simp[hk]
   simp only[List.length_cons,fq,hk,if_false,Bool.and_eq_true] at hB;obtain⟨⟨hr,hf⟩,⟨⟨⟨hrf,hff⟩,hwt⟩,hB'⟩⟩:=hB;have hcl':=hcl.set (j:=k) (by simpa using hr)
   have hpos:l≠[]:=fun e=>by subst e;simp[fq] at hB'
   have hkL:k≠cW ops nl:=by
    have hks:k+1<ops.size:=by
     have:=hl' 0
     cases l with
     | nil=>exact absurd rfl hpos
     | cons x _=>exact(Array.getElem?_eq_some_iff.1 (this.symm.trans (List.getElem?_cons_zero ..))).1
    unfold cW
    cases nl <;> simp <;> omega
   have hD':dV X md ops f l.length (k+1) ((listed.setIfInBounds k true).setIfInBounds f true)=true:=by
    simp only[List.length_cons,dV,hk,if_false,Bool.and_eq_true] at hD;rw[Array.setIfInBounds_comm _ _ hk]
    exact hD.2
   have hoff':ia ops d f (k+1) l=true:=by
    simp only[ia,hk',Bool.false_or,Bool.and_eq_true] at hoff
    exact hoff.2
   by_cases hw:Region.wanted o (yielded ops a.tmps)=true
   ·simp only[hw,if_true] at h
    cases hc:bK X o
    ·simp only[hc,Bool.false_eq_true,if_false] at h;rw[h0] at hwt;simp only[hc,Bool.false_or] at hwt;refine rk hL hfL h0 hc hof hfa (Ne.symm hk) (Region.noSelect_spec hs) l.length listed a (Region.free_spec h0 hf) (Region.free_spec hof hff) (pc hwt) (by simpa using hr) (by simpa using hrf) hC hw ?_ (hA w hC) ?_
     ·exact cf (fun v w' ⟨h1,h2,h3⟩=>⟨fun _=>h1,fZ hL hs hof hfa hA hfL l (k+1) _ _ _ hl' hoff' hB' hD' (Nat.le_trans hb h2.size) hcl' h1 h3⟩) (h w (.inl rfl))
     ·have:=mn hL hs (o::l) k (listed.setIfInBounds f true) _ _ hl hD (hcl.set (by simpa using hrf)) (hA w hC) (nN hA (o::l) k a w hoff hb hC h')
      simpa using this
    ·simp only[hc,if_true] at h;obtain⟨v,hv,hk⟩:=h
     exact eK hL hkL h0 (Region.noSelect_spec hs) l.length listed a w (Region.free_spec h0 hf) hcl (by simpa using hr) hC (.inl ⟨hw,hc,hv⟩) (fZ hL hs hof hfa hA hfL l (k+1) _ _ _ hl' hoff' hB' hD' hb hcl' hC hk)
   ·simp only[hw] at h
    exact eK hL hkL h0 (Region.noSelect_spec hs) l.length listed a w (Region.free_spec h0 hf) hcl (by simpa using hr) hC (.inr ⟨by simpa using hw,rfl⟩) (fZ hL hs hof hfa hA hfL l (k+1) _ _ _ hl' hoff' hB' hD' hb hcl' hC h)
def xY (X:TypeId->Bool) (md:Region.Mode) (ops:Array Oper) (f d:Nat):Bool:=Region.noSelect ops && ia ops d f 0 ops.toList && fq X md ops f ops.size 0 (Array.replicate ops.size false) && dV X md ops f ops.size 0 ((Array.replicate ops.size false).setIfInBounds f true)
theorem gK (X:TypeId->Bool) (nl:Bool) {id:Nat} {Q:Exit->Act->World->Prop} {a:Act} {w:World} {l:List Oper} (S:World->Prop) (f d:Nat) (of:Oper) (Z:Obj) (hm:P.follows .mixedOrders=true) (hB:xY X .any l.toArray f d=true) (hN:nl=true->kF .any l.toArray=true) (hfL:(f == cW l.toArray nl)=false) (hof:l[f]?=some of) (hfa:FA X P of d Z) (hC:S w.drew) (hA:∀ w o,S w->S (w.alloc o))
  (h:Nonempty (Wd S)->a_ X P l.toArray (fun w'=>∃ x:Wd S,w'=x.w) nl (fun a' w'=>Q .normal a' w') f d Z w.heap.size 0 l a w.drew):(Code.region id l.toArray true).wp P Q a w:=by
 simp only[xY,Bool.and_eq_true] at hB;obtain⟨⟨⟨h1,h2⟩,h3⟩,h4⟩:=hB;refine wp_region_any hm (jU (X:=X) (C:=fun w'=>∃ x:Wd S,w'=x.w) (Q:=fun a' w'=>Q .normal a' w') (h_ hN) (fun _ _ h=>h) _ _ _ _ (by simpa using closed.none l.length) (.inl ⟨⟨w.drew,hC⟩,rfl⟩) ?_)
 have:=fZ (X:=X) (P:=P) (C:=fun w'=>∃ x:Wd S,w'=x.w) (Q:=fun a' w'=>Q .normal a' w') (md:= .any) (base:=w.heap.size) (h_ hN) h1 (by simpa using hof) hfa (fun w' ⟨x,hx⟩=>⟨⟨w'.alloc Z,hA _ _ (hx ▸ x.h)⟩,rfl⟩) (by simpa using hfL) l 0 (Array.replicate l.length false) a w.drew (by simp) (by simpa using h2) (by simpa using h3) (by simpa using h4) Ql (closed.none _) ⟨⟨w.drew,hC⟩,rfl⟩ (h ⟨⟨w.drew,hC⟩⟩)
 simpa using this
theorem sL {k:Nat} {rest:List Oper} (hk:k≠f) (hw:Region.wanted o (yielded ops a.tmps)=false) (h:a_ X P ops C nl Q f d Z base (k+1) rest (a.put o.dst undef) w):a_ X P ops C nl Q f d Z base k (o::rest) a w:=by
 unfold a_;simp only[hk,if_false,hw,Bool.false_eq_true]
 exact h
theorem sJ {k:Nat} {rest:List Oper} (hk:k≠f) (hw:Region.wanted o (yielded ops a.tmps)=true) (hc:bK X o=true) (h:∀ K:Act->Prop,(∀ a',a_ X P ops C nl Q f d Z base (k+1) rest a' w->K a')->o.quiet P a C K):a_ X P ops C nl Q f d Z base k (o::rest) a w:=by
 unfold a_;simp only[hk,if_false,hw,hc,if_true]
 exact h _ fun _ h=>h
theorem sK {k:Nat} {rest:List Oper} (hk:k≠f) (hw:Region.wanted o (yielded ops a.tmps)=true) (hc:bK X o=false)
  (h:∀ w',Below w.heap.size w w'->∀ K:Act->World->Prop,(∀ a' w'',C w''->Below w'.heap.size w' w''->a_ X P ops C nl Q f d Z base (k+1) rest a' w''->K a' w'')->Oper.gives P o a w' (fun v w''=>K (a.put o.dst v) w'')):a_ X P ops C nl Q f d Z base k (o::rest) a w:=by
 unfold a_;simp only[hk,if_false,hw,hc,if_true,Bool.false_eq_true];intro w' hw';refine h w' ?_ (fun a' w''=>C w''/\KB base Z w' w''/\a_ X P ops C nl Q f d Z base (k+1) rest a' w'') fun _ _ h1 h2 h3=>⟨h1,⟨h2.size,fun i _ hi e=>(h2.block i hi).trans e⟩,h3⟩
 rcases hw' with rfl|rfl
 ·exact Below.refl _ _
 ·exact Qb.alloc Ql _
theorem qU {k:Nat} {rest:List Oper} (hk:k≠f) (hw:Region.wanted o (yielded ops a.tmps)=true) (hc:bK X o=false)
  (h:∀ w',Below w.heap.size w w'->∀ K:Act->World->Prop,(∀ a' w'',C w''->KB base Z w' w''->a_ X P ops C nl Q f d Z base (k+1) rest a' w''->K a' w'')->Oper.gives P o a w' (fun v w''=>K (a.put o.dst v) w'')):a_ X P ops C nl Q f d Z base k (o::rest) a w:=by
 unfold a_;simp only[hk,if_false,hw,hc,if_true,Bool.false_eq_true];intro w' hw';refine h w' ?_ (fun a' w''=>C w''/\KB base Z w' w''/\a_ X P ops C nl Q f d Z base (k+1) rest a' w'') fun _ _ h1 h2 h3=>⟨h1,h2,h3⟩
 rcases hw' with rfl|rfl
 ·exact Below.refl _ _
 ·exact Qb.alloc Ql _
theorem kZ {k:Nat} {rest:List Oper} (hk:k=f) (h:∀ w' g,Below w.heap.size w w'->base<=g->w'.heap[g]?=some Z->C w'->∀ K:Act->Prop,(∀ a',bx X P ops C nl Q rest a' w'->K a')->K (a.put (some d) (.pointer (some ⟨g,0,none⟩)))):a_ X P ops C nl Q f d Z base k (o::rest) a w:=by
 unfold a_;simp only[hk,if_true]
 exact fun w' g h1 h2 h3 h4=>h w' g h1 h2 h3 h4 _ fun _ h=>h
end
end
section
theorem bp {B B':Nat} {a b c:World} (k:Below B' b c) (hB:B<=B') (h:Below B a b):Below B a c:=h.trans (k.mono hB)
theorem below_drewN {B:Nat} {a w:World} (h:Below B a w) (n:Nat):Below B a (w.drewN n):=⟨h.os,h.tape,h.output,h.size,h.block⟩
def blk (A:Option Addr):Option Nat:=A.map (·.block)
def SI (w:World) (A:Option Addr) (n:Nat) (xs:List Int):Prop :=
 xs.length=n/\(0<n->∃ b off:Nat,A=some ⟨b,off,none⟩/\b<w.heap.size/\∀ i,i<n->w.cell? ⟨b,off+i,none⟩=some (.int .i64 (xs.getD i 0)))
def OS (w:World) (base:Nat) (A:Option Addr) (n cap:Nat) (xs:List Int):Prop:=w.ownsRow base 3 1 (.slice A n cap) n (xs.map (Value.int .i64))
def eJ (A B:Option Addr):Prop:=∀ g,blk A=some g->blk B≠some g
def bJ (A:Option Addr) (w w':World):Prop:=w.grownBy w' (blk A)
theorem aO (A:Option Addr) (n c:Nat):(Value.slice A n c).ownBlock=blk A:=by cases A <;> rfl
theorem eJ.symm {A B:Option Addr} (h:eJ A B):eJ B A:=fun g hb ha=>h g ha hb
section
variable {w w':World} {base n cap:Nat} {A:Option Addr} {xs:List Int}
theorem SI.len (h:SI w A n xs):xs.length=n:=h.1
theorem SI.au (h:SI w A n xs) (hs:w.heap.size<=w'.heap.size) (hk:∀ g,blk A=some g->g<w.heap.size->w'.heap[g]?=w.heap[g]?):SI w' A n xs :=
 ⟨h.1,fun hn=>by
  obtain⟨b,off,rfl,hb,hc⟩:=h.2 hn
  exact⟨b,off,rfl,by omega,fun i hi=>(World.cell?_of_block (w:=w) (hk b rfl hb)).trans (hc i hi)⟩⟩
theorem SI.below (h:SI w A n xs) (hb:Below w.heap.size w w'):SI w' A n xs:=h.au hb.size fun g _ hg=>hb.block g hg
theorem SI.alloc (h:SI w A n xs) (o:Obj):SI (w.alloc o) A n xs:=h.au (by simp) fun g _ hg=>Below.heap_alloc w o g hg
theorem SI.drewN (h:SI w A n xs) (k:Nat):SI (w.drewN k) A n xs:=h
theorem SI.bR {B:Option Addr} (h:SI w A n xs) (ho:bJ B w w') (ha:eJ A B):SI w' A n xs :=
 h.au ho.size fun g hg hl=>ho.block g hl (fun e=>ha g hg e.symm)
theorem SI.only {rb:Nat} (h:SI w A n xs) (ho:aZ rb w w') (ha:blk A≠some rb):SI w' A n xs :=
 h.au ho.size fun g hg hl=>ho.block g hl (fun e=>ha (by rw[hg];exact e))
theorem SI.nil (w:World) (A:Option Addr):SI w A 0 []:=⟨rfl,fun h=>absurd h (by omega)⟩
theorem OS.len (h:OS w base A n cap xs):xs.length=n:=by have:=h.1;simpa using this
theorem OS.dC (h:OS w base A n cap xs):n<=cap/\cap<=maxLen:=by
 rcases h.2 with⟨e,e'⟩|⟨g,c,cur,e,_,_,h1,h2,_⟩
 ·injection e with e1 e2 e3;subst e3;subst e';exact⟨Nat.le_refl _,by unfold maxLen;omega⟩
 ·injection e with e1 e2 e3;subst e3;exact⟨h1,h2⟩
theorem OS.pos (h:OS w base A n cap xs) (hn:0<n):∃ g,A=some ⟨g,0,none⟩/\base<=g/\g<w.heap.size:=by
 rcases h.2 with⟨e,e'⟩|⟨g,c,cur,e,hb,hh,_⟩
 ·omega
 ·injection e with e1
  exact⟨g,e1,hb,(Array.getElem?_eq_some_iff.1 hh).1⟩
theorem OS.si (h:OS w base A n cap xs):SI w A n xs:=⟨h.len,fun hn=>by
 obtain⟨g,rfl,hb,hl⟩:=h.pos hn;refine⟨g,0,rfl,hl,fun i hi=>?_⟩
 have:=World.ownsRow.cellAt h i (by omega)
 have hi':i<xs.length:=by rw[h.len];exact hi
 rw[Nat.zero_add,this,List.getElem?_map,List.getElem?_eq_getElem hi']
 simp[hi']⟩
theorem OS.aj (h:OS w base A n cap xs):∀ g,blk A=some g->base<=g/\g<w.heap.size:=fun g hg=>h.lt g (by rw[aO];exact hg)
theorem OS.frozen (h:OS w base A n cap xs) (j:Nat):∀ g,A=some ⟨g,0,none⟩->w.frozen? ⟨g,j,none⟩=false:=fun g hg=>by subst hg;exact World.ownsRow.frozenAt h j
theorem OS.au (h:OS w base A n cap xs) (hs:w.heap.size<=w'.heap.size) (hk:∀ g,blk A=some g->g<w.heap.size->w'.heap[g]?=w.heap[g]?):OS w' base A n cap xs:=by
 refine⟨h.1,?_⟩;rcases h.2 with hn|⟨g,c,cur,e,hb,hh,rest⟩
 ·exact .inl hn
 ·refine .inr ⟨g,c,cur,e,hb,?_,rest⟩;rw[hk g (by injection e with e1;rw[e1];rfl) (Array.getElem?_eq_some_iff.1 hh).1]
  exact hh
theorem OS.below (h:OS w base A n cap xs) (hb:Below w.heap.size w w'):OS w' base A n cap xs:=h.au hb.size fun g _ hg=>hb.block g hg
theorem OS.alloc (h:OS w base A n cap xs) (o:Obj):OS (w.alloc o) base A n cap xs:=h.au (by simp) fun g _ hg=>Below.heap_alloc w o g hg
theorem OS.drewN (h:OS w base A n cap xs) (k:Nat):OS (w.drewN k) base A n cap xs:=h
theorem OS.bR {B:Option Addr} (h:OS w base A n cap xs) (ho:bJ B w w') (ha:eJ A B):OS w' base A n cap xs :=
 h.au ho.size fun g hg hl=>ho.block g hl (fun e=>ha g hg e.symm)
theorem OS.nil (w:World) (base:Nat):OS w base none 0 0 []:=World.ownsRow_nil w base _ _
theorem OS.mono {base':Nat} (h:OS w base A n cap xs) (hb:base'<=base):OS w base' A n cap xs:=by
 refine⟨h.1,?_⟩;rcases h.2 with hn|⟨g,c,cur,e,hg,rest⟩
 ·exact .inl hn
 ·exact .inr ⟨g,c,cur,e,by omega,rest⟩
theorem OS.wK {g:Nat} (h:Blk w g 3 (xs.map (Value.int .i64)).toArray) (hb:base<=g) (hm:xs.length<=maxLen):OS w base (some ⟨g,0,none⟩) xs.length xs.length xs :=
 ⟨by simp,.inr ⟨g,xs.length,_,rfl,hb,h,Nat.le_refl _,hm,by simp,List.take_of_length_le (by simp)⟩⟩
theorem SI.aj (h:SI w A n xs) (hn:0<n):∀ g,blk A=some g->g<w.heap.size:=fun g hg=>by
 obtain⟨b,off,rfl,hb,_⟩:=h.2 hn;injection hg with hg;subst hg;exact hb
end
theorem bJ.toBelow {A:Option Addr} {B:Nat} {w w':World} (h:bJ A w w') (hb:∀ g,blk A=some g->B<=g) (hs:B<=w.heap.size):Below B w w' :=
 ⟨h.os,h.tape,h.output,h.size,fun k hk=>h.block k (by omega) (fun e=>by have:=hb k e.symm;omega)⟩
theorem bJ.eW {A:Option Addr} {w w':World} (k:Below w.heap.size w w'):bJ A w w':=⟨k.os,k.tape,k.output,k.size,fun i hi _=>k.block i hi⟩
end
theorem eU:(prog.info? 3).map (fun i=>(i.zero,i.size,i.bytes))=some (some (.int .i64 0),1,8):=by kernel_rfl
theorem ag {k:IntKind} {a b:Int} (h:a=b):Ending.returned (.int k a)= .returned (.int k b):=by rw[h]
theorem lI {A:Option Addr} {n m c:Nat} (h:n=m):Ending.returned (.slice A n c)= .returned (.slice A m c):=by rw[h]
theorem dn {a b:Bool} (h:a=b):Ending.returned (.bool a)= .returned (.bool b):=by rw[h]
theorem ji {α} (l:List α) (k:Nat) (h:k<l.length):l.take (k+1)=l.take k++[l[k]]:=by
 rw[List.take_succ_eq_append_getElem h]
theorem eX (l:List Int) (k:Nat) (h:k<l.length):l.getD k 0=l[k]:=by
 rw[List.getD_eq_getElem?_getD,List.getElem?_eq_getElem h];rfl
theorem qM {xs ys:List Int} {k:Nat} (h1:k<xs.length) (h2:k<ys.length) (h:xs.take k=ys.take k) (he:xs.getD k 0=ys.getD k 0):xs.take (k+1)=ys.take (k+1):=by
 rw[ji xs k h1,ji ys k h2,h,<-eX xs k h1,<-eX ys k h2,he]
def eqL (xs ys:List Int):Bool:=decide (xs=ys)
theorem nf (xs:List Int):eqL xs xs=true:=decide_eq_true rfl
theorem Ag {xs ys:List Int} {k:Nat} (h:xs.getD k 0≠ys.getD k 0):eqL xs ys=false:=decide_eq_false (fun e=>h (by rw[e]))
theorem xK {xs ys:List Int} (h:xs.length≠ys.length):eqL xs ys=false:=decide_eq_false (fun e=>h (by rw[e]))
theorem Ew (A B:Option Addr) (n cn m cm:Nat) (xs ys:List Int) (w:World) (hx:SI w A n xs) (hy:SI w B m ys) (bn:n<=281474976710656) (bm:m<=281474976710656) :
  Calls prog 194 #[.slice A n cn,.slice B m cm] w fun e w'=>e= .returned (.bool (eqL xs ys))/\Below w.heap.size w w':=by
 by_cases hnm:n=m
 ·subst hnm
  by_cases h0:n=0
  ·subst h0;have e1:xs=[]:=List.eq_nil_of_length_eq_zero hx.1;have e2:ys=[]:=List.eq_nil_of_length_eq_zero hy.1;subst e1 e2;rw[nf];clear hx hy
   go_enter func194,ntmps194
   go_wp2;refine wp_loop_rounds 1 ?_;rw[rounds_succ];go_wp2
   go_ret
   exact⟨rfl,Below.refl _ _⟩
  ·obtain⟨b,off,rfl,hb,hc⟩:=hx.2 (by omega)
   obtain⟨b',off',rfl,hb',hc'⟩:=hy.2 (by omega)
   have lx:=Qh hx.1;have ly:=Qh hy.1;have HC:=Qh hc;have HC':=Qh hc';have h0':((n:Int) != (n:Int))=false:=by simp
   clear hx hy hc hc'
   go_enter func194,ntmps194
   go_wp2
   go_loopw [5] (fun i wr=>∃ k:Nat,k<=n/\i= .int .i64 k/\Below w.heap.size w wr/\Hid (xs.take k=ys.take k)) (fun i _=>n-(intOf i).toNat)
   case atStart=>exact⟨0,Nat.zero_le _,rfl,Below.refl _ _,rfl⟩
   case round =>
    obtain⟨k,hk,rfl,hbel,heq⟩:=hrel
    by_cases hlt:k<n
    ·obtain⟨x,ex⟩:∃ x,x=xs.getD k 0:=⟨_,rfl⟩;obtain⟨y,ey⟩:∃ y,y=ys.getD k 0:=⟨_,rfl⟩;have cx:wr.cell? ⟨b,off+k,none⟩=some (.int .i64 x):=by rw[ex];exact(hbel.cell (p:=⟨b,off+k,none⟩) hb).trans (HC.out k hlt)
     have cy:wr.cell? ⟨b',off'+k,none⟩=some (.int .i64 y):=by rw[ey];exact(hbel.cell (p:=⟨b',off'+k,none⟩) hb').trans (HC'.out k hlt)
     have EX:=Qh ex;have EY:=Qh ey;have HB:=Qh hbel;have i0:(0:Int)<=(k:Int):=by omega
     have i1:(k:Int)<(n:Int):=by omega
     clear ex ey hbel
     by_cases hxy:x=y
     ·subst hxy
      go_wp2_with fail
      go_quiet (fail)
      go_wp2
      go_roundw
      case rel=>exact⟨k+1,by omega,by go_num,below_drewN HB.out _,qM (by rw[lx.out];exact hlt) (by rw[ly.out];exact hlt) heq.out (EX.out.symm.trans EY.out)⟩
      case measure=>simp[intOf];omega
     ·have hne:(x != y)=true:=by simp[hxy]
      go_wp2_with fail
      go_quiet (fail)
      go_wp2
      go_ret
      exact⟨dn (a:=false) (Ag (k:=k) (by rw[<-EX.out,<-EY.out];exact hxy)).symm,below_drewN HB.out _⟩
    ·have hfin:eqL xs ys=true:=by
      have:k=n:=by omega
      subst this;have h:=heq.out;rw[List.take_of_length_le (by rw[lx.out];exact Nat.le_refl _),List.take_of_length_le (by rw[ly.out];exact Nat.le_refl _)] at h
      rw[h];exact nf _
     have HB:=Qh hbel;have HF:=Qh hfin;clear hbel hfin heq;go_wp2
     go_ret
     exact⟨dn (a:=true) HF.out.symm,HB.out⟩
 ·have e:eqL xs ys=false:=xK (by rw[hx.1,hy.1];exact hnm)
  rw[e];have hne:((n:Int) != (m:Int))=true:=by simp;omega
  clear hx hy e
  go_enter func194,ntmps194
  go_wp2
  go_ret
  exact⟨rfl,Below.refl _ _⟩
def marks (k:Int) (n:Nat):List Int:=(List.range n).map (fun(i:Nat)=>k+(i:Int))
def ZB (n:Nat):Obj:= .cells (madeCells #[.int .i64 0] n) 3
theorem jc (n:Nat) (hn:n<=35184372088832) (w:World):(Instr.makeSlice 35 (.int .i64 (n:Int)) (.int .i64 (n:Int))).run prog w= .ok (.slice (some ⟨w.heap.size,0,none⟩) n n) (w.alloc (ZB n)):=by
 obtain⟨i,hi,hz,h1,h8⟩:=info_parts eU;have h:=run_make (P:=prog) w 35 3 i _ underlying35 hi hz .i64 .i64 (n:Int) (n:Int) (by omega) (Int.le_refl _) (by rw[h8];omega) (by omega)
 rw[h,h1];simp only[Int.toNat_natCast,Nat.mul_one]
 rfl
theorem OS.sN (w:World) (n:Nat) (hn:n<=35184372088832):OS (w.alloc (ZB n)) w.heap.size (some ⟨w.heap.size,0,none⟩) n n (List.replicate n 0):=by
 have h:=World.ownsRow_lit (base:=w.heap.size) (e:=3) (size:=1) w (madeCells #[.int .i64 0] n) n Ql (by unfold maxLen;omega) (by simp[size_madeCells])
 have e:(madeCells #[.int .i64 0] n).toList=(List.replicate n (0:Int)).map (Value.int .i64):=by rw[toList_madeCells_one];simp
 rw[e] at h
 exact h
def zH (xs:List Int) (w:World) (e:Ending) (w':World):Prop:=∃ (A:Option Addr) (c:Nat),e= .returned (.slice A xs.length c)/\OS w' w.heap.size A xs.length c xs/\Below w.heap.size w w'
theorem j7 {xs:List Int} {k:Nat} (h1:k<xs.length):xs.getD k 0∈xs:=by rw[eX xs k h1];exact List.getElem_mem _
def fl (f:Nat->Int) (n:Nat):List Int:=(List.range n).map f
theorem aD (f:Nat->Int) (n:Nat):(fl f n).length=n:=by simp[fl]
theorem dd (f:Nat->Int) (n:Nat):fl f (n+1)=fl f n++[f n]:=by simp[fl,List.range_succ]
theorem jF (f:Nat->Int) (n j:Nat) (h:j<n):(fl f j++List.replicate (n-j) 0).set j (f j)=fl f (j+1)++List.replicate (n-(j+1)) 0:=by
 rw[List.set_append_right _ _ (by rw[aD];exact Nat.le_refl _),aD,Nat.sub_self,dd,List.append_assoc]
 have e:n-j=(n-(j+1))+1:=by omega
 rw[e,List.replicate_succ]
 rfl
theorem r_ {w:World} {base n:Nat} {v:Value} {xs:List Int} (h:w.ownsRow base 3 1 v n (xs.map (Value.int .i64))):∃ A c,v= .slice A n c/\OS w base A n c xs:=by
 rcases h.2 with⟨rfl,rfl⟩|⟨g,c,cur,rfl,r⟩
 ·exact⟨none,0,rfl,h⟩
 ·exact⟨some ⟨g,0,none⟩,c,rfl,h⟩
theorem wO {w wr w1:World} {base k c:Nat} {A:Option Addr} {xs:List Int} {x:Int} {v':Value} {o:Obj} (hos:OS wr base A k c xs) (hb:Below base w wr) (hbs:base<=wr.heap.size)
  (hown:w1.ownsRow base 3 1 v' (k+1) (xs.map (Value.int .i64)++[.int .i64 x])) (hg:(wr.alloc o).grownBy w1 (Value.slice A k c).ownBlock) :
  ∃ A' c',v'= .slice A' (k+1) c'/\OS w1 base A' (k+1) c' (xs++[x])/\Below base w w1:=by
 have h:=r_ (xs:=xs++[x]) (by simpa using hown)
 obtain⟨A',c',hv,ho⟩:=h;refine⟨A',c',hv,ho,?_⟩;refine((hb.alloc hbs o).grown hg (by simp;omega) (fun g hg'=>?_))
 rw[aO] at hg'
 exact(hos.aj g hg').1
theorem fS {w wr w1:World} {base k c g cap:Nat} {A:Option Addr} {xs:List Int} {x:Int} {o:Obj} (hos:OS wr base A k c xs) (hb:Below base w wr) (hbs:base<=wr.heap.size)
  (hown:w1.ownsRow base 3 1 (.slice (some ⟨g,0,none⟩) (k+1) cap) (k+1) (xs.map (Value.int .i64)++[.int .i64 x])) (hg:(wr.alloc o).grownBy w1 (Value.slice A k c).ownBlock)
  (hat:(Value.slice A k c).ownBlock=some g\/g=wr.heap.size+1) :
  OS w1 base (some ⟨g,0,none⟩) (k+1) cap (xs++[x])/\Below base w w1/\bJ A wr w1/\(blk A=some g\/wr.heap.size<=g):=by
 rw[aO] at hg hat;refine⟨?_,(hb.alloc hbs o).grown hg (by simp;omega) (fun g hg'=>(hos.aj g hg').1),⟨hg.os,hg.tape,hg.output,by have:=hg.size;simp at this;omega,fun i hi hne=>(hg.block i (by simp;omega) hne).trans (Below.heap_alloc wr o i hi)⟩,?_⟩
 ·have h:=r_ (xs:=xs++[x]) (by simpa using hown)
  obtain⟨A',c',hv,ho⟩:=h;injection hv with e1 e2 e3;subst e1 e3
  exact ho
 ·rcases hat with h|h
  ·exact .inl h
  ·exact .inr (by omega)
theorem mY {B A:Option Addr} {g:Nat} {w:World} {base m d:Nat} {ys:List Int} (h:eJ B A) (hB:OS w base B m d ys) (hg:blk A=some g\/w.heap.size<=g):eJ B (some ⟨g,0,none⟩):=fun k hk e=>by
 injection e with e
 dsimp only at e
 subst e;rcases hg with hg|hg
 ·exact h _ hk hg
 ·have:=(hB.aj _ hk).2;omega
theorem fL (f:Nat->Int) (n i:Nat) (h:i<n):(fl f n).getD i 0=f i:=by simp[fl,List.getD_eq_getElem?_getD,h]
def vy (n:Nat) (xs:List Int) (w:World) (e:Ending) (w':World):Prop:=∃ (A:Option Addr) (c:Nat),e= .returned (.slice A n c)/\OS w' w.heap.size A n c xs/\Below w.heap.size w w'
theorem zH.n {xs:List Int} {w:World} {e:Ending} {w':World} {n:Nat} (h:zH xs w e w') (hn:xs.length=n):vy n xs w e w':=by subst hn;exact h
theorem FG (l:List Int) (lo hi:Int) (h:∀ x∈l,lo<=x/\x<=hi) (v:Int) (h0:0<=v) (h1:v<l.length):∃ x,l[v.toNat]?=some x/\lo<=x/\x<=hi:=by
 have hk:v.toNat<l.length:=by omega
 exact⟨l[v.toNat],List.getElem?_eq_getElem hk,h _ (List.getElem_mem hk)⟩
theorem kr (w:World) (l:List Int) (t:TypeId) (k:Nat):(w.alloc (.cells (l.map (Value.int .i64)).toArray t)).cell? ⟨w.heap.size,k,none⟩=(l[k]?).map (Value.int .i64):=by
 rw[cell_of_row _ w.heap.size k _ t (0,0) (heap_alloc_new w _)]
 simp
theorem OS.only {w w':World} {base n cap rb:Nat} {A:Option Addr} {xs:List Int} (h:OS w base A n cap xs) (ho:aZ rb w w') (hr:rb<base):OS w' base A n cap xs:=h.au ho.size fun g hg hl=>ho.block g hl (fun e=>by injection e;have:=(h.aj g hg).1;omega)
theorem yH:(List.range 4096).all (fun x=>decide ((x ^^^ 2048:Nat)=if 2048<=x then x-2048 else x+2048))=true:=by decide +kernel
theorem xe {x:Int} (h:0<=x/\x<=4095):IntKind.i64.wrap (bits .xor .i64 x 2048-2048)=sgn x:=by
 obtain⟨m,rfl⟩:∃ m:Nat,x=(m:Int):=⟨x.toNat,by omega⟩
 have hm:m<4096:=by omega
 have e:=GQ m 2048 (by omega) (by omega)
 have e2:((2048:Nat):Int)=(2048:Int):=rfl;rw[e2] at e;rw[e];have h1:=of_decide_eq_true (List.all_eq_true.1 yH m (List.mem_range.2 hm));rw[h1];unfold sgn;rw[if_pos (aR h)]
 split
 ·rw[if_pos (by omega),IntWalk.i64_in _ (by omega)];omega
 ·rw[if_neg (by omega),IntWalk.i64_in _ (by omega)];omega
theorem Bd (x:Int): -4096<=sgn x/\sgn x<=2047:=by
 unfold sgn
 split
 ·have:=kJ (by assumption);split <;> omega
 ·omega
theorem zx {x:Int} (h:¬(0<=x/\x<=4095)):sgn x= -4096:=by
 unfold sgn;rw[bF h];rfl
theorem xf {x:Int} (h:0<=x/\x<=4095) (h2:2048<=x):sgn x=x-4096:=by
 unfold sgn;rw[if_pos (aR h),if_pos h2]
theorem xg {x:Int} (h:0<=x/\x<=4095) (h2:¬2048<=x):sgn x=x:=by
 unfold sgn;rw[if_pos (aR h),if_neg h2]
theorem dL (x:Int) (w:World):Calls prog 108 #[.int .i64 x] w fun e w'=>e= .returned (.int .i64 (sgn x))/\w=w':=by
 by_cases h:0<=x/\x<=4095
 ·have hs:=xe h;have HS:=Qh hs
  go_enter func108,ntmps108
  go_wp2_with fail
  refine Qc (an x h _) ?_;go_wp2
  go_ret
  first|exact⟨rfl,rfl⟩|exact⟨ag HS.out,rfl⟩
 ·rw[zx h]
  go_enter func108,ntmps108
  go_wp2_with fail
  refine Qc (bZ x h _) ?_;go_wp2
  go_ret
  exact⟨rfl,rfl⟩
theorem dN (x:Int) (w:World):Calls prog 141 #[.int .i64 x] w fun e w'=>e= .returned (.int .i64 (sgn x))/\w=w':=by
 by_cases h:0<=x/\x<=4095
 ·by_cases h2:2048<=x
  ·have hw:IntKind.i64.wrap (x-4096)=x-4096:=IntWalk.i64_in _ (by omega)
   rw[xf h h2]
   go_enter func141,ntmps141
   go_wp2_with fail
   refine Qc (ak x h _) ?_;go_wp2
   go_ret
   exact⟨rfl,rfl⟩
  ·rw[xg h h2]
   go_enter func141,ntmps141
   go_wp2_with fail
   refine Qc (ak x h _) ?_;go_wp2
   go_ret
   exact⟨rfl,rfl⟩
 ·rw[zx h]
  go_enter func141,ntmps141
  go_wp2_with fail
  refine Qc (bM x h _) ?_;go_wp2
  go_ret
  exact⟨rfl,rfl⟩
theorem pO {f:Int->Bool} {xs:List Int} {x:Int} (hm:x∈xs) (h:f x=false):xs.all f=false:=by
 rw[List.all_eq_false];exact⟨x,hm,by simp[h]⟩
theorem k_ {f:Int->Bool} {xs:List Int} {k:Nat} (h1:k<xs.length) (h:(xs.take k).all f=true) (hx:f (xs.getD k 0)=true):(xs.take (k+1)).all f=true:=by
 rw[eX xs k h1] at hx;rw[ji xs k h1,List.all_append,h];simp[hx]
theorem iY (A:Option Addr) (n c:Nat) (xs:List Int) (w:World) (hx:SI w A n xs) (bn:n<=281474976710656) :
  Calls prog 107 #[.slice A n c] w fun e w'=>e= .returned (.bool (xs.all rv))/\w=w':=by
 by_cases h0:n=0
 ·subst h0;have e0:xs=[]:=List.eq_nil_of_length_eq_zero hx.1;subst e0;clear hx
  go_enter func107,ntmps107
  go_wp2;refine wp_loop_rounds 1 ?_;rw[rounds_succ];go_wp2
  go_ret
  exact⟨rfl,rfl⟩
 obtain⟨b,off,rfl,hb,hc⟩:=hx.2 (by omega)
 have lx:=Qh hx.1;have HC:=Qh hc;clear hx hc
 go_enter func107,ntmps107
 go_wp2
 go_loop [7] (fun i=>∃ k:Nat,k<=n/\i= .int .i64 k/\Hid ((xs.take k).all rv=true)) (fun i=>n-(intOf i).toNat)
 case atStart=>exact⟨0,Nat.zero_le _,rfl,by simp[Hid]⟩
 case round =>
  obtain⟨k,hk,rfl,heq⟩:=hrel
  by_cases hlt:k<n
  ·obtain⟨x,ex⟩:∃ x,x=xs.getD k 0:=⟨_,rfl⟩;have cx:w.cell? ⟨b,off+k,none⟩=some (.int .i64 x):=by rw[ex];exact HC.out k hlt
   have EX:=Qh ex;clear ex
   by_cases hxv:0<=x/\x<=4095
   ·go_wp2_with fail
    refine Qc (an x hxv _) ?_;go_wp2
    go_round
    case rel=>exact⟨k+1,by omega,by go_num,k_ (by rw[lx.out];exact hlt) heq.out (by rw[<-EX.out];exact aR hxv)⟩
    case measure=>simp[intOf];omega
   ·have hfin:xs.all rv=false:=pO (j7 (k:=k) (by rw[lx.out];exact hlt)) (by rw[<-EX.out];exact bF hxv)
    have HF:=Qh hfin;clear hfin
    go_wp2_with fail
    refine Qc (bZ x hxv _) ?_;go_wp2
    go_ret
    exact⟨dn (a:=false) HF.out.symm,rfl⟩
  ·have hfin:xs.all rv=true:=by
    have:k=n:=by omega
    subst this;have h:=heq.out
    rwa [List.take_of_length_le (by rw[lx.out];exact Nat.le_refl _)] at h
   have HF:=Qh hfin;clear hfin heq;go_wp2
   go_ret
   exact⟨dn (a:=true) HF.out.symm,rfl⟩
section
def EI (s:Nat) (w:World) (A:Option Addr) (n:Nat) (zs:List Int):Prop:=SI w A (n*s) zs
def EO (T:TypeId) (s:Nat) (w:World) (base:Nat) (A:Option Addr) (n cap:Nat) (zs:List Int):Prop:=w.ownsRow base T s (.slice A n cap) n (zs.map (Value.int .i64))
theorem wQ {n s k j:Nat} (hk:k<n) (hj:j<s):k*s+j<n*s:=by
 have h:(k+1)*s<=n*s:=Nat.mul_le_mul_right s hk;rw[Nat.add_mul,Nat.one_mul] at h
 omega
section
variable {w w':World} {base n cap s:Nat} {A:Option Addr} {xs:List Int} {T:TypeId}
theorem EI.at (h:EI s w A n xs) (hs:0<s) (h0:0<n):∃ b off:Nat,A=some ⟨b,off,none⟩/\b<w.heap.size/\∀ k j,k<n->j<s->w.cell? ⟨b,off+(k*s+j),none⟩=some (.int .i64 (xs.getD (k*s+j) 0)):=by
 obtain⟨b,off,rfl,hb,hc⟩:=h.2 (Nat.mul_pos h0 hs)
 exact⟨b,off,rfl,hb,fun k j hk hj=>hc (k*s+j) (wQ hk hj)⟩
theorem EI.at2 (h:EI 2 w A n xs) (h0:0<n):∃ b off:Nat,A=some ⟨b,off,none⟩/\b<w.heap.size/\∀ k,k<n->w.cell? ⟨b,off+k*2,none⟩=some (.int .i64 (xs.getD (k*2) 0))/\w.cell? ⟨b,off+k*2+1,none⟩=some (.int .i64 (xs.getD (k*2+1) 0)):=by
 obtain⟨b,off,rfl,hb,hc⟩:=h.at (by omega) h0
 exact⟨b,off,rfl,hb,fun k hk=>⟨hc k 0 hk (by omega),by have:=hc k 1 hk (by omega);rwa [<-Nat.add_assoc] at this⟩⟩
theorem EO.len (h:EO T s w base A n cap xs):xs.length=n*s:=by have:=h.1;simpa using this
theorem EO.dC (h:EO T s w base A n cap xs):n<=cap/\cap<=maxLen:=by
 rcases h.2 with⟨e,e'⟩|⟨g,c,cur,e,_,_,h1,h2,_⟩
 ·injection e with e1 e2 e3;subst e3;subst e';exact⟨Nat.le_refl _,by unfold maxLen;omega⟩
 ·injection e with e1 e2 e3;subst e3;exact⟨h1,h2⟩
theorem EO.pos (h:EO T s w base A n cap xs) (hn:0<n):∃ g,A=some ⟨g,0,none⟩/\base<=g/\g<w.heap.size:=by
 rcases h.2 with⟨e,e'⟩|⟨g,c,cur,e,hb,hh,_⟩
 ·omega
 ·injection e with e1
  exact⟨g,e1,hb,(Array.getElem?_eq_some_iff.1 hh).1⟩
theorem EO.si (h:EO T s w base A n cap xs):EI s w A n xs:=⟨h.len,fun hn=>by
 obtain⟨g,rfl,hb,hl⟩:=h.pos (Nat.pos_of_ne_zero fun e=>by subst e;omega)
 refine⟨g,0,rfl,hl,fun i hi=>?_⟩
 have:=World.ownsRow.cellAt h i hi;have hi':i<xs.length:=by rw[h.len];exact hi
 rw[Nat.zero_add,this,List.getElem?_map,List.getElem?_eq_getElem hi']
 simp[hi']⟩
theorem EO.aj (h:EO T s w base A n cap xs):∀ g,blk A=some g->base<=g/\g<w.heap.size:=fun g hg=>h.lt g (by rw[aO];exact hg)
theorem EO.frozen (h:EO T s w base A n cap xs) (j:Nat):∀ g,A=some ⟨g,0,none⟩->w.frozen? ⟨g,j,none⟩=false:=fun g hg=>by subst hg;exact World.ownsRow.frozenAt h j
theorem EO.au (h:EO T s w base A n cap xs) (hs:w.heap.size<=w'.heap.size) (hk:∀ g,blk A=some g->g<w.heap.size->w'.heap[g]?=w.heap[g]?):EO T s w' base A n cap xs:=by
 refine⟨h.1,?_⟩;rcases h.2 with hn|⟨g,c,cur,e,hb,hh,rest⟩
 ·exact .inl hn
 ·refine .inr ⟨g,c,cur,e,hb,?_,rest⟩;rw[hk g (by injection e with e1;rw[e1];rfl) (Array.getElem?_eq_some_iff.1 hh).1]
  exact hh
theorem EO.below (h:EO T s w base A n cap xs) (hb:Below w.heap.size w w'):EO T s w' base A n cap xs:=h.au hb.size fun g _ hg=>hb.block g hg
theorem EO.alloc (h:EO T s w base A n cap xs) (o:Obj):EO T s (w.alloc o) base A n cap xs:=h.au (by simp) fun g _ hg=>Below.heap_alloc w o g hg
theorem EO.drewN (h:EO T s w base A n cap xs) (k:Nat):EO T s (w.drewN k) base A n cap xs:=h
theorem EO.bR {B:Option Addr} (h:EO T s w base A n cap xs) (ho:bJ B w w') (ha:eJ A B):EO T s w' base A n cap xs :=
 h.au ho.size fun g hg hl=>ho.block g hl (fun e=>ha g hg e.symm)
theorem EO.only {rb:Nat} (h:EO T s w base A n cap xs) (ho:aZ rb w w') (hr:rb<base):EO T s w' base A n cap xs:=h.au ho.size fun g hg hl=>ho.block g hl (fun e=>by injection e;have:=(h.aj g hg).1;omega)
theorem EO.nil (w:World) (base:Nat):EO T s w base none 0 0 []:=World.ownsRow_nil w base _ _
theorem EO.mono {base':Nat} (h:EO T s w base A n cap xs) (hb:base'<=base):EO T s w base' A n cap xs:=by
 refine⟨h.1,?_⟩;rcases h.2 with hn|⟨g,c,cur,e,hg,rest⟩
 ·exact .inl hn
 ·exact .inr ⟨g,c,cur,e,by omega,rest⟩
theorem EO.store {g:Nat} (h:EO T s w base (some ⟨g,0,none⟩) n cap xs) (j:Nat) (x:Int):EO T s (w.setCell ⟨g,j,none⟩ (.int .i64 x)) base (some ⟨g,0,none⟩) n cap (xs.set j x):=by
 have:=(World.ownsRow.stored h j (.int .i64 x)).1;rw[<-List.map_set] at this
 exact this
theorem EO.cell {g:Nat} (h:EO T s w base (some ⟨g,0,none⟩) n cap xs) (j:Nat) (hj:j<n*s):w.cell? ⟨g,j,none⟩=some (.int .i64 (xs.getD j 0)):=by
 obtain⟨b,off,e,_,hc⟩:=h.si.2 (by omega)
 injection e with e;injection e with e1 e2;subst e1 e2;have:=hc j hj
 rwa [Nat.zero_add] at this
theorem EO.form {v:Value} (h:w.ownsRow base T s v n (xs.map (Value.int .i64))):∃ A c,v= .slice A n c/\EO T s w base A n c xs:=by
 rcases h.2 with⟨rfl,rfl⟩|⟨g,c,cur,rfl,r⟩
 ·exact⟨none,0,rfl,h⟩
 ·exact⟨some ⟨g,0,none⟩,c,rfl,h⟩
theorem EO.push {wr w1:World} {k c m:Nat} {ys:List Int} {v':Value} {o:Obj} (hos:EO T s wr base A k c xs) (hb:Below base w wr) (hbs:base<=wr.heap.size)
  (hown:w1.ownsRow base T s v' (k+m) (xs.map (Value.int .i64)++ys.map (Value.int .i64))) (hg:(wr.alloc o).grownBy w1 (Value.slice A k c).ownBlock) :
  ∃ A' c',v'= .slice A' (k+m) c'/\EO T s w1 base A' (k+m) c' (xs++ys)/\Below base w w1:=by
 obtain⟨A',c',hv,ho⟩:=EO.form (xs:=xs++ys) (by simpa using hown)
 refine⟨A',c',hv,ho,?_⟩;refine((hb.alloc hbs o).grown hg (by simp;omega) (fun g hg'=>?_))
 rw[aO] at hg'
 exact(hos.aj g hg').1
end
end
def cv (w:World) (g o:Nat):Value:=(w.cell? ⟨g,o,none⟩).getD undef
theorem OS.dk {w:World} {base n c g i:Nat} {A:Option Addr} {xs:List Int} {t:TypeId} {cs:Array Value} (h:OS w base A n c xs) (hb:Blk w g t cs) (hne:3≠t) (u:Value):OS (w.setCell ⟨g,i,none⟩ u) base A n c xs:=by
 refine h.au (by simp[World.setCell]) fun g' hg' hl=>Below.heap_setCell w _ u g' ?_
 rintro rfl;rcases h.2 with⟨e,_⟩|⟨g2,cap,cur,e,_,hh,_⟩
 ·injection e with e1;subst e1;cases hg'
 ·injection e with e1;subst e1;injection hg' with hg'
  dsimp only at hg'
  subst hg';unfold Blk at hb;rw[hb] at hh;injection hh with hh;injection hh with _ hh
  exact hne hh.symm
theorem bf {w:World} {base n c h:Nat} {A:Option Addr} {xs:List Int} {t:TypeId} {cs:Array Value} (ho:OS w base A n c xs) (hb:Blk w h t cs) (hne:3≠t):blk A≠some h:=by
 intro e;rcases ho.2 with⟨e1,_⟩|⟨g2,cap,cur,e1,_,hh,_⟩
 ·injection e1 with e1;subst e1;cases e
 ·injection e1 with e1;subst e1;injection e with e
  dsimp only at e
  subst e;unfold Blk at hb;rw[hb] at hh;injection hh with hh;injection hh with _ hh
  exact hne hh.symm
theorem Blk.bR {w w':World} {g:Nat} {A:Option Addr} {t:TypeId} {cs:Array Value} (h:Blk w g t cs) (ho:bJ A w w') (hne:blk A≠some g):Blk w' g t cs:=(ho.block g h.lt (fun e=>hne e.symm)).trans h
theorem yg {W W0 w1:World} {base n c m g cap:Nat} {A:Option Addr} {xs ys:List Int} (hos:OS W base A n c xs) (hg:W0.grownBy w1 (Value.slice A n c).ownBlock) (h0:Below W.heap.size W W0)
  (hown:w1.ownsRow base 3 1 (.slice (some ⟨g,0,none⟩) (n+m) cap) (n+m) (xs.map (Value.int .i64)++ys.map (Value.int .i64))):OS w1 base (some ⟨g,0,none⟩) (n+m) cap (xs++ys)/\bJ A W w1:=by
 rw[aO] at hg;refine⟨?_,⟨hg.os.trans h0.os,hg.tape.trans h0.tape,hg.output.trans h0.output,Nat.le_trans h0.size hg.size,fun i hi hne=>(hg.block i (Nat.lt_of_lt_of_le hi h0.size) hne).trans (h0.block i hi)⟩⟩
 unfold OS;rw[List.map_append]
 exact hown
theorem mT (w:World) {base:Nat} (hb:base<=w.heap.size):OS (w.alloc (.cells #[] 3)) base (some ⟨w.heap.size,0,none⟩) 0 0 []:=OS.mono (World.ownsRow_made w _ 0 Ql (by unfold maxLen;omega) rfl) hb
theorem yf (W:World) {base g:Nat} (hb:base<=g) (hg:W.heap.size=g):OS (W.alloc (.cells #[] 3)) base (some ⟨g,0,none⟩) 0 0 []:=by subst hg;exact mT W hb
theorem ux {w1:World} {b off n:Nat} {v:List Int} (hl:v.length=n) (h:∀ k,k<n->w1.cell? ⟨b,off+k,none⟩=some (.int .i64 (v.getD k 0))):∀ j u,(v.map (Value.int .i64))[j]?=some u->w1.cell? ((⟨b,off,none⟩:Addr).add j)=some u:=by
 intro j u hu;have hj:j<v.length:=by
  rcases Nat.lt_or_ge j v.length with h|h
  ·exact h
  ·rw[List.getElem?_eq_none (by simpa using h)] at hu;cases hu
 have hadd:(⟨b,off,none⟩:Addr).add j=⟨b,off+j,none⟩:=by unfold Addr.add;split <;> simp_all
 rw[hadd,h j (by omega),<-hu,eX v j hj]
 simp[hj]
end Go.Proofs.YtjciicheoghcdaaGreatDoor

/- Part of the proof that the law FnServiceLine of the given program returns true for every input. -/
import Derived.Test.YtjciicheoghcdaaGreatDoorXk
import Derived.Test.YtjciicheoghcdaaGreatDoorXl
import Derived.Test.YtjciicheoghcdaaGreatDoorXo
import Derived.Test.YtjciicheoghcdaaGreatDoorXp
import Derived.Test.YtjciicheoghcdaaGreatDoorXq
import Derived.Test.YtjciicheoghcdaaGreatDoorXr
namespace Go.Proofs.YtjciicheoghcdaaGreatDoor
open Go.RowKit
set_option linter.unusedSimpArgs false
set_option linter.unusedVariables false
set_option maxRecDepth 20000
set_option maxHeartbeats 16000000
section
theorem OX.Dw {α:Type} {E:Elt α} {w wr w1:World} {base k c g cap' B:Nat} {T:TypeId} {A:Option Addr} {css:List (List Value)} {xs:List α} {F F1:List Nat} {ys:List Value} {x:α} (h:OX E wr base T A k c css xs F) (hx:E.P wr ys x F1) (hf:Fr wr base F1) (hd:∀ g,g∈F1->g∉F/\blk A≠some g) (hb:Below B w wr) (hB:B<=base) (hbs:base<=wr.heap.size) (hBw:B<=w.heap.size)
  (hown:w1.ownsRow base T E.s (.slice (some ⟨g,0,none⟩) (k+1) cap') (k+1) (css.flatten++ys)) (hg:wr.grownBy w1 (Value.slice A k c).ownBlock)
  (hat:(Value.slice A k c).ownBlock=some g\/g=wr.heap.size) :
  OX E w1 base T (some ⟨g,0,none⟩) (k+1) cap' (css++[ys]) (xs++[x]) (F++F1)/\Below B w w1/\bJ A wr w1:=by
 rw [aO] at hg hat;have v3:bJ A wr w1:=hg;have v4:blk A=some g\/wr.heap.size<=g:=hat.imp id (fun e=>by omega)
 have hk:∀ g',g'<wr.heap.size->blk A≠some g'->w1.heap[g']?=wr.heap[g']?:=fun g' hl hne=>v3.block g' hl (fun e=>hne e.symm)
 have hFA:∀ g',g'∈F->blk A≠some g':=fun g' hg' e=>h.2.2.2.2 g' e hg'
 refine ⟨⟨by unfold VO;rw [List.flatten_append];simpa using hown,by rw [List.length_append,h.2.1];rfl,?_,?_,?_⟩,hb.grown hg (by have:=hb.size;omega) (fun g hg'=>Nat.le_trans hB (h.aj g hg').1),v3⟩
 ·exact (h.2.2.1.au fun g' hg'=>hk g' (h.lt g' hg') (hFA g' hg')).push (E.au _ _ _ _ _ hx fun g' hg'=>hk g' (E.lt _ _ _ _ hx g' hg') (hd g' hg').2)
 ·exact (h.2.2.2.1.au fun g' hg'=>hk g' (h.lt g' hg') (hFA g' hg')).app (hf.au fun g' hg'=>hk g' (hf.lt g' hg') (hd g' hg').2) (fun g' h1 h2=>(hd g' h2).1 h1)
 ·intro g' hg' hF;have e:g=g':=by simpa [blk] using hg'
  subst e;rcases v4 with h4 | h4
  ·rcases List.mem_append.1 hF with hF | hF
   ·exact hFA g hF h4
   ·exact (hd g hF).2 h4
  ·rcases List.mem_append.1 hF with hF | hF
   ·have:=h.lt g hF;omega
   ·have:=hf.lt g hF;omega
def ApI (t T:TypeId) (s:Nat):Prop:=∃ (i:TypeInfo) (z:Value) (bytes:Nat),Tryz.prog.underlying t=some (.slice T)/\Tryz.prog.info? T=some i/\i.zero=some z/\i.size=s/\i.bytes=bytes/\z.cells.size=s/\0<s/\bytes<=1000
theorem apM:ApI 69 37 3:=by obtain ⟨i0,hi,hz0,hz1,hz2⟩:=info_parts rI;exact ⟨i0,_,_,Tryz.underlying69,hi,hz0,hz1,hz2,rfl,by decide,by decide⟩
theorem Cx:ApI 97 82 6:=by obtain ⟨i0,hi,hz0,hz1,hz2⟩:=info_parts lq;exact ⟨i0,_,_,Tryz.underlying97,hi,hz0,hz1,hz2,rfl,by decide,by decide⟩
theorem zY:ApI 23 99 2:=by obtain ⟨i0,hi,hz0,hz1,hz2⟩:=info_parts nJ;exact ⟨i0,_,_,Tryz.underlying23,hi,hz0,hz1,hz2,rfl,by decide,by decide⟩
section
variable {α:Type} {E:Elt α} {t T t':TypeId} {w w' w0 u:World} {L M:List Ow} {c d:Ow} {b n k q g g0 h0 cap:Nat} {A:Option Addr} {css:List (List Value)} {xs:List α} {F F1:List Nat} {cs ds:List Value} {x:α} {o:Oper} {a:Act} {R:Value->World->Prop} {S:World->Prop} {gs:List Nat}
theorem jv (I:ApI t T E.s) (ty:TypeId) (hC:OX E w b T A n k css xs F) (hB:Blk w g0 T cs.toArray) (hl:cs.length=E.s) (h1:∀ v,v∈cs->v.oneCell'=true) (hn:n<=1000000) (hb:b<=w.heap.size) :
  ∃ g cap w',(Builtin.append_ #[t,t] ty #[.slice A n k,.slice (some ⟨g0,0,none⟩) 1 q]).run Tryz.prog w= .ok (.slice (some ⟨g,0,none⟩) (n+1) cap) w'/\w'.ownsRow b T E.s (.slice (some ⟨g,0,none⟩) (n+1) cap) (n+1) (css.flatten++cs)/\w.grownBy w' (Value.slice A n k).ownBlock/\((Value.slice A n k).ownBlock=some g\/g=w.heap.size):=by
 obtain ⟨i,z,bytes,k1,k2,k3,k4,k5,k6,k7,k8⟩:=I;obtain ⟨g,cap,w',hr,r1,r2,r3,_⟩:=run_append_lies (P:=Tryz.prog) w t ty b T i z E.s bytes k1 k2 k3 k4 k5 k6 k7 (.slice A n k) n _ hC.1 ⟨g0,0,none⟩ 1 q cs (by omega) (fun j u hu=>World.news_of_block (show w.heap[g0]?=some (.cells cs.toArray T) from hB) j u (by simpa using hu)) h1
  (by omega) (by unfold maxLen;omega) (Nat.le_trans (Nat.mul_le_mul (show n+1<=1000001 by omega) k8) (by omega)) hb w.heap.size rfl
 exact ⟨g,cap,w',hr,r1,r2,r3⟩
theorem Hq.apx (H:Hq w0 (qX E w0.heap.size T A n k css xs F::d::L) w) (hx:E.P w cs x F1) (hf:Fr w w0.heap.size F1) (hF:∀ i,i∈F1->d.F i)
  (hown:w'.ownsRow w0.heap.size T E.s (.slice (some ⟨g,0,none⟩) (n+1) cap) (n+1) (css.flatten++cs)) (hg:w.grownBy w' (Value.slice A n k).ownBlock) (hat:(Value.slice A n k).ownBlock=some g\/g=w.heap.size):Hq w0 (qX E w0.heap.size T (some ⟨g,0,none⟩) (n+1) cap (css++[cs]) (xs++[x]) (F++F1)::L) w':=by
 have hO:OX E w w0.heap.size T A n k css xs F:=H.S.1;have hd:∀ i,i∈F1->i∉F/\blk A≠some i:=fun i hi=>⟨fun h=>H.S.2.1 i (.inr h) d (List.mem_cons_self ..) (hF i hi),fun h=>H.S.2.1 i (.inl h) d (List.mem_cons_self ..) (hF i hi)⟩
 obtain ⟨k1,k2,k3⟩:=OX.Dw hO hx hf hd H.O (Nat.le_refl _) H.m (Nat.le_refl _) hown hg hat;rw [aO] at hat;refine ⟨⟨k1,fun i hi e he hei=> ?_,H.S.2.2.2.2.au k3.size fun e he i hi hl=>k3.block i hl fun h=>H.S.2.1 i (.inl h.symm) e (List.mem_cons_of_mem _ he) hi⟩,fun e he i hi=> ?_,k2⟩
 ·rcases hi with hi | hi
  ·have e1:g=i:=by simpa [blk] using hi
   subst e1;rcases hat with h | h
   ·exact H.S.2.1 g (.inl h) e (List.mem_cons_of_mem _ he) hei
   ·have:=H.S.lt e (List.mem_cons_of_mem _ (List.mem_cons_of_mem _ he)) g hei;omega
  ·rcases List.mem_append.1 hi with hi | hi
   ·exact H.S.2.1 i (.inr hi) e (List.mem_cons_of_mem _ he) hei
   ·exact H.S.2.2.2.1 i (hF i hi) e he hei
 ·rcases List.mem_cons.1 he with rfl | he
  ·rcases hi with hi | hi
   ·exact (k1.aj i hi).1
   ·exact (k1.2.2.2.1.2 i hi).1
  ·exact H.tl.tl.B e he i hi
theorem Hr.apx (Z:Hr S u gs w0 (qX E w0.heap.size T A n k css xs F::d::L) w) (hx:E.P w cs x F1) (hf:Fr w w0.heap.size F1) (hF:∀ i,i∈F1->d.F i)
  (hown:w'.ownsRow w0.heap.size T E.s (.slice (some ⟨g,0,none⟩) (n+1) cap) (n+1) (css.flatten++cs)) (hg:w.grownBy w' (Value.slice A n k).ownBlock) (hat:(Value.slice A n k).ownBlock=some g\/g=w.heap.size) (hn:∀ i,i∈gs->blk A≠some i):Hr S u gs w0 (qX E w0.heap.size T (some ⟨g,0,none⟩) (n+1) cap (css++[cs]) (xs++[x]) (F++F1)::L) w' :=
 ⟨Z.H.apx hx hf hF hown hg hat,Z.cl,Z.cl.up _ _ (fun i=>blk A=some i) (UpL.bR (A:=A) UpL.refl (by unfold bJ;rw [<- aO A n k];exact hg) (fun _ _ e=>e)) (fun i hi e=>hn i hi e) Z.s⟩
theorem Hq.nbx (H:Hq w0 (qX E b T A n k css xs F::L) w) (m:Has L (qB h0 t' ds)):blk A≠some h0:=fun e=>H.S.2.1 h0 (.inl e) _ m.mem rfl
theorem Hq.nex (H:Hq w0 (qX E b T A n k css xs F::L) w) (h:h0<w0.heap.size):blk A≠some h0:=fun e=>Nat.not_lt.2 (H.B (qX E b T A n k css xs F) (List.mem_cons_self ..) _ (.inl e)) h
theorem mu (I:ApI t T E.s) (s y:Operand) (ho:o.op= .call { callee:= .builtin .append,args:=#[s,y],argTypes:=#[t,t] }) (hs:a.eval s= .slice A n k) (hy:a.eval y= .slice (some ⟨g0,0,none⟩) 1 q) (Z:Hr S u gs w0 (qX E w0.heap.size T A n k css xs F::d::L) w) (hB:Blk w g0 T cs.toArray)
  (hx:E.P w cs x F1) (hf:Fr w w0.heap.size F1) (hF:∀ i,i∈F1->d.F i) (h1:∀ v,v∈cs->v.oneCell'=true) (hn:n<=1000000) (hgs:∀ i,i∈gs->blk A≠some i)
  (h:∀ g cap w',Hr S u gs w0 (qX E w0.heap.size T (some ⟨g,0,none⟩) (n+1) cap (css++[cs]) (xs++[x]) (F++F1)::L) w'->R (.slice (some ⟨g,0,none⟩) (n+1) cap) w'):Oper.gives Tryz.prog o a w R:=by
 obtain ⟨g,cap,w',hr,r1,r2,r3⟩:=jv (q:=q) I o.type Z.H.S.1 hB (E.len _ _ _ _ hx) h1 hn Z.H.m;unfold Oper.gives execOp;simp only [ho,resolve,invoke,builtin,Sem.run_bind,Sem.run_pure,Result.andThen_ok,List.map_toArray,List.map_cons,List.map_nil,hs,hy,hr]
 exact h g cap w' (Z.apx hx hf hF r1 r2 r3 hgs)
theorem lU {ops:Array Oper} {rest:List Oper} {Q:Exit->Act->World->Prop} (hgd:o.guard=none) (I:ApI t T E.s) (s y:Operand) (ho:o.op= .call { callee:= .builtin .append,args:=#[s,y],argTypes:=#[t,t] }) (hs:a.eval s= .slice A n k) (hy:a.eval y= .slice (some ⟨g0,0,none⟩) 1 q) (Z:Hq w0 (qX E w0.heap.size T A n k css xs F::d::L) w) (hB:Blk w g0 T cs.toArray)
  (hx:E.P w cs x F1) (hf:Fr w w0.heap.size F1) (hF:∀ i,i∈F1->d.F i) (h1:∀ v,v∈cs->v.oneCell'=true) (hn:n<=1000000)
  (h:∀ g cap w',Hq w0 (qX E w0.heap.size T (some ⟨g,0,none⟩) (n+1) cap (css++[cs]) (xs++[x]) (F++F1)::L) w'->wpList Tryz.prog ops Q rest (a.put o.dst (.slice (some ⟨g,0,none⟩) (n+1) cap)) w'):wpList Tryz.prog ops Q (o::rest) a w :=
 wpList_plain hgd fun _ hK=>by
  obtain ⟨g,cap,w',hr,r1,r2,r3⟩:=jv (q:=q) I o.type Z.S.1 hB (E.len _ _ _ _ hx) h1 hn Z.m;unfold Oper.wp execOp;simp only [ho,resolve,invoke,builtin,Sem.run_bind,Sem.run_pure,Result.andThen_ok,List.map_toArray,List.map_cons,List.map_nil,hs,hy,hr]
  exact hK _ _ (h g cap w' (Z.apx hx hf hF r1 r2 r3))
theorem Hq.mrg (H:Hq w0 (c::d::L) w):Hq w0 (c.and d::L) w:=by
 refine ⟨⟨⟨H.S.1,H.S.2.2.1⟩,fun i hi e he=>hi.elim (fun h=>H.S.2.1 i h e (List.mem_cons_of_mem _ he)) (fun h=>H.S.2.2.2.1 i h e he),H.S.2.2.2.2⟩,fun e he i hi=> ?_,H.O⟩
 rcases List.mem_cons.1 he with rfl | he
 ·exact hi.elim (H.B c (List.mem_cons_self ..) i) (H.B d (List.mem_cons_of_mem _ (List.mem_cons_self ..)) i)
 ·exact H.tl.tl.B e he i hi
theorem Hr.mrg (Z:Hr S u gs w0 (c::d::L) w):Hr S u gs w0 (c.and d::L) w:=Z.re Hq.mrg
theorem Hq.ye (H:Hq w0 L w) (E:Elt α) (T:TypeId):Hq w0 (qX E w0.heap.size T none 0 0 [] [] []::L) w:=H.add (Below.refl _ _) _ (OX.nil w _ T) fun i hi=>hi.elim (fun e=>by cases e) (fun e=>by cases e)
theorem Hr.ye (Z:Hr S u gs w0 L w) (E:Elt α) (T:TypeId):Hr S u gs w0 (qX E w0.heap.size T none 0 0 [] [] []::L) w:=Z.re fun H=>H.ye E T
theorem Hq.bsX (H:Hq w0 L w) (E:Elt α) (hg:w.heap.size=g):Hq w0 (qX E w0.heap.size T (some ⟨g,0,none⟩) 0 0 [] [] []::L) (w.alloc (.cells #[] T)):=by
 subst hg
 exact H.add ((Below.refl _ _).alloc (Nat.le_refl _) _) _ (OX.kG w H.m T) fun i hi=>hi.elim (fun e=>by simp [blk] at e;omega) (fun e=>by cases e)
theorem OX.rf (h:OX E w b T A n k css xs F) (hT:T≠25:=by decide):∃ F',RI E w A n k xs F'/\Fr w b F'/\∀ i,i∈F'->blk A=some i\/i∈F:=by
 obtain ⟨h1,h2,h3,h4,h5⟩:=h;have hc:=h1.dC
 by_cases hn:n=0
 ·subst hn;have:xs=[]:=List.eq_nil_of_length_eq_zero h2;subst this
  exact ⟨[],⟨rfl,Nat.zero_le _,hc.2,.inl ⟨rfl,rfl⟩⟩,Fr.nil w b,fun _ hi=>(by cases hi)⟩
 ·obtain ⟨g,rfl,hb,hg⟩:=h1.pos (by omega)
  obtain ⟨cs,hblk⟩:∃ cs,Blk w g T cs:=by
   rcases h1.2 with ⟨e,e'⟩ | ⟨g',c',cur,e,_,hh,_⟩
   ·omega
   ·injection e with e1;injection e1 with e1;injection e1 with e1;subst e1
    exact ⟨_,hh⟩
  refine ⟨g::F,⟨h2,hc.1,hc.2,.inr ⟨g,0,css,F,rfl,hg,rfl,h3,fun i cs hi j hj=> ?_⟩⟩,Fr.cons hblk hb h4 (h5 g rfl) hT,fun i hi=>(List.mem_cons.1 hi).imp (fun e=>by rw [e];rfl) id⟩
  have hil:i<n:=by
   have:=(List.getElem?_eq_some_iff.1 hi).1;rw [h3.length,h2] at this
   exact this
  have hlt:i*E.s+j<n*E.s:=by
   have:(i+1)*E.s<=n*E.s:=Nat.mul_le_mul_right _ hil;rw [Nat.succ_mul] at this
   omega
  rw [Nat.zero_add,h1.cell _ hlt];have:=iG (rest:=[]) h3.lens i cs hi j hj
  rwa [List.append_nil] at this
end
theorem yX {P Q T0:Prop} (c:T0) (k:Q) (h:T0->Wr Q->P:=by
  intro c q;intros
  repeat (first | (refine lc' ?_;intro K hK;go_big_quiet_op;go_big_quiet_on) | refine lk' ?_)
  refine lo' fun K hK=> ?_
  refine mu c.1 _ _ rfl rfl rfl H (Has.blk H.H (by repeat (with_reducible first | exact Has.h0 | apply Has.t0))) c.2.1 c.2.2.1 c.2.2.2 (by simp [Value.oneCell']) (by omega) (by repeat (first | exact all_nil | refine all_cons (by first | assumption | exact Hq.nbx H.H (by repeat (with_reducible first | exact Has.h0 | apply Has.t0)) | exact Hq.nex H.H (by assumption)) ?_)) ?_
  intro g k w' Hn
  (try clear H)
  go_simp
  refine ly' Hn hK ?_;clear hK K c
  repeat (revert ‹Act->World->Prop›;have zz:=q;clear zz)
  revert g k w' Hn
  exact q.o):P:=h c ⟨k⟩
theorem zAx {P Q T0:Prop} (c:T0) (k:Q) (h:T0->Wr Q->P:=by
  intro c q;intros;refine lU rfl c.1 _ _ rfl rfl rfl H (Has.blk H (by repeat (with_reducible first | exact Has.h0 | apply Has.t0))) c.2.1 c.2.2.1 c.2.2.2 (by simp [Value.oneCell']) (by omega) ?_
  intro g k w' Hn
  (try clear H)
  clear c
  repeat (revert ‹Act->World->Prop›;have zz:=q;clear zz)
  revert g k w' Hn
  exact q.o):P:=h c ⟨k⟩
abbrev qV (w:World) (A:Option Addr) (F:List Nat):Ow:=qT (fun i=>i<w.heap.size/\¬ (blk A=some i\/i∈F)) (fun w'=>w.heap.size<=w'.heap.size/\∀ i,i<w.heap.size->¬ (blk A=some i\/i∈F)->w'.heap[i]?=w.heap[i]?) (fun w' h i e=>Nat.lt_of_lt_of_le e.1 h.1)
 (fun w' w'' h hs k=>⟨Nat.le_trans h.1 hs,fun i hi hn=>(k i ⟨hi,hn⟩ (Nat.lt_of_lt_of_le hi h.1)).trans (h.2 i hi hn)⟩)
section
variable {α:Type} {E:Elt α} {T:TypeId} {w w' w0:World} {L:List Ow} {c:Ow} {b n k n' k' g:Nat} {A A':Option Addr} {css css':List (List Value)} {xs xs':List α} {F F':List Nat} {cs:List Value} {x:α} {G:Nat->Prop}
theorem OX.reb {b':Nat} (h:OX E w b T A n k css xs F) (hb:∀ i,blk A=some i\/i∈F->b'<=i):OX E w b' T A n k css xs F:=by
 obtain ⟨h1,h2,h3,h4,h5⟩:=h;refine ⟨⟨h1.1,?_⟩,h2,h3,⟨h4.1,fun g hg=>⟨hb g (.inr hg),(h4.2 g hg).2⟩⟩,h5⟩
 rcases h1.2 with e | ⟨g,c',cur,e,_,rest⟩
 ·exact .inl e
 ·refine .inr ⟨g,c',cur,e,hb g (.inl ?_),rest⟩;injection e with e;rw [e];rfl
theorem Hq.rs0 (h:OX E w b T A n k css xs F):Hq (fI w) [qX E (fI w).heap.size T A n k css xs F,qV w A F] w :=
 ⟨⟨h.mono (Nat.zero_le _),fun i hi d hd hdi=>by
  obtain rfl:d=qV w A F:=by simpa using hd
  exact hdi.2 hi,⟨Nat.le_refl _,fun _ _ _=>rfl⟩,fun i hi d hd=>(by cases hd),trivial⟩,fun _ _ _ _=>Nat.zero_le _,pd w⟩
theorem Hq.rsX (h:OX E w b T A n k css xs F) (hb:b<=w.heap.size) (K:Hq (fI w) [qX E (fI w).heap.size T A' n' k' css' xs' F',qV w A F] w'):OX E w' b T A' n' k' css' xs' F'/\UpL (fun i=>blk A=some i\/i∈F) w w':=by
 refine ⟨OX.reb (K.S.1) fun i hi=> ?_,⟨K.O.os,K.O.tape,K.O.output,K.S.2.2.1.1,K.S.2.2.1.2⟩⟩
 by_cases hw:i<w.heap.size
 ·have hn:=K.S.2.1 i hi _ (List.mem_cons_self ..);have:=Classical.byContradiction fun e=>hn ⟨hw,e⟩
  rcases this with e | e
  ·exact (h.aj i e).1
  ·exact (h.2.2.2.1.2 i e).1
 ·omega
theorem OX.one (h:OX E w b T A n k css [x] F):∃ cs g,css=[cs]/\A=some ⟨g,0,none⟩/\n=1/\E.P w cs x F/\Fr w b F/\(∀ j,j<E.s->w.cell? ⟨g,j,none⟩=cs[j]?)/\g<w.heap.size:=by
 obtain ⟨h1,h2,h3,h4,h5⟩:=h;have hn:n=1:=h2.symm;subst hn
 match css,h3 with
 | [],h3=>cases h3
 | _::_::_,⟨_,_,_,_,h3⟩=>cases h3
 | [cs],⟨F1,F2,e,hp,h3⟩ =>
  have h3:F2=[]:=h3;subst h3;rw [List.append_nil] at e;subst e;obtain ⟨g,rfl,_,hg⟩:=h1.pos (by omega)
  refine ⟨cs,g,rfl,rfl,rfl,hp,h4,fun j hj=> ?_,hg⟩
  have:=h1.cell j (by omega)
  rwa [List.flatten_cons,List.flatten_nil,List.append_nil] at this
theorem OX.ft (h:OX E w b T (some ⟨g,0,none⟩) n k [cs] [x] F):E.P w cs x F/\Fr w b F/\(∀ j,j<E.s->w.cell? ⟨g,j,none⟩=cs[j]?)/\g<w.heap.size:=by
 obtain ⟨cs',g',e,e2,_,h1,h2,h3,h4⟩:=h.one;injection e with e;subst e;injection e2 with e2;injection e2 with e2;subst e2
 exact ⟨h1,h2,h3,h4⟩
theorem UpL.imp {G':Nat->Prop} (h:UpL G w w') (k:∀ i,G i->G' i):UpL G' w w':=⟨h.os,h.tape,h.output,h.size,fun i hi hn=>h.block i hi fun e=>hn (k i e)⟩
theorem Hq.ul (H:Hq w0 (c::L) w) (U:UpL G w w') (hG:∀ i,G i->c.F i):Hq w0 L w' :=
 ⟨H.S.2.2.au U.size fun d hd i hi hl=>U.block i hl fun e=>H.S.2.1 i (hG i e) d hd hi,fun d hd=>H.B d (List.mem_cons_of_mem _ hd),U.over H.O (fun i _ hi=>H.B c (List.mem_cons_self ..) i (hG i hi)) H.m⟩
end
theorem Sp.get' {w:World} {d:Ow}:∀ {L:List Ow},Sp L w->d∈L->d.P w
 | _::_,s,h=>by
  rcases List.mem_cons.1 h with rfl | h
  ·exact s.1
  ·exact s.2.2.get' h
theorem OX.nsv {α:Type} {E:Elt α} {w:World} {b:Nat} {T:TypeId} {A:Option Addr} {n k i:Nat} {css:List (List Value)} {xs:List α} {F:List Nat} {cs:Array Value} (h:OX E w b T A n k css xs F) (hb:Blk w i 25 cs) (hT:T≠25):¬ blk A=some i:=h.1.gu hb hT
theorem OX.fr {α:Type} {E:Elt α} {w:World} {b:Nat} {T:TypeId} {A:Option Addr} {n k:Nat} {css:List (List Value)} {xs:List α} {F:List Nat} (h:OX E w b T A n k css xs F):Fr w b F:=h.2.2.2.1
def Ow.Nv (d:Ow):Prop:=∀ w,d.P w->∀ i,d.F i->∀ cs,¬ Blk w i 25 cs
theorem nvX {α:Type} {E:Elt α} {b:Nat} {T:TypeId} {A:Option Addr} {n k:Nat} {css:List (List Value)} {xs:List α} {F:List Nat} (hT:T≠25:=by decide):(qX E b T A n k css xs F).Nv:=fun w h i hi cs hb=>hi.elim (fun e=>OX.nsv h hb hT e) (fun e=>Fr.zi (OX.fr h) hb e)
theorem nvR {α:Type} {E:Elt α} {b:Nat} {A:Option Addr} {n k:Nat} {xs:List α} {F:List Nat}:(qR E b A n k xs F).Nv:=fun w h i hi cs hb=>Fr.zi h.2 hb hi
theorem nvT {d:Ow} (h:d.Ty):d.Nv:=fun w hp i hi cs hb=>absurd (h w hp i hi _ _ hb) (by decide)
inductive Zv:List Ow->List Ow->Prop
 | z0 {L:List Ow}:Zv L L
 | s0 {c:Ow} {L M:List Ow}:c.Nv->Zv L M->Zv (c::L) M
section
variable {S:World->Prop} {u w w' w0:World} {gs:List Nat} {L L0:List Ow} {c:Ow} {g:Nat} {cs:List Value} {G:Nat->Prop}
theorem Hr.zv (E:Elq u w0 L0) (hb:Below w.heap.size w w') (hg:u.heap.size<=g) (hG:Blk w' g 25 cs.toArray):∀ {L:List Ow},Zv L L0->Hr S u gs w0 L w->Hr S u gs w0 (qB g 25 cs::L) w'
 | _,.z0,Z=>Z.z E hb hg hG
 | _,.s0 hd k,Z=>by
  have K:=Hr.zv E hb hg hG k (Z.re Hq.tl);have h:=Z.b hb;refine ⟨⟨⟨K.H.S.1,fun i hi e he hei=> ?_,h.H.S⟩,fun e he i hi=> ?_,h.H.O⟩,h.cl,h.s⟩
  ·rcases List.mem_cons.1 he with rfl | he
   ·exact hd w' h.H.S.1 i hei _ (by have e:i=g:=hi;rw [e];exact K.H.S.1)
   ·exact K.H.S.2.1 i hi e he hei
  ·rcases List.mem_cons.1 he with rfl | he
   ·exact K.H.B _ (List.mem_cons_self ..) i hi
   ·exact h.H.B e he i hi
theorem Hr.ul (Z:Hr S u gs w0 (c::L) w) (U:UpL G w w') (hG:∀ i,G i->c.F i) (hn:∀ i,i∈gs->¬ G i):Hr S u gs w0 L w':=⟨Z.H.ul U hG,Z.cl,Z.cl.up _ _ G U hn Z.s⟩
inductive Svs:List Ow->Prop
 | z0:Svs []
 | s0 {g:Nat} {cs:List Value} {L:List Ow}:Svs L->Svs (qB g 25 cs::L)
theorem Svs.at:∀ {L:List Ow},Svs L->∀ d,d∈L->∃ g cs,d=qB g 25 cs
 | _,.s0 k,d,hd=>by
  rcases List.mem_cons.1 hd with rfl | hd
  ·exact ⟨_,_,rfl⟩
  ·exact k.at d hd
theorem Hq.adV {α:Type} {E:Elt α} {T:TypeId} {A:Option Addr} {n k:Nat} {css:List (List Value)} {xs:List α} {F:List Nat} (H:Hq w0 L w) (h:OX E w w0.heap.size T A n k css xs F) (s:Svs L:=by repeat constructor) (hT:T≠25:=by decide):Hq w0 (qX E w0.heap.size T A n k css xs F::L) w :=
 ⟨⟨h,fun i hi d hd hdi=>by
  obtain ⟨g,cs,rfl⟩:=s.at d hd;have e:i=g:=hdi;subst e
  exact nvX hT w h i hi _ (H.S.get' hd),H.S⟩,fun d hd i hi=>by
  rcases List.mem_cons.1 hd with rfl | hd
  ·exact hi.elim (fun e=>(h.aj i e).1) (fun e=>(h.2.2.2.1.2 i e).1)
  ·exact H.B d hd i hi,H.O⟩
theorem Hr.adV {α:Type} {E:Elt α} {T:TypeId} {A:Option Addr} {n k:Nat} {css:List (List Value)} {xs:List α} {F:List Nat} (Z:Hr S u gs w0 L w) (h:OX E w w0.heap.size T A n k css xs F) (s:Svs L:=by repeat constructor) (hT:T≠25:=by decide):Hr S u gs w0 (qX E w0.heap.size T A n k css xs F::L) w:=Z.re fun H=>H.adV h s hT
end
theorem yGv {P Q:Prop} (k:Q) (h:Wr Q->P:=by
  intro q;intros
  repeat (first | (refine lE ?_;intro K hK;go_big_quiet_op;go_big_quiet_on) | refine lG ?_)
  refine kZ (by decide) ?_
  intro w' g hb hg hG hC K hK
  (try replace X5:=OX.below X5 hb)
  replace H:=Hr.zv E hb hg hG (by repeat (first | exact Zv.z0 | refine Zv.s0 (by first | exact nvT qtO | exact nvX | exact nvR) ?_)) H
  go_simp
  refine hK _ ?_;clear hK K hb hG hC
  repeat (revert ‹Act->World->Prop›;have zz:=q;clear zz)
  revert w' g hg H
  exact q.o):P:=h ⟨k⟩
end
section
attribute [local go_sem] af ah ae
theorem DU {a b:Mx} (h:az a b=true) {x y:Value} (w:World) (hx:RM w x a) (hy:RM w y b):Calls Tryz.prog 99 #[x,y] w (bD (aE aJ a b) w):=by
 obtain ⟨A,c,rfl,h1,_⟩:=hx;obtain ⟨B,d,rfl,h2,_⟩:=hy
 exact jw _ _ _ _ _ _ _ _ _ _ _ _ w h1 h2 (by have:=(bt h).2.2;omega) (by have:=(ee h).2;omega)
theorem wW {a b:Mx} (h:az a b=true) {x y:Value} (w:World) (hx:RM w x a) (hy:RM w y b):Calls Tryz.prog 94 #[x,y] w (bD (aE bC a b) w):=by
 obtain ⟨A,c,rfl,h1,_⟩:=hx;obtain ⟨B,d,rfl,h2,_⟩:=hy
 exact jx _ _ _ _ _ _ _ _ _ _ _ _ w h1 h2 (by have:=(bt h).2.2;omega) (by have:=(ee h).2;omega)
theorem og {a b:Mx} (h:iz a b=true) {x y:Value} (w:World) (hx:RM w x a) (hy:RM w y b):Calls Tryz.prog 259 #[x,y] w (bD (mulM a b) w):=by
 obtain ⟨A,c,rfl,h1,_⟩:=hx;obtain ⟨B,d,rfl,h2,_⟩:=hy
 exact mJ a b h A B c d w h1 h2
theorem gi {p:Mx×Mx} (h:okS p=true) {x:Value} (w:World) (hx:RS w x p):Calls Tryz.prog 48 #[x] w (bD (aq p) w):=by
 obtain ⟨A,B,c,d,rfl,h1,_,_,h2,_⟩:=hx
 exact kL _ _ _ _ _ _ _ _ _ _ _ _ w h1 h2 (by have:=(fs h).1;omega) (by have:=(fs h).2;omega)
theorem qw {a b:Mx} (h:az a b=true) {x y:Value} (w:World) (hx:RM w x a) (hy:RM w y b):Calls Tryz.prog 134 #[x,y] w fun e w'=>e= .returned (.bool true)/\Below w.heap.size w w':=by
 obtain ⟨A,c,rfl,h1,_⟩:=hx;obtain ⟨B,d,rfl,h2,_⟩:=hy;have:=eD a.r a.c b.r b.c _ _ A B _ c _ d w h1 h2 (by have:=(bt h).2.2;omega) (by have:=(ee h).2;omega)
 rwa [h] at this
theorem eC {p:Mx×Mx} (h:okS p=true) {x:Value} (w:World) (hx:RS w x p):Calls Tryz.prog 95 #[x] w (jW p w):=by
 obtain ⟨A,B,c,d,rfl,h1,_,_,h2,_⟩:=hx;refine (dR _ _ _ _ _ _ A B _ c _ d w h1 h2 (by have:=(fs h).1;omega) (by have:=(fs h).2;omega)).mono ?_
 rintro e w' ⟨A',B',c',d',rfl,f1,f2,_,hb⟩
 exact ⟨A',B',c',d',rfl,f1,f2,hb⟩
theorem iR {p:Mx×Mx} (h:okS p=true) {x:Value} (w:World) (hx:RS w x p):Calls Tryz.prog 96 #[x] w fun e w'=>e= .returned (.bool true)/\Below w.heap.size w w':=by
 have HK:Hid (az p.1 p.2=true):=h;obtain ⟨A,B,c,d,rfl,h1,h2,h3,h4,h5,h6⟩:=hx;have HA:=Lib.hid (RM.mk h1 h2 h3);have HB:=Lib.hid (RM.mk h4 h5 h6);clear h h1 h2 h3 h4 h5 h6;refine zE ?_;intro u1 H;refine zB (qw HK.out u1 (RM.below HA.out H.O) (RM.below HB.out H.O)) ?_;clear H;intro w2 u2 H;refine zR ?_;clear H;intro u3 H
 exact ⟨rfl,H.O⟩
theorem tq {m:Mx} (h:mvB m=true) {x y:Value} (w:World) (hx:RM w x m) (hy:RM w y m):Calls Tryz.prog 290 #[x,y] w fun e w'=>e= .returned (.bool true)/\Below w.heap.size w w':=by
 have hn:=dy h;obtain ⟨A,c,rfl,h1,_⟩:=hx;obtain ⟨B,d,rfl,h2,_⟩:=hy;obtain ⟨a,o,rfl,ha,hc⟩:=h1.2 (by omega)
 obtain ⟨a',o',rfl,ha',hc'⟩:=h2.2 (by omega)
 have HC:=Lib.hid hc;have HC':=Lib.hid hc';have HL:=Lib.hid ha;have HL':=Lib.hid ha';clear h h1 h2 hc hc' ha ha';refine zE ?_;intro u1 H
 go_wp2_with fail
 intros
 go_loopw [5] (fun i wr=>∃ j:Nat,j<=m.v.length/\i= .int .i64 j/\Hid (Hq w [qB (w.heap.size+1) 37 [.int .i64 m.r,.int .i64 m.c,.slice (some ⟨a',o',none⟩) m.v.length d],qB w.heap.size 37 [.int .i64 m.r,.int .i64 m.c,.slice (some ⟨a,o,none⟩) m.v.length c]] wr)) (fun i _=>m.v.length-(intOf i).toNat)
 case atStart=>exact ⟨0,Nat.zero_le _,rfl,H⟩
 case round =>
 clear H;obtain ⟨j,hj,rfl,H⟩:=hrel;have H:=H.out;refine zC ?_;intro C;intros
 by_cases hlt:j<m.v.length
 ·have j0:(0:Int)<=(j:Int):=by omega
  have j1:(j:Int)<(m.v.length:Int):=by omega
  have cx:=(H.O.cell (p:=⟨a,o+j,none⟩) HL.out).trans (HC.out j hlt);have cy:=(H.O.cell (p:=⟨a',o'+j,none⟩) HL'.out).trans (HC'.out j hlt)
  go_wp2_with fail
  go_quiet (fail)
  go_wp2
  go_roundw
  case rel=>exact ⟨j+1,by omega,by go_num,H.b (below_drewN (Below.refl _ _) _)⟩
  case measure=>simp [intOf];omega
 ·obtain rfl:j=m.v.length:=by omega
  go_wp2
  go_ret
  exact ⟨rfl,H.O⟩
theorem iB {a b c:Mx×Mx} (h:TOK a b c) {x:Value} (w:World) (ht:RT w x a b c):Calls Tryz.prog 261 #[x] w fun e w'=>e= .returned (.bool true)/\Below w.heap.size w w':=by
 obtain ⟨A1,A2,B1,B2,C1,C2,p1,p2,q1,q2,r1,r2,rfl,ha,hb,hc⟩:=ht;unfold MTV;obtain ⟨h1,h2,h3,h4,h5⟩:=h;have HM:=Lib.hid (eV (eZ h1 h2 h4)).1;have HML:=Lib.hid (eZ h1 h2 h4);have hne:(a.1.c != b.1.r)=false:=by rw [h4];simp
 have HA:=Lib.hid h1;have HB:=Lib.hid h2;have HC:=Lib.hid h3;have H4:=Lib.hid h4;have HJ:=Lib.hid h5;have HX:=Lib.hid ha;have HY:=Lib.hid hb;have HZ:=Lib.hid hc;clear h1 h2 h3 h4 h5 ha hb hc;refine zE ?_;intro u1 H;refine zB (iR HA.out u1 (RS.below HX.out H.O)) ?_;clear H;intro w2 u2 H;refine zB (iR HB.out u2 (RS.below HY.out H.O)) ?_;clear H;intro w3 u3 H;refine zB (iR HC.out u3 (RS.below HZ.out H.O)) ?_;clear H;intro w4 u4 H;refine zX (tg [w.heap.size]) ?_;clear H;intro S w5 hne H;refine zD (H.c 0) ?_;intro G;refine yO (gi HC.out w5 (RS.below HZ.out H.O)) ?_;clear H;intro w6 P cP H;refine yO (gi HA.out w6 (RS.below HX.out H.O)) ?_;clear H;intro w7 Q cQ H;refine yO (gi HB.out w7 (RS.below HY.out H.O)) ?_;clear H;intro w8 R cR H;refine yO (og HML.out w8 (RM.aB (H.o 1)) (RM.aB (H.o 0))) ?_;clear H;intro w9 U cU H;refine yB (tq HM.out w9 (Eq.mp (congrArg (RM _ _) HJ.out) (RM.aB (H.o 3))) (RM.aB (H.o 0))) ?_;clear H;intro w10 H;refine yN ?_;clear H G;intro u11 H;refine zR ?_;clear H;intro u12 H
 exact ⟨rfl,H.O⟩
theorem iO {r i c s:Int} (hr:side r=true) (hi:side i=true) (hc:side c=true) (hs:sdB s=true) (w:World):Calls Tryz.prog 224 #[.int .i64 r,.int .i64 i,.int .i64 c,.int .i64 s] w (xA (ig r i c s).a (ig r i c s).b (ig r i c s).c (oC r i c s) w):=by
 obtain ⟨s1,hd1⟩:∃ x,x=sds s (nm r i):=⟨_,rfl⟩;obtain ⟨s2,hd2⟩:∃ x,x=sds s1 (nm r i):=⟨_,rfl⟩;obtain ⟨s3,hd3⟩:∃ x,x=sds s2 (nm i c):=⟨_,rfl⟩;obtain ⟨s4,hd4⟩:∃ x,x=sds s3 (nm i c):=⟨_,rfl⟩;obtain ⟨s5,hd5⟩:∃ x,x=sds s4 (nm r c):=⟨_,rfl⟩;obtain ⟨ma,hma⟩:∃ x,x=cT r i s:=⟨_,rfl⟩;obtain ⟨mb,hmb⟩:∃ x,x=cT r i s1:=⟨_,rfl⟩;obtain ⟨mc,hmc⟩:∃ x,x=cT i c s2:=⟨_,rfl⟩;obtain ⟨md,hmd⟩:∃ x,x=cT i c s3:=⟨_,rfl⟩;obtain ⟨me,hme⟩:∃ x,x=cT r c s4:=⟨_,rfl⟩;have HS1:Hid (sdB s1=true):=hd1 ▸ cS hs _;have HS2:Hid (sdB s2=true):=hd2 ▸ cS HS1.out _;have HS3:Hid (sdB s3=true):=hd3 ▸ cS HS2.out _;have HS4:Hid (sdB s4=true):=hd4 ▸ cS HS3.out _;have oa:okS (ma,mb)=true:=by rw [hma,hmb];exact aY (bU hr hi) (bU hr hi) rfl rfl
 have ob:okS (mc,md)=true:=by rw [hmc,hmd];exact aY (bU hi hc) (bU hi hc) rfl rfl
 have hab:ma.c=mc.r:=by rw [hma,hmc];rfl
 have hmm:=eV (eZ oa ob hab);have hlk:az (mulM (aq (ma,mb)) (aq (mc,md))) me=true:=aY hmm.1 (by rw [hme];exact bU hr hc) (by rw [hmm.2.1,(aN oa).2.1,hme];show ma.r=r;rw [hma];rfl) (by rw [hmm.2.2,(aN ob).2.2,hme];show mc.c=c;rw [hmc];rfl)
 have HT:Hid (ig r i c s=⟨(ma,mb),(mc,md),(me,aE bC (mulM (aq (ma,mb)) (aq (mc,md))) me)⟩):=by
  show ig r i c s=_
  rw [hma,hmb,hmc,hmd,hme,hd4,hd3,hd2,hd1]
  rfl
 have HN:Hid (oC r i c s=s5):=by
  show oC r i c s=_
  rw [hd5,hd4,hd3,hd2,hd1]
  rfl
 have HOA:=Lib.hid oa;have HOB:=Lib.hid ob;have HAB:=Lib.hid hab;have HLK:=Lib.hid hlk;have HR:=Lib.hid hr;have HI:=Lib.hid hi;have HC:=Lib.hid hc;have HS:=Lib.hid hs;have Hma:=Lib.hid hma;have Hmb:=Lib.hid hmb;have Hmc:=Lib.hid hmc;have Hmd:=Lib.hid hmd;have Hme:=Lib.hid hme;have HD1:=Lib.hid hd1;have HD2:=Lib.hid hd2;have HD3:=Lib.hid hd3;have HD4:=Lib.hid hd4;have HD5:=Lib.hid hd5;have HML:=Lib.hid (eZ oa ob hab);clear hr hi hc hs hd1 hd2 hd3 hd4 hd5 hma hmb hmc hmd hme oa ob hab hmm hlk;refine zE ?_;intro u1 H
 go_wp2_with fail
 refine zP (aT _ HR.out u1) ?_;clear H;intro u2 H;refine zP (aT _ HI.out u2) ?_;clear H;intro u3 H;refine zP (aT _ HC.out u3) ?_;clear H;intro u4 H;refine zP (cz _ HS.out u4) ?_;clear H;intro u5 H;refine zO ((show Calls Tryz.prog 93 #[_,_,_] u5 (ij ma s1 u5) from by rw [Hma.out,HD1.out];exact b9 HR.out HI.out HS.out u5)) ?_;clear H;intro w6 P0 n0 u6 H
 refine zO ((show Calls Tryz.prog 93 #[_,_,_] u6 (ij mb s2 u6) from by rw [Hmb.out,HD2.out];exact b9 HR.out HI.out HS1.out u6)) ?_;clear H;intro w7 P1 n1 u7 H
 refine zO ((show Calls Tryz.prog 93 #[_,_,_] u7 (ij mc s3 u7) from by rw [Hmc.out,HD3.out];exact b9 HI.out HC.out HS2.out u7)) ?_;clear H;intro w8 P2 n2 u8 H
 refine zO ((show Calls Tryz.prog 93 #[_,_,_] u8 (ij md s4 u8) from by rw [Hmd.out,HD4.out];exact b9 HI.out HC.out HS3.out u8)) ?_;clear H;intro w9 P3 n3 u9 H
 refine zG ((show Calls Tryz.prog 93 #[_,_,_] u9 (ij me s5 u9) from by rw [Hme.out,HD5.out];exact b9 HR.out HC.out HS4.out u9)) ?_
 rintro e w10 ⟨P4,n4,rfl,hos,hb⟩;replace H:=H.os hb hos;clear hb;refine zC ?_;intro C;intros;go_upto_region 8 with fail;refine zM ?_;clear H C;intro u11 H;refine zU (tg [w9.heap.size,w8.heap.size,w7.heap.size,w6.heap.size]) ?_;clear H;intro S w12 hne H;refine zD ((And.intro (H.c 2) (And.intro (H.c 4) (And.intro (H.c 6) (H.c 8))))) ?_;intro G;refine yM ?_;clear H;intro w13 H;refine yS ?_;clear H;intro w14 H;refine yN ?_;clear H G;intro u15 H;refine zXZ (tg [w12.heap.size,w10.heap.size]) ?_;clear H;intro S w16 hne H;refine zD ((And.intro (H.c 0) (H.c 1))) ?_;intro G;refine yO (gi HOA.out w16 (RS.aB (p:=(ma,mb)) (H.o 10) (H.o 8))) ?_;clear H;intro w17 J1 e1 H;refine yO (gi HOB.out w17 (RS.aB (p:=(mc,md)) (H.o 7) (H.o 5))) ?_;clear H;intro w18 J2 e2 H;refine yO (og HML.out w18 (RM.aB (H.o 1)) (RM.aB (H.o 0))) ?_;clear H;intro w19 J3 e3 H;refine yO (wW HLK.out w19 (RM.aB (H.o 0)) (RM.aB (H.o 5))) ?_;clear H;intro w20 Q cQ H;intros;refine zCr ?_;intro C;intros
 repeat (first | (refine lc' ?_;intro K hK;go_big_quiet_op;go_big_quiet_on) | refine lk' ?_)
 refine aV rfl (by rfl) (by rfl) (fun K hK=> ?_)
 unfold Oper.gives
 go_simp
 refine hK _ _ ?_;replace H:=H.H;refine aI ?_;clear C G;refine zC ?_;intro C;intros
 go_wp2_with (with_reducible refine lT 244 rfl ?_)
 refine zM ?_;clear H C;intro u21 H;intros;refine Lib.hid ?_;refine b_ (by rfl) rfl rfl (H.k 4) Tryz.underlying244 rfl (by kernel_rfl) ?_
 refine zC ?_;intro C;intros
 go_wp2_with (with_reducible refine gn 244 rfl ?_)
 refine zM ?_;clear H C;intro u22 H;intros;refine Lib.hid ?_;refine zSt ?_;clear H;intro w22 H;refine zS_ ?_;clear H;intro u23 H
 exact (by rw [HT.out,HN.out];exact ⟨P0,P1,P2,P3,P4,Q,n0,n1,n2,n3,n4,cQ,rfl,(H.o 14),(H.o 12),(H.o 10),(H.o 8),(H.o 6),(H.o 0),H.O⟩)
end
section
attribute [local go_sem] af ah ae
def Bs (a b c:Mx×Mx) (w:World) (e:Ending) (w':World):Prop:=∃ A1 A2 B1 B2 C1 C2 p1 p2 q1 q2 r1 r2,e= .returned (MTV a b c A1 A2 B1 B2 C1 C2 p1 p2 q1 q2 r1 r2)/\(OS w' w.heap.size A1 a.1.v.length p1 a.1.v/\OS w' w.heap.size A2 a.2.v.length p2 a.2.v)/\(OS w' w.heap.size B1 b.1.v.length q1 b.1.v/\OS w' w.heap.size B2 b.2.v.length q2 b.2.v)/\(OS w' w.heap.size C1 c.1.v.length r1 c.1.v/\OS w' w.heap.size C2 c.2.v.length r2 c.2.v)/\Below w.heap.size w w'
theorem A_ {a b c:Mx×Mx} (h1:okS a=true) (h2:okS b=true) (h3:okS c=true) {x:Value} (w:World) (ht:RT w x a b c):Calls Tryz.prog 260 #[x] w (Bs a b c w):=by
 obtain ⟨A1,A2,B1,B2,C1,C2,p1,p2,q1,q2,r1,r2,rfl,ha,hb,hc⟩:=ht;unfold MTV;have HOa:=Lib.hid h1;have HOb:=Lib.hid h2;have HOc:=Lib.hid h3;have HA:=Lib.hid ha;have HB:=Lib.hid hb;have HC:=Lib.hid hc;clear h1 h2 h3 ha hb hc
 go_in;have H:=Hq.start w
 go_upto_region 1 with fail;refine zM ?_;clear H;intro u2 H
 refine zU (tg [w.heap.size]) ?_;clear H;intro S w3 hne H;refine zD (H.c 1) ?_;intro G;intros;refine lc' fun K hK=> ?_
 refine ev rfl rfl (H.bl (H.k 1) (by simp)) Tryz.underlying244 rfl (by kernel_rfl) ?_
 go_simp
 refine hK _ ?_;refine yM ?_;clear H;intro w4 H;refine yS ?_;clear H;intro w5 H;refine yN ?_;clear H G;intro u6 H;refine zW (eC HOa.out u6 (RS.below HA.out H.O)) ?_;clear H;intro w7 P1 P2 k1 k2 u7 H;refine zW (eC HOb.out u7 (RS.below HB.out H.O)) ?_;clear H;intro w8 P3 P4 k3 k4 u8 H;refine zG (eC HOc.out u8 (RS.below HC.out H.O)) ?_;rintro e w9 ⟨P5,P6,k5,k6,rfl,f1,f2,hb⟩;replace H:=H.ss hb f1 f2;clear hb;refine zC ?_;intro C;intros;go_upto_region 5 with fail;refine zM ?_;clear H C;intro u10 H;refine zU (tg [w3.heap.size]) ?_;clear H;intro S w11 hne H;refine zD (H.c 3) ?_;intro G;intros;refine lc' fun K hK=> ?_
 refine ev rfl rfl (H.bl (H.k 3) (by simp)) Tryz.underlying244 rfl (by kernel_rfl) ?_
 go_simp
 refine hK _ ?_;refine yS ?_;clear H;intro w12 H;refine yN ?_;clear H G;intro u13 H;refine zS_ ?_;clear H;intro u14 H
 exact ⟨P1,P2,P3,P4,P5,P6,k1,k2,k3,k4,k5,k6,rfl,(H.p 2),(H.p 1),(H.p 0),H.O⟩
theorem iC {x y:Mx×Mx} {t:MTr} (hP:POK x y t) {u v z:Value} (w:World) (hx:RS w u x) (hy:RS w v y) (ht:RT w z t.a t.b t.c):Calls Tryz.prog 225 #[u,v,z] w (vz x y t w):=by
 have HX:=Lib.hid hx;have HY:=Lib.hid hy;have HT:=Lib.hid ht;have HP:=Lib.hid hP;obtain ⟨X1,X2,x1,x2,rfl,-⟩:=hx;obtain ⟨Y1,Y2,y1,y2,rfl,-⟩:=hy;obtain ⟨TA1,TA2,TB1,TB2,TC1,TC2,p1,p2,q1,q2,r1,r2,rfl,-⟩:=ht;clear hP;unfold MTV;refine zE ?_;intro u1 H;refine zW (eC HP.out.ox u1 (RS.below HX.out H.O)) ?_;clear H;intro w2 U1 U2 ux1 ux2 u2 H;refine zG (eC HP.out.oy u2 (RS.below HY.out H.O)) ?_;rintro e w3 ⟨V1,V2,vy1,vy2,rfl,f1,f2,hb⟩;replace H:=H.ss hb f1 f2;clear hb;refine zC ?_;intro C;intros;go_upto_region 3 with fail;refine zM ?_;clear H C;intro u4 H;refine zUZ (tg [w.heap.size+2]) ?_;clear H;intro S w5 hne H;refine zD (H.c 5) ?_;intro G;intros;refine lc' fun K hK=> ?_
 refine ev rfl rfl (H.bl (H.k 5) (by simp)) Tryz.underlying244 rfl (by kernel_rfl) ?_
 go_simp
 refine hK _ ?_;intros;refine y_ (A_ HP.out.tk.va HP.out.tk.vb HP.out.tk.vc w5 (RT.below HT.out H.O)) ?_;rintro K hK e w6 ⟨P1,P2,P3,P4,P5,P6,k1,k2,k3,k4,k5,k6,rfl,f1,f2,f3,hb⟩;replace H:=H.tt hb f1 f2 f3;refine yK ?_;clear hK K;refine yZ ?_;clear H G;intro w7 u7 H;refine zB (iR HP.out.ox u7 (H.rs 2)) ?_;clear H;intro w8 u8 H;refine zG (iR HP.out.oy u8 (H.rs 1)) ?_;rintro e w9 ⟨rfl,hb⟩;replace H:=H.b hb;clear hb;refine zC ?_;intro C;intros
 go_wp2_with (with_reducible refine lT 244 rfl ?_)
 refine zM ?_;clear H C;intro u10 H;intros;refine Lib.hid ?_;refine b_ (by rfl) rfl rfl (H.k 6) Tryz.underlying244 rfl (by kernel_rfl) ?_
 refine zN ?_;clear H;intro u11 H;refine zB (iB HP.out.tk u11 (wU (qS.rs (Ow.P1 (H.p 0))) (qS.rs (Ow.P1 (Ow.P2 (H.p 0)))) (qS.rs (Ow.P2 (Ow.P2 (H.p 0)))))) ?_;clear H;intro w12 u12 H;refine zB (qw (aY (ai HP.out.ox).1 (ai HP.out.tk.va).1 HP.out.ar HP.out.ac) u12 ((H.rs 2).m1) ((qS.rs (Ow.P1 (H.p 0))).m1)) ?_;clear H;intro w13 u13 H;refine zB (qw (aY (ai HP.out.oy).1 (ai HP.out.tk.vb).1 HP.out.br HP.out.bc) u13 ((H.rs 1).m1) ((qS.rs (Ow.P1 (Ow.P2 (H.p 0)))).m1)) ?_;clear H;intro w14 u14 H;have E:=H.el;refine zXF (tgF [w.heap.size+2,w.heap.size] 6 10 (.cells #[.int .i64 0,.int .i64 0,.slice none 0 0] 37)) ?_;clear H;intro S w15 hne H;refine zD ((And.intro (H.c 6) (H.c 8))) ?_;intro G;refine fO (fun w16 (hb:Bw w15 w16)=>gi HP.out.ox w16 ((H.b hb).rs 2)) ?_;clear H;intro w17 Q1 cQ1 H
 refine fO (fun w18 (hb:Bw w17 w18)=>gi HP.out.tk.va w18 (qS.rs (Ow.P1 ((H.b hb).p 1)))) ?_;clear H;intro w19 Q2 cQ2 H
 refine fO (fun w20 (hb:Bw w19 w20)=>(show Calls Tryz.prog 94 #[_,_] w20 (bD (pD x t) w20) from wW HP.out.ld w20 (RM.aB ((H.b hb).o 1)) (RM.aB ((H.b hb).o 0)))) ?_;clear H;intro w21 D1 cD1 H
 refine yG ?_;clear H;intro w22 g22 hg22 H;refine yS ?_;clear H;intro w23 H;refine yN ?_;clear H G;intro u24 H;replace H:=H.d 3;replace H:=H.d 2;replace H:=H.d 4;have E:=H.el;refine zXF (tgF [w.heap.size+2,w.heap.size+1] 6 11 (.cells #[.int .i64 0,.int .i64 0,.slice none 0 0] 37)) ?_;clear H;intro S w25 hne H;refine zD ((And.intro (H.c 7) (H.c 8))) ?_;intro G;refine fO (fun w26 (hb:Bw w25 w26)=>gi HP.out.oy w26 ((H.b hb).rs 3)) ?_;clear H;intro w27 Q1 cQ1 H
 refine fO (fun w28 (hb:Bw w27 w28)=>gi HP.out.tk.vb w28 (qS.rs (Ow.P1 (Ow.P2 ((H.b hb).p 3))))) ?_;clear H;intro w29 Q2 cQ2 H
 refine fO (fun w30 (hb:Bw w29 w30)=>(show Calls Tryz.prog 94 #[_,_] w30 (bD (pE y t) w30) from wW HP.out.le w30 (RM.aB ((H.b hb).o 1)) (RM.aB ((H.b hb).o 0)))) ?_;clear H;intro w31 E1 cE1 H
 refine yG ?_;clear H;intro w32 g32 hg32 H;refine yS ?_;clear H;intro w33 H;refine yN ?_;clear H G;intro u34 H;replace H:=H.d 3;replace H:=H.d 2;replace H:=H.d 5;have E:=H.el;refine zXF (tgF [g32,g22,w.heap.size+2] 15 12 (.cells #[.int .i64 0,.int .i64 0,.slice none 0 0] 37)) ?_;clear H;intro S w35 hne H;refine zD ((And.intro (H.c 0) (And.intro (H.c 2) (H.c 8)))) ?_;intro G;refine fO (fun w36 (hb:Bw w35 w36)=>og HP.out.db1 w36 (RM.aB ((H.b hb).o 3)) ((qS.rs (Ow.P1 (Ow.P2 ((H.b hb).p 4)))).m1)) ?_;clear H;intro w37 Q1 cQ1 H
 refine fO (fun w38 (hb:Bw w37 w38)=>DU HP.out.c1 w38 ((qS.rs (Ow.P2 (Ow.P2 ((H.b hb).p 5)))).m1) (RM.aB ((H.b hb).o 0))) ?_;clear H;intro w39 Q2 cQ2 H
 refine fO (fun w40 (hb:Bw w39 w40)=>og HP.out.ae1 w40 ((qS.rs (Ow.P1 ((H.b hb).p 6))).m1) (RM.aB ((H.b hb).o 3))) ?_;clear H;intro w41 Q3 cQ3 H
 refine fO (fun w42 (hb:Bw w41 w42)=>(show Calls Tryz.prog 99 #[_,_] w42 (bD (sb t.c.1 (pD x t) t.b.1 t.a.1 (pE y t)) w42) from DU HP.out.s1 w42 (RM.aB ((H.b hb).o 1)) (RM.aB ((H.b hb).o 0)))) ?_;clear H;intro w43 O1 cO1 H
 refine yG ?_;clear H;intro w44 g44 hg44 H;refine yS ?_;clear H;intro w45 H;refine yN ?_;clear H G;intro u46 H;replace H:=H.d 4;replace H:=H.d 3;replace H:=H.d 2;have E:=H.el;refine zXF (tgF [g32,g22,w.heap.size+2] 15 13 (.cells #[.int .i64 0,.int .i64 0,.slice none 0 0] 37)) ?_;clear H;intro S w47 hne H;refine zD ((And.intro (H.c 2) (And.intro (H.c 4) (H.c 10)))) ?_;intro G;refine fO (fun w48 (hb:Bw w47 w48)=>og HP.out.db2 w48 (RM.aB ((H.b hb).o 5)) ((qS.rs (Ow.P1 (Ow.P2 ((H.b hb).p 6)))).m2)) ?_;clear H;intro w49 Q1 cQ1 H
 refine fO (fun w50 (hb:Bw w49 w50)=>DU HP.out.c2 w50 ((qS.rs (Ow.P2 (Ow.P2 ((H.b hb).p 7)))).m2) (RM.aB ((H.b hb).o 0))) ?_;clear H;intro w51 Q2 cQ2 H
 refine fO (fun w52 (hb:Bw w51 w52)=>og HP.out.ae2 w52 ((qS.rs (Ow.P1 ((H.b hb).p 8))).m2) (RM.aB ((H.b hb).o 5))) ?_;clear H;intro w53 Q3 cQ3 H
 refine fO (fun w54 (hb:Bw w53 w54)=>(show Calls Tryz.prog 99 #[_,_] w54 (bD (sb t.c.2 (pD x t) t.b.2 t.a.2 (pE y t)) w54) from DU HP.out.s2 w54 (RM.aB ((H.b hb).o 1)) (RM.aB ((H.b hb).o 0)))) ?_;clear H;intro w55 O2 cO2 H
 refine yG ?_;clear H;intro w56 g56 hg56 H;refine yS ?_;clear H;intro w57 H;refine yN ?_;clear H G;intro u58 H;replace H:=H.d 4;replace H:=H.d 3;replace H:=H.d 2;refine zX (tg [g56,g44,g32,g22]) ?_;clear H;intro S w59 hne H;refine zD ((And.intro (H.c 0) (And.intro (H.c 2) (And.intro (H.c 4) (H.c 6))))) ?_;intro G;refine yO (og HP.out.de w59 (RM.aB (H.o 7)) (RM.aB (H.o 5))) ?_;clear H;intro w60 Q1 cQ1 H;refine yO ((show Calls Tryz.prog 99 #[_,_] w60 (bD (dw x y t) w60) from DU HP.out.l1 w60 (RM.aB (H.o 4)) (RM.aB (H.o 0)))) ?_;clear H;intro w61 Q2 cQ2 H
 refine yS ?_;clear H;intro w62 H;refine yS ?_;clear H;intro w63 H;refine yS ?_;clear H;intro w64 H;refine yN ?_;clear H G;intro u65 H;go_wp2
 exact bodyPost_ret (mh rfl rfl rfl rfl (H.k 13) (H.k 12) (H.k 11) Tryz.underlying82 Tryz.underlying37 Tryz.underlying37 rfl rfl rfl (by kernel_rfl) (by kernel_rfl) (by kernel_rfl)) rfl ⟨Q2,O2,D1,E1,cQ2,cO2,cD1,cE1,rfl,(H.o 0),(H.o 3),(H.o 9),(H.o 7),H.O⟩
end
end Go.Proofs.YtjciicheoghcdaaGreatDoor

/- Part of the proof that the law FnServiceLine of the given program returns true for every input. -/
import Derived.Test.YtjciicheoghcdaaGreatDoorXa
namespace Go.Proofs.YtjciicheoghcdaaGreatDoor
open Go.RowKit
set_option linter.unusedSimpArgs false
set_option linter.unusedVariables false
set_option maxRecDepth 20000
set_option maxHeartbeats 16000000
section
def bK (X:TypeId->Bool) (o:Oper):Bool :=
 match o.op with
 | .load ty _=> !X ty
 | .move _ | .assign _ | .fieldAddr .. | .indexAddr .. | .field .. | .index .. | .binOp .. | .unOp .. | .convert .. | .slice .. | .extract .. | .makeInterface .. | .makeFunc .. | .build .. => true
 | .call c=>(match c.callee with | .builtin .len=>true | .builtin .cap=>true | _=>false)
 | _=>false
theorem xu {P:Program} {s:Sem Value} {w w':World} {f:FuncId} {args:Array Value} (h:(do let x <- s;pure (Next.value x):Sem Next).run P w= .ok (.enter f args) w'):False:=by
 rw [Sem.run_bind] at h
 cases hs:s.run P w with
 | ok x w2=>rw [hs] at h;simp at h
 | halt x w2=>rw [hs] at h;simp at h
theorem pQ {X:TypeId->Bool} {o:Oper} (hc:bK X o=true) {ρ:Operand->Value} {P:Program} {w w':World} {f:FuncId} {args:Array Value} (h:(execOp ρ o).run P w= .ok (.enter f args) w'):False:=by
 obtain ⟨dst,op,type,pos,after,guard⟩:=o
 cases op <;> simp only [bK] at hc <;> try (cases hc;done)
 case call c =>
  obtain ⟨callee,xs,x1⟩:=c
  cases callee <;> simp only at hc <;> try (cases hc;done)
  rename_i b
  cases b <;> simp only at hc <;> try (cases hc;done)
  all_goals
   unfold execOp at h
   dsimp only at h
   rw [Sem.run_bind] at h
   cases hr:(resolve ρ { callee:=_,args:=xs,argTypes:=x1 } type).run P w with
   | halt x w2=>rw [hr] at h;simp at h
   | ok d w2 =>
    rw [hr] at h;simp only [resolve,Sem.run_pure] at hr;injection hr with h1 h2;subst h1 h2;simp only [Result.andThen_ok,invoke,builtin] at h
    exact xu h
 all_goals first
  | exact xu h
  | (simp [execOp] at h;done)
def gives (P:Program) (w:World) (R:Value->World->Prop):Result Next->Prop
 | .ok (.value v) w'=>R v w'
 | .ok .skip w'=>R undef w'
 | .ok (.enter f args) w'=>Calls P f args w' (fun e w''=>∃ v,e= .returned v/\R v w'')
 | _=>False
def Oper.gives (P:Program) (o:Oper) (a:Act) (w:World) (R:Value->World->Prop):Prop:=Proofs.YtjciicheoghcdaaGreatDoor.gives P w R ((execOp a.eval o).run P w)
section
variable {X:TypeId->Bool} {P:Program} {ops:Array Oper} {md:Region.Mode} {C:World->Prop} {Q:Act->World->Prop} {w:World} {a:Act} {o oi oj:Oper} {R R':Value->World->Prop}
theorem cf {r:Result Next} (h:∀ v w',R v w'->R' v w') (hh:gives P w R r):gives P w R' r:=by
 unfold gives at *
 split at hh
 ·exact h _ _ hh
 ·exact h _ _ hh
 ·exact hh.mono fun e w'' ⟨v,he,hv⟩=>⟨v,he,h _ _ hv⟩
 ·exact hh.elim
theorem g_ {r:Result Next} (hh:gives P w R r):∃ v w',R v w':=by
 unfold gives at hh
 split at hh
 ·exact ⟨_,_,hh⟩
 ·exact ⟨_,_,hh⟩
 ·obtain ⟨e,w',fr,⟨v,_,hv⟩,_⟩:=hh []
  exact ⟨_,_,hv⟩
 ·exact hh.elim
theorem mo {Q':Exit->Act->World->Prop} {K:Act->World->Prop} (hh:Oper.gives P o a w (fun v w'=>K (a.put o.dst v) w')):o.wp P a w K Q':=by
 unfold Oper.gives gives at hh;unfold Oper.wp
 split at hh
 ·rename_i h;rw [h];exact hh
 ·rename_i h;rw [h];exact hh
 ·rename_i h;rw [h];exact hh.mono fun e w'' ⟨v,he,hv⟩=>by subst he;exact hv
 ·exact hh.elim
def lOp (X:TypeId->Bool) (P:Program) (ops:Array Oper) (C:World->Prop) (i:Nat) (K:Act->World->Prop) (a:Act) (w:World):Prop :=
 match ops[i]? with
 | none=>K a w
 | some o=>if Region.wanted o (yielded ops a.tmps) then (if bK X o then o.quiet P a C (fun a'=>K a' w) else Oper.gives P o a w (fun v w'=>K (a.put o.dst v) w')) else K (a.put o.dst undef) w
def eQ (X:TypeId->Bool) (P:Program) (md:Region.Mode) (ops:Array Oper) (C:World->Prop) (L:Nat) (Q:Act->World->Prop):Nat->Array Bool->Act->World->Prop
 | 0,listed,a,w=>Region.ready md ops listed=[]/\Q a w
 | fuel+1,listed,a,w=>(Region.ready md ops listed=[]->Q a w)/\∀ i∈Region.ready md ops listed,lOp X P ops C i (fun a' w'=>(i≠L->C w')/\eQ X P md ops C L Q fuel (listed.setIfInBounds i true) a' w') a w
def closed (md:Region.Mode) (ops:Array Oper) (listed:Array Bool):Prop:=∀ j oj,ops[j]?=some oj->listed.getD j false=true->∀ e∈oj.after,Region.binds md e=true->listed.getD e.on false=true
theorem closed.set {j:Nat} {listed:Array Bool} (h:closed md ops listed) (hj:j∈Region.ready md ops listed):closed md ops (listed.setIfInBounds j true):=fun k ok hk hl e he hb=>by
 apply getD_set_true
 by_cases hjk:j=k
 ·subst hjk;obtain ⟨_,oj,hoj,hall⟩:=mem_ready.1 hj;rw [hk] at hoj;injection hoj with hoj;subst hoj
  exact hall e he hb
 ·rw [getD_set_ne false hjk] at hl
  exact h k ok hk hl e he hb
theorem closed.none (n:Nat):closed md ops (Array.replicate n false):=fun j oj _ hl=>by simp [Array.getD] at hl
def ju (md:Region.Mode) (ops:Array Oper) (L:Nat):Prop:=∀ listed,closed md ops listed->L∈Region.ready md ops listed->∀ i,i<ops.size->i≠L->listed.getD i false=true
theorem sM {i:Nat} {K K':Act->World->Prop} {Q':Exit->Act->World->Prop} (hw:C w) (h:∀ a w',K a w'->K' a w') (hh:lOp X P ops C i K a w):wpOp P ops Q' i K' a w:=by
 unfold lOp at hh;unfold wpOp
 split
 ·rename_i ho;simp only [ho] at hh;exact h _ _ hh
 ·rename_i o ho
  simp only [ho] at hh
  split
  ·rename_i hwn
   simp only [hwn,if_true] at hh;refine .inl ?_
   split at hh
   ·rename_i hcalm
    obtain ⟨v,h1,h2⟩:=hh;have h3:=h1 w hw;unfold Oper.quietAt at h3;unfold Oper.wp
    generalize hr:(execOp a.eval o).run P w=r at *
    cases r with
    | ok n w' =>
     cases n <;> simp only [Oper.quietUpon] at h3 <;> simp only [Oper.upon]
     case value u=>obtain ⟨e1,e2⟩:=h3;rw [e1,e2];exact h _ _ h2
     case skip=>obtain ⟨e1,e2⟩:=h3;rw [e1,<- e2];exact h _ _ h2
     case enter f args=>exact (pQ hcalm hr).elim
    | halt x w'=>simp only [Oper.quietUpon] at h3
   ·exact mo (cf (fun _ _=>h _ _) hh)
  ·rename_i hwn;simp only [hwn] at hh;exact h _ _ hh
theorem tX {listed:Array Bool} {i:Nat} (h:listed.getD i false=true) (hun:listed.getD i true=false):False:=by
 rcases Nat.lt_or_ge i listed.size with h' | h'
 ·simp [h'] at hun h;rw [hun] at h;cases h
 ·simp [Array.getElem?_eq_none h'] at h
theorem jM {L i:Nat} {listed:Array Bool} (hL:ju md ops L) (hcl:closed md ops listed) (hr:L∈Region.ready md ops listed) (hi:i∈Region.ready md ops listed):i=L:=by
 by_cases h:i=L
 ·exact h
 ·obtain ⟨hun,oi,hoi,_⟩:=mem_ready.1 hi
  exact (tX (hL listed hcl hr i (Array.getElem?_eq_some_iff.1 hoi).1 h) hun).elim
theorem nX {L:Nat} {listed:Array Bool} (hL:ju md ops L) (hcl:closed md ops listed) (hr:L∈Region.ready md ops listed):Region.ready md ops (listed.setIfInBounds L true)=[]:=by
 cases hx:Region.ready md ops (listed.setIfInBounds L true) with
 | nil=>rfl
 | cons j t =>
  exfalso
  have hj:j∈Region.ready md ops (listed.setIfInBounds L true):=by rw [hx];exact List.mem_cons_self ..
  obtain ⟨hun,oj,hoj,_⟩:=mem_ready.1 hj;obtain ⟨hLun,oL,hoL,hall⟩:=mem_ready.1 hr
  by_cases hjL:j=L
  ·subst hjL;have hlt:j<listed.size:=by
    rcases Nat.lt_or_ge j listed.size with h' | h'
    ·exact h'
    ·simp [Array.getElem?_eq_none h'] at hLun
   simp [hlt] at hun
  ·rw [getD_set_ne true (Ne.symm hjL)] at hun
   exact tX (hL listed hcl hr j (Array.getElem?_eq_some_iff.1 hoj).1 hjL) hun
theorem jU {L:Nat} {Q':Exit->Act->World->Prop} (hL:ju md ops L) (hQ:∀ a w,Q a w->Q' .normal a w):∀ (fuel:Nat) (listed:Array Bool) (a:Act) (w:World),closed md ops listed->(C w\/Region.ready md ops listed=[])->eQ X P md ops C L Q fuel listed a w->wpAny P md ops Q' fuel listed a w
 | 0,_,_,_,_,_,h=>⟨h.1,hQ _ _ h.2⟩
 | fuel+1,listed,_,_,hcl,hC,h=>⟨fun h0=>hQ _ _ (h.1 h0),fun i hi=>by
   rcases hC with hC | hC
   ·refine sM hC (fun a' w' hk=>jU hL hQ fuel _ a' w' (hcl.set hi) ?_ hk.2) (h.2 i hi)
    by_cases hiL:i=L
    ·subst hiL;exact .inr (nX hL hcl hi)
    ·exact .inl (hk.1 hiL)
   ·rw [hC] at hi;cases hi⟩
def aX (X:TypeId->Bool) (P:Program) (ops:Array Oper) (C:World->Prop) (o:Oper) (v:Value) (a:Act):Prop :=
 (Region.wanted o (yielded ops a.tmps)=true/\bK X o=true/\∀ w,C w->o.quietAt P a C w v)\/(Region.wanted o (yielded ops a.tmps)=false/\v=undef)
theorem aX.of_same {v:Value} {a':Act} (hy:aX X P ops C o v a) (he:execOp a'.eval o=execOp a.eval o) (hw:Region.wanted o (yielded ops a'.tmps)=Region.wanted o (yielded ops a.tmps)):aX X P ops C o v a':=by
 unfold aX Oper.quietAt at *;rw [he,hw]
 exact hy
theorem aX.op {i:Nat} {v:Value} {K:Act->World->Prop} (hi:ops[i]?=some o) (hy:aX X P ops C o v a) (h:K (a.put o.dst v) w):lOp X P ops C i K a w:=by
 unfold Proofs.YtjciicheoghcdaaGreatDoor.lOp;simp only [hi];rcases hy with ⟨hw,hc,hv⟩ | ⟨hw,rfl⟩
 ·simp only [hw,hc,if_true];exact ⟨v,hv,h⟩
 ·simp only [hw,Bool.false_eq_true,if_false];exact h
theorem aX.one {v u:Value} (hw:C w) (h1:aX X P ops C o v a) (h2:aX X P ops C o u a):v=u:=by
 rcases h1 with ⟨h1,hc,h1'⟩ | ⟨h1,h1'⟩ <;> rcases h2 with ⟨h2,_,h2'⟩ | ⟨h2,h2'⟩
 ·have e1:=h1' w hw;have e2:=h2' w hw;unfold Oper.quietAt at e1 e2
  generalize hr:(execOp a.eval o).run P w=r at *
  cases r with
  | ok n w' =>
   cases n <;> simp only [Oper.quietUpon] at e1 e2
   case value x=>rw [<- e1.2,<- e2.2]
   case skip=>rw [e1.2,e2.2]
   case enter f args=>exact (pQ hc hr).elim
  | halt x w'=>simp only [Oper.quietUpon] at e1
 ·rw [h1] at h2;cases h2
 ·rw [h1] at h2;cases h2
 ·rw [h1',h2']
theorem xT {j:Nat} {v:Value} {K:Act->World->Prop} (hj:ops[j]?=some oj) (hap:oi.apart ops oj=true) (hsi:∀ cs b,oi.op≠ .select cs b) (hsj:∀ cs b,oj.op≠ .select cs b)
  (hy:aX X P ops C oi v a) (h:lOp X P ops C j K (a.put oi.dst v) w):lOp X P ops C j (fun a' w'=>aX X P ops C oi v a'/\K (a'.put oi.dst v) w') a w:=by
 obtain ⟨h1,h2,h3⟩:=Oper.apart_spec hap;have au:∀ (a:Act),aX X P ops C oi v a->∀ u,aX X P ops C oi v (a.put oj.dst u):=fun a hy u=>hy.of_same (execOp_put oi hsi a oj.dst u h3) (wanted_put oi a oj.dst u h3)
 unfold lOp at *;simp only [hj] at *;rw [wanted_put oj a oi.dst v h1] at h
 split
 ·rename_i hw
  simp only [hw,if_true] at h
  split
  ·rename_i hc
   simp only [hc,if_true] at h;obtain ⟨u,hu,hn⟩:=h;refine ⟨u,fun w hw'=> ?_,au a hy u,by rw [<- Act.put_comm a v u h2];exact hn⟩
   have:=hu w hw';unfold Oper.quietAt at *
   rwa [execOp_put oj hsj a oi.dst v h1] at this
  ·rename_i hc
   simp only [hc] at h;unfold Oper.gives at *;rw [execOp_put oj hsj a oi.dst v h1] at h
   exact cf (fun u w' hk=>⟨au a hy u,by rw [<- Act.put_comm a v u h2];exact hk⟩) h
 ·rename_i hw
  simp only [hw] at h
  exact ⟨au a hy _,by rw [<- Act.put_comm a v undef h2];exact h⟩
theorem wq {i:Nat} {K K':Act->World->Prop} (h:∀ a w,K a w->K' a w) (hh:lOp X P ops C i K a w):lOp X P ops C i K' a w:=by
 unfold lOp at *
 split
 ·exact h _ _ (by simpa [*] using hh)
 ·rename_i o ho
  simp only [ho] at hh
  split
  ·rename_i hw
   simp only [hw,if_true] at hh
   split
   ·rename_i hc;simp only [hc,if_true] at hh;exact Oper.quiet_mono (fun _=>h _ _) hh
   ·rename_i hc;simp only [hc] at hh;exact cf (fun _ _=>h _ _) hh
  ·rename_i hw;simp only [hw] at hh;exact h _ _ hh
theorem fh {i j:Nat} {listed:Array Bool} (hr:i∈Region.ready md ops listed) (hall:∀ e∈oj.after,Region.binds md e=true->listed.getD e.on false=true) :
  ∀ e∈oj.after,Region.binds md e=true->e.on≠i:=fun e he hb heq=>by
 have h1:=hall e he hb;have h0:=(mem_ready.1 hr).1;rw [heq] at h1;rcases Nat.lt_or_ge i listed.size with h' | h'
 ·simp [h'] at h0 h1;rw [h0] at h1;cases h1
 ·simp [Array.getElem?_eq_none h'] at h1
theorem eK {i L:Nat} {v:Value} (hL:ju md ops L) (hiL:i≠L) (hi:ops[i]?=some oi) (hsel:∀ (j:Nat) (o:Oper) cs b,ops[j]?=some o->o.op≠ .select cs b) :
  ∀ (fuel:Nat) (listed:Array Bool) (a:Act) (w:World),
   (∀ j oj,ops[j]?=some oj->j≠i->listed.getD j true=false->(∀ e∈oj.after,Region.binds md e=true->e.on≠i)->oi.apart ops oj=true) ->
   closed md ops listed->i∈Region.ready md ops listed->C w->aX X P ops C oi v a ->
   eQ X P md ops C L Q fuel (listed.setIfInBounds i true) (a.put oi.dst v) w->eQ X P md ops C L Q (fuel+1) listed a w:=by
 intro fuel
 induction fuel with
 | zero =>
  intro listed a w _ hcl hr hC hy H;refine ⟨fun h=>(by rw [h] at hr;cases hr),fun j hj=> ?_⟩
  by_cases hji:j=i
  ·subst hji;exact hy.op hi ⟨fun _=>hC,H⟩
  ·have:=ready_mono hj hji;rw [H.1] at this
   cases this
 | succ fuel ih =>
  intro listed a w hfree hcl hr hC hy H;refine ⟨fun h=>(by rw [h] at hr;cases hr),fun j hj=> ?_⟩
  by_cases hji:j=i
  ·subst hji;exact hy.op hi ⟨fun _=>hC,H⟩
  ·have hjL:j≠L:=fun e=>by subst e;exact hji (jM hL hcl hj hr).symm
   have h1:=H.2 j (ready_mono hj hji);obtain ⟨hjun,oj,hoj,hall⟩:=mem_ready.1 hj;have h2:=xT hoj (hfree j oj hoj hji hjun (fh (j:=j) hr hall)) (fun cs b=>hsel i oi cs b hi) (fun cs b=>hsel j oj cs b hoj) hy h1
   have hfree':∀ k ok,ops[k]?=some ok->k≠i->(listed.setIfInBounds j true).getD k true=false ->
     (∀ e∈ok.after,Region.binds md e=true->e.on≠i)->oi.apart ops ok=true:=fun k ok hk hki hun hno=>by
    refine hfree k ok hk hki ?_ hno
    by_cases hjk:j=k
    ·subst hjk;exact hjun
    ·rw [getD_set_ne true hjk] at hun;exact hun
   refine wq (fun a' w' h3=>⟨fun _=>h3.2.1 hjL,ih (listed.setIfInBounds j true) a' w' hfree' (hcl.set hj) (ready_mono hr (Ne.symm hji)) (h3.2.1 hjL) h3.1 ?_⟩) h2
   rw [Array.setIfInBounds_comm _ _ hji]
   exact h3.2.2
def waits (X:TypeId->Bool) (md:Region.Mode) (ops:Array Oper) (listed:Array Bool) (i:Nat):Prop :=
 ∃ B:Nat->Prop,(∀ j,B j->listed.getD j true=false/\∃ oj,ops[j]?=some oj/\∃ e∈oj.after,Region.binds md e=true/\(e.on=i\/B e.on)) /\
  (∀ j oj,ops[j]?=some oj->j≠i->listed.getD j true=false->bK X oj=false->B j)
theorem tW {listed:Array Bool} {j:Nat} (h1:listed.getD j true=false) (h2:listed.getD j false=true):False:=by
 rcases Nat.lt_or_ge j listed.size with h' | h'
 ·simp [h'] at h1 h2;rw [h1] at h2;cases h2
 ·simp [Array.getElem?_eq_none h'] at h2
theorem waits.none {i j:Nat} {listed:Array Bool} {B:Nat->Prop} (h:∀ j,B j->listed.getD j true=false/\∃ oj,ops[j]?=some oj/\∃ e∈oj.after,Region.binds md e=true/\(e.on=i\/B e.on))
  (hr:i∈Region.ready md ops listed) (hj:j∈Region.ready md ops listed):¬ B j:=fun hb=>by
 obtain ⟨hjun,oj,hoj,hall⟩:=mem_ready.1 hj;obtain ⟨_,oj',hoj',e,he,hbd,h1⟩:=h j hb;rw [hoj] at hoj';injection hoj' with hoj';subst hoj';have h2:=hall e he hbd;rcases h1 with h1 | h1
 ·rw [h1] at h2;exact tW (mem_ready.1 hr).1 h2
 ·exact tW (h _ h1).1 h2
theorem waits.calm {i j:Nat} {listed:Array Bool} (h:waits X md ops listed i) (hr:i∈Region.ready md ops listed) (hj:j∈Region.ready md ops listed) (hji:j≠i) (hoj:ops[j]?=some oj):bK X oj=true:=by
 obtain ⟨B,h1,h2⟩:=h
 cases hc:bK X oj
 ·exact absurd (h2 j oj hoj hji (mem_ready.1 hj).1 hc) (waits.none h1 hr hj)
 ·rfl
theorem waits.set {i j:Nat} {listed:Array Bool} (h:waits X md ops listed i) (hr:i∈Region.ready md ops listed) (hj:j∈Region.ready md ops listed):waits X md ops (listed.setIfInBounds j true) i:=by
 obtain ⟨B,h1,h2⟩:=h;have hn:=waits.none h1 hr hj;refine ⟨B,fun k hk=> ?_,fun k ok hk hki hun hck=> ?_⟩
 ·have hjk:j≠k:=fun e=>by subst e;exact hn hk
  rw [getD_set_ne true hjk]
  exact h1 k hk
 ·refine h2 k ok hk hki ?_ hck
  by_cases hjk:j=k
  ·subst hjk;exact (mem_ready.1 hj).1
  ·rw [getD_set_ne true hjk] at hun;exact hun
theorem aX.nU {i:Nat} {K:Act->World->Prop} (hi:ops[i]?=some o) (hc:bK X o=true) (h:lOp X P ops C i K a w):∃ v,aX X P ops C o v a/\K (a.put o.dst v) w:=by
 unfold Proofs.YtjciicheoghcdaaGreatDoor.lOp at h;simp only [hi] at h
 by_cases hw:Region.wanted o (yielded ops a.tmps)=true
 ·simp only [hw,hc,if_true] at h;obtain ⟨v,h1,h2⟩:=h
  exact ⟨v,.inl ⟨hw,hc,h1⟩,h2⟩
 ·simp only [hw] at h
  exact ⟨undef,.inr ⟨by simpa using hw,rfl⟩,h⟩
theorem jE {i L:Nat} (hL:ju md ops L) (hi:ops[i]?=some oi) (hci:bK X oi=false) (hsel:∀ (j:Nat) (o:Oper) cs b,ops[j]?=some o->o.op≠ .select cs b) :
  ∀ (fuel:Nat) (listed:Array Bool) (a:Act),
   (∀ j oj,ops[j]?=some oj->j≠i->listed.getD j true=false->(∀ e∈oj.after,Region.binds md e=true->e.on≠i)->oi.apart ops oj=true) ->
   waits X md ops listed i->i∈Region.ready md ops listed->C w->Region.wanted oi (yielded ops a.tmps)=true ->
   Oper.gives P oi a w (fun v w'=>(i≠L->C w')/\eQ X P md ops C L Q fuel (listed.setIfInBounds i true) (a.put oi.dst v) w')->eQ X P md ops C L Q (fuel+1) listed a w:=by
 intro fuel
 induction fuel with
 | zero =>
  intro listed a _ hwt hr hC hwn H;refine ⟨fun h=>(by rw [h] at hr;cases hr),fun j hj=> ?_⟩
  by_cases hji:j=i
  ·subst hji;unfold lOp;simp only [hi,hwn,hci,if_true,Bool.false_eq_true,if_false]
   exact H
  ·obtain ⟨v,w',_,h1,_⟩:=g_ H;have:=ready_mono hj hji;rw [h1] at this
   cases this
 | succ fuel ih =>
  intro listed a hfree hwt hr hC hwn H;refine ⟨fun h=>(by rw [h] at hr;cases hr),fun j hj=> ?_⟩
  by_cases hji:j=i
  ·subst hji;unfold lOp;simp only [hi,hwn,hci,if_true,Bool.false_eq_true,if_false]
   exact H
  ·obtain ⟨hjun,oj,hoj,hall⟩:=mem_ready.1 hj;have hcj:=hwt.calm hr hj hji hoj;have hap:=hfree j oj hoj hji hjun (fh (j:=j) hr hall);obtain ⟨h1,h2,h3⟩:=Oper.apart_spec hap;have hsi:∀ cs b,oi.op≠ .select cs b:=fun cs b=>hsel i oi cs b hi
   have hsj:∀ cs b,oj.op≠ .select cs b:=fun cs b=>hsel j oj cs b hoj
   have back:∀ v u,aX X P ops C oj u (a.put oi.dst v)->aX X P ops C oj u a:=fun v u hy=>hy.of_same (execOp_put oj hsj a oi.dst v h1).symm (wanted_put oj a oi.dst v h1).symm
   obtain ⟨v0,w0,hv0⟩:=g_ H;obtain ⟨u,hu,_⟩:=aX.nU hoj hcj (hv0.2.2 j (ready_mono hj hji));have hua:=back v0 u hu;refine hua.op hoj ⟨fun _=>hC,?_⟩
   have hfree':∀ k ok,ops[k]?=some ok->k≠i->(listed.setIfInBounds j true).getD k true=false ->
     (∀ e∈ok.after,Region.binds md e=true->e.on≠i)->oi.apart ops ok=true:=fun k ok hk hki hun hno=>by
    refine hfree k ok hk hki ?_ hno
    by_cases hjk:j=k
    ·subst hjk;exact hjun
    ·rw [getD_set_ne true hjk] at hun;exact hun
   refine ih (listed.setIfInBounds j true) (a.put oj.dst u) hfree' (hwt.set hr hj) (ready_mono hr (Ne.symm hji)) hC (by rw [wanted_put oi a oj.dst u h3];exact hwn) ?_
   unfold Oper.gives at H ⊢;rw [execOp_put oi hsi a oj.dst u h3];refine cf (fun v w' hv=>⟨hv.1,?_⟩) H
   obtain ⟨u',hu',hk⟩:=aX.nU hoj hcj (hv.2.2 j (ready_mono hj hji));obtain rfl:=aX.one hC (back v u' hu') hua;rw [Array.setIfInBounds_comm _ _ hji,<- Act.put_comm a v u' h2]
   exact hk.2
def behind (md:Region.Mode) (ops:Array Oper) (listed:Array Bool) (i:Nat):Array Bool :=
 (List.range ops.size).foldl (fun B j=>match ops[j]? with
  | some oj=>B.setIfInBounds j (!listed.getD j true && j != i && oj.after.any (fun e=>Region.binds md e && (e.on == i || B.getD e.on false)))
  | none=>B) (Array.replicate ops.size false)
def uD (X:TypeId->Bool) (md:Region.Mode) (ops:Array Oper) (listed:Array Bool) (i:Nat) (B:Array Bool):Bool :=
 ((List.range B.size).all fun j=> !B.getD j false || (!listed.getD j true && match ops[j]? with
  | some oj=>oj.after.any (fun e=>Region.binds md e && (e.on == i || B.getD e.on false))
  | none=>false)) &&
 ((List.range ops.size).all fun j=>j == i || listed.getD j true || B.getD j false || match ops[j]? with
  | some oj=>bK X oj
  | none=>true)
def oD (X:TypeId->Bool) (md:Region.Mode) (ops:Array Oper) (listed:Array Bool) (i:Nat):Bool :=
 match ops[i]? with
 | none=>true
 | some oi=>bK X oi || uD X md ops listed i (behind md ops listed i)
theorem iU {i:Nat} {listed:Array Bool} (hi:ops[i]?=some oi) (hc:bK X oi=false) (h:oD X md ops listed i=true):waits X md ops listed i:=by
 simp only [oD,hi,hc,Bool.false_or] at h
 generalize behind md ops listed i=B at h
 simp only [uD,Bool.and_eq_true,List.all_eq_true,List.mem_range] at h;refine ⟨fun j=>B.getD j false=true,fun j hj=> ?_,fun j oj hj hne hun hcj=> ?_⟩
 ·have hlt:j<B.size:=by
   rcases Nat.lt_or_ge j B.size with h' | h'
   ·exact h'
   ·simp [Array.getElem?_eq_none h'] at hj
  have h1:=h.1 j hlt;simp only [hj,Bool.not_true,Bool.false_or,Bool.and_eq_true,Bool.not_eq_true'] at h1;refine ⟨h1.1,?_⟩
  cases ho:ops[j]? with
  | none=>rw [ho] at h1;cases h1.2
  | some oj =>
   rw [ho] at h1;obtain ⟨e,he,hb⟩:=Array.any_eq_true'.1 h1.2;simp only [Bool.and_eq_true,Bool.or_eq_true,beq_iff_eq] at hb
   exact ⟨oj,rfl,e,he,hb.1,hb.2⟩
 ·have h1:=h.2 j (Array.getElem?_eq_some_iff.1 hj).1;simp only [hj,Bool.or_eq_true,beq_iff_eq,hne,false_or,hun,Bool.false_eq_true,hcj,or_false] at h1
  exact h1
def dW (X:TypeId->Bool) (md:Region.Mode) (ops:Array Oper):Nat->Nat->Array Bool->Bool
 | 0,_,listed=>(Region.ready md ops listed).isEmpty
 | fuel+1,k,listed=>(Region.ready md ops listed).contains k && Region.free md ops listed k && oD X md ops listed k && dW X md ops fuel (k+1) (listed.setIfInBounds k true)
def rT (X:TypeId->Bool) (md:Region.Mode) (ops:Array Oper):Bool:=Region.noSelect ops && dW X md ops ops.size 0 (Array.replicate ops.size false)
def bx (X:TypeId->Bool) (P:Program) (ops:Array Oper) (C:World->Prop) (nl:Bool) (Q:Act->World->Prop):List Oper->Act->World->Prop
 | [],a,w=>Q a w
 | o::rest,a,w=>if Region.wanted o (yielded ops a.tmps) then (if bK X o then o.quiet P a C (fun a'=>bx X P ops C nl Q rest a' w) else Oper.gives P o a w (fun v w'=>((rest=[]/\nl=true)\/C w')/\bx X P ops C nl Q rest (a.put o.dst v) w')) else bx X P ops C nl Q rest (a.put o.dst undef) w
theorem aI {nl:Bool} (h:Q a w):bx X P ops C nl Q [] a w:=h
theorem aG {nl:Bool} {rest:List Oper} (hw:Region.wanted o (yielded ops a.tmps)=false) (h:bx X P ops C nl Q rest (a.put o.dst undef) w):bx X P ops C nl Q (o::rest) a w:=by
 unfold bx;simp only [hw,Bool.false_eq_true,if_false]
 exact h
theorem aF {nl:Bool} {rest:List Oper} (hw:Region.wanted o (yielded ops a.tmps)=true) (hc:bK X o=true) (h:∀ K:Act->Prop,(∀ a',bx X P ops C nl Q rest a' w->K a')->o.quiet P a C K):bx X P ops C nl Q (o::rest) a w:=by
 unfold bx;simp only [hw,hc,if_true]
 exact h _ fun _ h=>h
theorem bj {nl:Bool} {rest:List Oper} (hw:Region.wanted o (yielded ops a.tmps)=true) (hc:bK X o=false) (h:∀ K:Act->World->Prop,(∀ a' w',C w'->bx X P ops C nl Q rest a' w'->K a' w')->Oper.gives P o a w (fun v w'=>K (a.put o.dst v) w')):bx X P ops C nl Q (o::rest) a w:=by
 unfold bx;simp only [hw,hc,if_true,Bool.false_eq_true,if_false]
 exact h (fun a' w'=>((rest=[]/\nl=true)\/C w')/\bx X P ops C nl Q rest a' w') fun _ _ h1 h2=>⟨.inr h1,h2⟩
theorem aV {rest:List Oper} (hn:rest=[]) (hw:Region.wanted o (yielded ops a.tmps)=true) (hc:bK X o=false) (h:∀ K:Act->World->Prop,(∀ a' w',bx X P ops C true Q rest a' w'->K a' w')->Oper.gives P o a w (fun v w'=>K (a.put o.dst v) w')):bx X P ops C true Q (o::rest) a w:=by
 unfold bx;simp only [hw,hc,if_true,Bool.false_eq_true,if_false]
 exact h (fun a' w'=>((rest=[]/\True)\/C w')/\bx X P ops C true Q rest a' w') fun _ _ h2=>⟨.inl ⟨hn,trivial⟩,h2⟩
theorem af {v:Value} {w':World}:gives P w R (.ok (.value v) w')=R v w':=rfl
theorem ah {w':World}:gives P w R (.ok .skip w')=R undef w':=rfl
theorem ae {f:FuncId} {args:Array Value} {w':World}:gives P w R (.ok (.enter f args) w')=Calls P f args w' (fun e w''=>∃ v,e= .returned v/\R v w''):=rfl
def cW (ops:Array Oper) (nl:Bool):Nat:=if nl then ops.size-1 else ops.size
def kF (md:Region.Mode) (ops:Array Oper):Bool:=(List.range (ops.size-1)).all fun i=>(List.range ops.size).any fun j=>decide (i<j) && match ops[j]? with
 | some oj=>oj.after.any fun e=>Region.binds md e && e.on == i
 | none=>false
theorem h_ {nl:Bool} (h:nl=true->kF md ops=true):ju md ops (cW ops nl):=by
 intro listed hcl hr i hi hne;obtain ⟨_,oL,hoL,hall⟩:=mem_ready.1 hr;unfold cW at hoL hne hr
 cases nl
 ·simp only [Bool.false_eq_true,if_false] at hoL;rw [Array.getElem?_eq_none (Nat.le_refl _)] at hoL
  cases hoL
 ·simp only [if_true] at hoL hne;have h:=h rfl;simp only [kF,List.all_eq_true,List.mem_range] at h;have key:∀ n i,ops.size-1-i=n->i<ops.size-1->listed.getD i false=true:=by
   intro n
   induction n using Nat.strongRecOn with
   | ind n ih =>
    intro i hn hi;have h1:=h i hi;simp only [List.any_eq_true,List.mem_range,Bool.and_eq_true,decide_eq_true_eq] at h1;obtain ⟨j,hj,hij,hm⟩:=h1
    cases hoj:ops[j]? with
    | none=>rw [hoj] at hm;cases hm
    | some oj =>
     rw [hoj] at hm;obtain ⟨e,he,hb⟩:=Array.any_eq_true'.1 hm;simp only [Bool.and_eq_true,beq_iff_eq] at hb
     by_cases hjl:j=ops.size-1
     ·subst hjl;rw [hoL] at hoj;injection hoj with hoj;subst hoj;have:=hall e he hb.1
      rwa [hb.2] at this
     ·have hlj:=ih (ops.size-1-j) (by omega) j rfl (by omega)
      have:=hcl j oj hoj hlj e he hb.1
      rwa [hb.2] at this
  exact key _ i rfl (by omega)
theorem eR {nl:Bool} (hL:ju md ops (cW ops nl)) (hs:Region.noSelect ops=true):∀ (l:List Oper) (k:Nat) (listed:Array Bool) (a:Act) (w:World),(∀ j,l[j]?=ops[k+j]?)->dW X md ops l.length k listed=true->closed md ops listed->C w->bx X P ops C nl Q l a w->eQ X P md ops C (cW ops nl) Q l.length listed a w
 | [],_,_,_,_,_,hB,_,hC,h=>⟨by simpa [dW] using hB,h⟩
 | o::l,k,listed,a,w,hl,hB,hcl,hC,h=>by
  have h0:ops[k]?=some o:=by simpa using (hl 0).symm
  simp only [List.length_cons,dW,Bool.and_eq_true] at hB;obtain ⟨⟨⟨hr,hf⟩,hwt⟩,hB'⟩:=hB;have hl':∀ j,l[j]?=ops[k+1+j]?:=fun j=>by have:=hl (j+1);simpa [Nat.add_assoc,Nat.add_comm 1 j] using this
  have hcl':=hcl.set (j:=k) (by simpa using hr)
  have hks:k<ops.size:=(Array.getElem?_eq_some_iff.1 h0).1;have hlen:l=[]->k=ops.size-1:=fun e=>by
   subst e;have h1:=hl' 0;simp only [List.getElem?_nil,Nat.add_zero] at h1;have:=Array.getElem?_eq_none_iff.1 h1.symm
   omega
  unfold bx at h
  by_cases hw:Region.wanted o (yielded ops a.tmps)=true
  ·simp only [hw,if_true] at h
   cases hc:bK X o
   ·simp only [hc,Bool.false_eq_true,if_false] at h;refine jE hL h0 hc (Region.noSelect_spec hs) l.length listed a (Region.free_spec h0 hf) (iU h0 hc hwt) (by simpa using hr) hC hw ?_
    refine cf (fun v w' ⟨h1,h2⟩=> ?_) h
    rcases h1 with ⟨e,hn⟩ | h1
    ·subst e;refine ⟨fun hne=>absurd (by rw [hlen rfl];unfold cW;rw [hn];rfl) hne,by simpa [dW] using hB',h2⟩
    ·exact ⟨fun _=>h1,eR hL hs l (k+1) _ _ _ hl' hB' hcl' h1 h2⟩
   ·simp only [hc,if_true] at h;obtain ⟨v,hv,hk⟩:=h
    by_cases hkL:k=cW ops nl
    ·have hln:l=[]:=by
      unfold cW at hkL
      cases nl
      ·simp at hkL;omega
      ·simp only [if_true] at hkL;have h1:=hl' 0;rw [Array.getElem?_eq_none (by omega)] at h1
       cases l with
       | nil=>rfl
       | cons _ _=>simp at h1
     subst hln;refine ⟨fun h=>(by rw [h] at hr;simp at hr),fun j hj=> ?_⟩
     have hjk:j=k:=by rw [hkL];exact jM hL hcl (by rw [<- hkL];simpa using hr) hj
     subst hjk
     exact aX.op h0 (.inl ⟨hw,hc,hv⟩) ⟨fun hne=>absurd hkL hne,by simpa [dW] using hB',hk⟩
    ·exact eK hL hkL h0 (Region.noSelect_spec hs) l.length listed a w (Region.free_spec h0 hf) hcl (by simpa using hr) hC (.inl ⟨hw,hc,hv⟩) (eR hL hs l (k+1) _ _ _ hl' hB' hcl' hC hk)
  ·simp only [hw] at h
   by_cases hkL:k=cW ops nl
   ·have hln:l=[]:=by
     unfold cW at hkL
     cases nl
     ·simp at hkL;omega
     ·simp only [if_true] at hkL;have h1:=hl' 0;rw [Array.getElem?_eq_none (by omega)] at h1
      cases l with
      | nil=>rfl
      | cons _ _=>simp at h1
    subst hln;refine ⟨fun h=>(by rw [h] at hr;simp at hr),fun j hj=> ?_⟩
    have hjk:j=k:=by rw [hkL];exact jM hL hcl (by rw [<- hkL];simpa using hr) hj
    subst hjk
    exact aX.op h0 (.inr ⟨by simpa using hw,rfl⟩) ⟨fun hne=>absurd hkL hne,by simpa [dW] using hB',h⟩
   ·exact eK hL hkL h0 (Region.noSelect_spec hs) l.length listed a w (Region.free_spec h0 hf) hcl (by simpa using hr) hC (.inr ⟨by simpa using hw,rfl⟩) (eR hL hs l (k+1) _ _ _ hl' hB' hcl' hC h)
theorem dZ (X:TypeId->Bool) (nl:Bool) {id:Nat} {Q:Exit->Act->World->Prop} {a:Act} {w:World} {l:List Oper} (S:World->Prop) (hm:P.follows .mixedOrders=true) (hB:rT X .any l.toArray=true) (hN:nl=true->kF .any l.toArray=true) (hC:S w.drew)
  (h:Nonempty (Wd S)->bx X P l.toArray (fun w'=>∃ x:Wd S,w'=x.w) nl (fun a' w'=>Q .normal a' w') l a w.drew):(Code.region id l.toArray true).wp P Q a w:=by
 simp only [rT,Bool.and_eq_true] at hB;refine wp_region_any hm (jU (X:=X) (C:=fun w'=>∃ x:Wd S,w'=x.w) (Q:=fun a' w'=>Q .normal a' w') (h_ hN) (fun _ _ h=>h) _ _ _ _ (by simpa using closed.none l.length) (.inl ⟨⟨w.drew,hC⟩,rfl⟩) ?_)
 have:=eR (X:=X) (P:=P) (C:=fun w'=>∃ x:Wd S,w'=x.w) (Q:=fun a' w'=>Q .normal a' w') (md:= .any) (h_ hN) hB.1 l 0 (Array.replicate l.length false) a w.drew (by simp) (by simpa using hB.2) (closed.none _) ⟨⟨w.drew,hC⟩,rfl⟩ (h ⟨⟨w.drew,hC⟩⟩)
 simpa using this
def noX (_:TypeId):Bool:=false
theorem eH (nl:Bool) {id:Nat} {Q:Exit->Act->World->Prop} {a:Act} {w:World} {l:List Oper} (S:World->Prop) (hm:P.follows .mixedOrders=true) (hB:rT noX .any l.toArray=true) (hN:nl=true->kF .any l.toArray=true) (hC:S w.drew)
  (h:Nonempty (Wd S)->bx noX P l.toArray (fun w'=>∃ x:Wd S,w'=x.w) nl (fun a' w'=>Q .normal a' w') l a w.drew):(Code.region id l.toArray true).wp P Q a w:=dZ noX nl S hm hB hN hC h
theorem jB {id:Nat} {Q:Exit->Act->World->Prop} {a:Act} {w:World} {l:List Oper} (S:World->Prop) (hm:P.follows .mixedOrders=true) (hB:rT noX .any l.toArray=true) (hC:S w.drew)
  (h:Nonempty (Wd S)->bx noX P l.toArray (fun w'=>∃ x:Wd S,w'=x.w) false (fun a' w'=>Q .normal a' w') l a w.drew):(Code.region id l.toArray true).wp P Q a w:=eH false S hm hB (fun h=>by cases h) hC h
end
end
end Go.Proofs.YtjciicheoghcdaaGreatDoor

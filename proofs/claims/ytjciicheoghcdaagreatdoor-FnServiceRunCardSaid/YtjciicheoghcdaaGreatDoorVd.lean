/- Part of the proof: the law FnServiceRun is true for every input. -/
import Derived.Test.YtjciicheoghcdaaGreatDoorVc
namespace Go.Proofs.YtjciicheoghcdaaGreatDoor
open Go.RowKit
set_option linter.all false
set_option maxRecDepth 20000
set_option maxHeartbeats 16000000
section
def bK (X:TypeId->Bool) (o:Oper):Bool :=
 match o.op with
 | .load ty _=> !X ty
 | .move _ | .assign _ | .fieldAddr .. | .indexAddr .. | .field .. | .index .. | .binOp .. | .unOp .. | .convert .. | .slice .. | .extract .. | .makeInterface .. | .makeFunc .. | .build .. => true
 | .call c=>(match c.callee with | .builtin .len=>true | .builtin .cap=>true|_=>false)
 | _=>false
theorem xu {P:Program} {s:Sem Value} {w w':World} {f:FuncId} {args:Array Value} (h:(do let x <-s;pure (Next.value x):Sem Next).run P w= .ok (.enter f args) w'):False:=by
 rw[Sem.run_bind] at h
 cases hs:s.run P w with
 | ok x w2=>rw[hs] at h;simp at h
 | halt x w2=>rw[hs] at h;simp at h
theorem pQ {X:TypeId->Bool} {o:Oper} (hc:bK X o=true) {ρ:Operand->Value} {P:Program} {w w':World} {f:FuncId} {args:Array Value} (h:(execOp ρ o).run P w= .ok (.enter f args) w'):False:=by
 obtain⟨dst,op,type,pos,after,guard⟩:=o
 cases op <;> simp only[bK] at hc <;> try (cases hc;done)
 case call c =>
  obtain⟨callee,xs,x1⟩:=c
  cases callee <;> simp only at hc <;> try (cases hc;done)
  rename_i b
  cases b <;> simp only at hc <;> try (cases hc;done)
  all_goals
   unfold execOp at h
   dsimp only at h
   rw[Sem.run_bind] at h
   cases hr:(resolve ρ { callee:=_,args:=xs,argTypes:=x1 } type).run P w with
   | halt x w2=>rw[hr] at h;simp at h
   | ok d w2 =>
    rw[hr] at h;simp only[resolve,Sem.run_pure] at hr;injection hr with h1 h2;subst h1 h2;simp only[Result.andThen_ok,invoke,builtin] at h
    exact xu h
 all_goals first
  | exact xu h
  | (simp[execOp] at h;done)
def gives (P:Program) (w:World) (R:Value->World->Prop):Result Next->Prop
 | .ok (.value v) w'=>R v w'
 | .ok .skip w'=>R undef w'
 | .ok (.enter f args) w'=>Calls P f args w' (fun e w''=>∃ v,e= .returned v/\R v w'')
 | _=>False
def Oper.gives (P:Program) (o:Oper) (a:Act) (w:World) (R:Value->World->Prop):Prop:=Proofs.YtjciicheoghcdaaGreatDoor.gives P w R ((execOp a.eval o).run P w)
section
variable {X:TypeId->Bool} {P:Program} {ops:Array Oper} {md:Region.Mode} {C:World->Prop} {Q:Act->World->Prop} {w:World} {a:Act} {o oi oj:Oper} {R R':Value->World->Prop}
theorem cf {r:Result Next} (h:∀ v w',R v w'->R' v w') (hh:gives P w R r):gives P w R' r:=by
 unfold gives at *
 split at hh
 ·exact h _ _ hh
 ·exact h _ _ hh
 ·exact hh.mono fun e w'' ⟨v,he,hv⟩=>⟨v,he,h _ _ hv⟩
 ·exact hh.elim
theorem g_ {r:Result Next} (hh:gives P w R r):∃ v w',R v w':=by
 unfold gives at hh
 split at hh
 ·exact⟨_,_,hh⟩
 ·exact⟨_,_,hh⟩
 ·obtain⟨e,w',fr,⟨v,_,hv⟩,_⟩:=hh []
  exact⟨_,_,hv⟩
 ·exact hh.elim
theorem mo {Q':Exit->Act->World->Prop} {K:Act->World->Prop} (hh:Oper.gives P o a w (fun v w'=>K (a.put o.dst v) w')):o.wp P a w K Q':=by
 unfold Oper.gives gives at hh;unfold Oper.wp
 split at hh
 ·rename_i h;rw[h];exact hh
 ·rename_i h;rw[h];exact hh
 ·rename_i h;rw[h];exact hh.mono fun e w'' ⟨v,he,hv⟩=>by subst he;exact hv
 ·exact hh.elim
def lOp (X:TypeId->Bool) (P:Program) (ops:Array Oper) (C:World->Prop) (i:Nat) (K:Act->World->Prop) (a:Act) (w:World):Prop :=
 match ops[i]? with
 | none=>K a w
 | some o=>if Region.wanted o (yielded ops a.tmps) then (if bK X o then o.quiet P a C (fun a'=>K a' w) else Oper.gives P o a w (fun v w'=>K (a.put o.dst v) w')) else K (a.put o.dst undef) w
def eQ (X:TypeId->Bool) (P:Program) (md:Region.Mode) (ops:Array Oper) (C:World->Prop) (L:Nat) (Q:Act->World->Prop):Nat->Array Bool->Act->World->Prop
 | 0,listed,a,w=>Region.ready md ops listed=[]/\Q a w
 | fuel+1,listed,a,w=>(Region.ready md ops listed=[]->Q a w)/\∀ i∈Region.ready md ops listed,lOp X P ops C i (fun a' w'=>(i≠L->C w')/\eQ X P md ops C L Q fuel (listed.setIfInBounds i true) a' w') a w
def closed (md:Region.Mode) (ops:Array Oper) (listed:Array Bool):Prop:=∀ j oj,ops[j]?=some oj->listed.getD j false=true->∀ e∈oj.after,Region.binds md e=true->listed.getD e.on false=true
theorem closed.set {j:Nat} {listed:Array Bool} (h:closed md ops listed) (hj:j∈Region.ready md ops listed):closed md ops (listed.setIfInBounds j true):=fun k ok hk hl e he hb=>by
 apply getD_set_true
 by_cases hjk:j=k
 ·subst hjk;obtain⟨_,oj,hoj,hall⟩:=mem_ready.1 hj;rw[hk] at hoj;injection hoj with hoj;subst hoj
  exact hall e he hb
 ·rw[getD_set_ne false hjk] at hl
  exact h k ok hk hl e he hb
theorem closed.none (n:Nat):closed md ops (Array.replicate n false):=fun j oj _ hl=>by simp[Array.getD] at hl
def ju (md:Region.Mode) (ops:Array Oper) (L:Nat):Prop:=∀ listed,closed md ops listed->L∈Region.ready md ops listed->∀ i,i<ops.size->i≠L->listed.getD i false=true
theorem sM {i:Nat} {K K':Act->World->Prop} {Q':Exit->Act->World->Prop} (hw:C w) (h:∀ a w',K a w'->K' a w') (hh:lOp X P ops C i K a w):wpOp P ops Q' i K' a w:=by
 unfold lOp at hh;unfold wpOp
 split
 ·rename_i ho;simp only[ho] at hh;exact h _ _ hh
 ·rename_i o ho
  simp only[ho] at hh
  split
  ·rename_i hwn
   simp only[hwn,if_true] at hh;refine .inl ?_
   split at hh
   ·rename_i hcalm
    obtain⟨v,h1,h2⟩:=hh;have h3:=h1 w hw;unfold Oper.quietAt at h3;unfold Oper.wp
    generalize hr:(execOp a.eval o).run P w=r at *
    cases r with
    | ok n w' =>
     cases n <;> simp only[Oper.quietUpon] at h3 <;> simp only[Oper.upon]
     case value u=>obtain⟨e1,e2⟩:=h3;rw[e1,e2];exact h _ _ h2
     case skip=>obtain⟨e1,e2⟩:=h3;rw[e1,<-e2];exact h _ _ h2
     case enter f args=>exact(pQ hcalm hr).elim
    | halt x w'=>simp only[Oper.quietUpon] at h3
   ·exact mo (cf (fun _ _=>h _ _) hh)
  ·rename_i hwn;simp only[hwn] at hh;exact h _ _ hh
theorem tX {listed:Array Bool} {i:Nat} (h:listed.getD i false=true) (hun:listed.getD i true=false):False:=by
 rcases Nat.lt_or_ge i listed.size with h'|h'
 ·simp[h'] at hun h;rw[hun] at h;cases h
 ·simp[Array.getElem?_eq_none h'] at h
theorem jM {L i:Nat} {listed:Array Bool} (hL:ju md ops L) (hcl:closed md ops listed) (hr:L∈Region.ready md ops listed) (hi:i∈Region.ready md ops listed):i=L:=by
 by_cases h:i=L
 ·exact h
 ·obtain⟨hun,oi,hoi,_⟩:=mem_ready.1 hi
  exact(tX (hL listed hcl hr i (Array.getElem?_eq_some_iff.1 hoi).1 h) hun).elim
theorem nX {L:Nat} {listed:Array Bool} (hL:ju md ops L) (hcl:closed md ops listed) (hr:L∈Region.ready md ops listed):Region.ready md ops (listed.setIfInBounds L true)=[]:=by
 cases hx:Region.ready md ops (listed.setIfInBounds L true) with
 | nil=>rfl
 | cons j t =>
  exfalso
  have hj:j∈Region.ready md ops (listed.setIfInBounds L true):=by rw[hx];exact List.mem_cons_self ..
  obtain⟨hun,oj,hoj,_⟩:=mem_ready.1 hj;obtain⟨hLun,oL,hoL,hall⟩:=mem_ready.1 hr
  by_cases hjL:j=L
  ·subst hjL;have hlt:j<listed.size:=by
    rcases Nat.lt_or_ge j listed.size with h'|h'
    ·exact h'
    ·simp[Array.getElem?_eq_none h'] at hLun
   simp[hlt] at hun
  ·rw[getD_set_ne true (Ne.symm hjL)] at hun
   exact tX (hL listed hcl hr j (Array.getElem?_eq_some_iff.1 hoj).1 hjL) hun
theorem jU {L:Nat} {Q':Exit->Act->World->Prop} (hL:ju md ops L) (hQ:∀ a w,Q a w->Q' .normal a w):∀ (fuel:Nat) (listed:Array Bool) (a:Act) (w:World),closed md ops listed->(C w\/Region.ready md ops listed=[])->eQ X P md ops C L Q fuel listed a w->wpAny P md ops Q' fuel listed a w
 | 0,_,_,_,_,_,h=>⟨h.1,hQ _ _ h.2⟩
 | fuel+1,listed,_,_,hcl,hC,h=>⟨fun h0=>hQ _ _ (h.1 h0),fun i hi=>by
   rcases hC with hC|hC
   ·refine sM hC (fun a' w' hk=>jU hL hQ fuel _ a' w' (hcl.set hi) ?_ hk.2) (h.2 i hi)
    by_cases hiL:i=L
    ·subst hiL;exact .inr (nX hL hcl hi)
    ·exact .inl (hk.1 hiL)
   ·rw[hC] at hi;cases hi⟩
def aX (X:TypeId->Bool) (P:Program) (ops:Array Oper) (C:World->Prop) (o:Oper) (v:Value) (a:Act):Prop :=
 (Region.wanted o (yielded ops a.tmps)=true/\bK X o=true/\∀ w,C w->o.quietAt P a C w v)\/(Region.wanted o (yielded ops a.tmps)=false/\v=undef)
theorem aX.of_same {v:Value} {a':Act} (hy:aX X P ops C o v a) (he:execOp a'.eval o=execOp a.eval o) (hw:Region.wanted o (yielded ops a'.tmps)=Region.wanted o (yielded ops a.tmps)):aX X P ops C o v a':=by
 unfold aX Oper.quietAt at *;rw[he,hw]
 exact hy
theorem aX.op {i:Nat} {v:Value} {K:Act->World->Prop} (hi:ops[i]?=some o) (hy:aX X P ops C o v a) (h:K (a.put o.dst v) w):lOp X P ops C i K a w:=by
 unfold Proofs.YtjciicheoghcdaaGreatDoor.lOp;simp only[hi];rcases hy with⟨hw,hc,hv⟩|⟨hw,rfl⟩
 ·simp only[hw,hc,if_true];exact⟨v,hv,h⟩
 ·simp only[hw,Bool.false_eq_true,if_false];exact h
theorem aX.one {v u:Value} (hw:C w) (h1:aX X P ops C o v a) (h2:aX X P ops C o u a):v=u:=by
 rcases h1 with⟨h1,hc,h1'⟩|⟨h1,h1'⟩ <;> rcases h2 with⟨h2,_,h2'⟩|⟨h2,h2'⟩
 ·have e1:=h1' w hw;have e2:=h2' w hw;unfold Oper.quietAt at e1 e2
  generalize hr:(execOp a.eval o).run P w=r at *
  cases r with
  | ok n w' =>
   cases n <;> simp only[Oper.quietUpon] at e1 e2
   case value x=>rw[<-e1.2,<-e2.2]
   case skip=>rw[e1.2,e2.2]
   case enter f args=>exact(pQ hc hr).elim
  | halt x w'=>simp only[Oper.quietUpon] at e1
 ·rw[h1] at h2;cases h2
 ·rw[h1] at h2;cases h2
 ·rw[h1',h2']
theorem xT {j:Nat} {v:Value} {K:Act->World->Prop} (hj:ops[j]?=some oj) (hap:oi.apart ops oj=true) (hsi:∀ cs b,oi.op≠ .select cs b) (hsj:∀ cs b,oj.op≠ .select cs b)
  (hy:aX X P ops C oi v a) (h:lOp X P ops C j K (a.put oi.dst v) w):lOp X P ops C j (fun a' w'=>aX X P ops C oi v a'/\K (a'.put oi.dst v) w') a w:=by
 obtain⟨h1,h2,h3⟩:=Oper.apart_spec hap;have au:∀ (a:Act),aX X P ops C oi v a->∀ u,aX X P ops C oi v (a.put oj.dst u):=fun a hy u=>hy.of_same (execOp_put oi hsi a oj.dst u h3) (wanted_put oi a oj.dst u h3)
 unfold lOp at *;simp only[hj] at *;rw[wanted_put oj a oi.dst v h1] at h
 split
 ·rename_i hw
  simp only[hw,if_true] at h
  split
  ·rename_i hc
   simp only[hc,if_true] at h;obtain⟨u,hu,hn⟩:=h;refine⟨u,fun w hw'=>?_,au a hy u,by rw[<-Act.put_comm a v u h2];exact hn⟩
   have:=hu w hw';unfold Oper.quietAt at *
   rwa [execOp_put oj hsj a oi.dst v h1] at this
  ·rename_i hc
   simp only[hc] at h;unfold Oper.gives at *;rw[execOp_put oj hsj a oi.dst v h1] at h
   exact cf (fun u w' hk=>⟨au a hy u,by rw[<-Act.put_comm a v u h2];exact hk⟩) h
 ·rename_i hw
  simp only[hw] at h
  exact⟨au a hy _,by rw[<-Act.put_comm a v undef h2];exact h⟩
theorem wq {i:Nat} {K K':Act->World->Prop} (h:∀ a w,K a w->K' a w) (hh:lOp X P ops C i K a w):lOp X P ops C i K' a w:=by
 unfold lOp at *
 split
 ·exact h _ _ (by simpa [*] using hh)
 ·rename_i o ho
  simp only[ho] at hh
  split
  ·rename_i hw
   simp only[hw,if_true] at hh
   split
   ·rename_i hc;simp only[hc,if_true] at hh;exact Oper.quiet_mono (fun _=>h _ _) hh
   ·rename_i hc;simp only[hc] at hh;exact cf (fun _ _=>h _ _) hh
  ·rename_i hw;simp only[hw] at hh;exact h _ _ hh
theorem fh {i j:Nat} {listed:Array Bool} (hr:i∈Region.ready md ops listed) (hall:∀ e∈oj.after,Region.binds md e=true->listed.getD e.on false=true) :
  ∀ e∈oj.after,Region.binds md e=true->e.on≠i:=fun e he hb heq=>by
 have h1:=hall e he hb;have h0:=(mem_ready.1 hr).1;rw[heq] at h1;rcases Nat.lt_or_ge i listed.size with h'|h'
 ·simp[h'] at h0 h1;rw[h0] at h1;cases h1
 ·simp[Array.getElem?_eq_none h'] at h1
theorem eK {i L:Nat} {v:Value} (hL:ju md ops L) (hiL:i≠L) (hi:ops[i]?=some oi) (hsel:∀ (j:Nat) (o:Oper) cs b,ops[j]?=some o->o.op≠ .select cs b) :
  ∀ (fuel:Nat) (listed:Array Bool) (a:Act) (w:World),
   (∀ j oj,ops[j]?=some oj->j≠i->listed.getD j true=false->(∀ e∈oj.after,Region.binds md e=true->e.on≠i)->oi.apart ops oj=true) ->
   closed md ops listed->i∈Region.ready md ops listed->C w->aX X P ops C oi v a ->
   eQ X P md ops C L Q fuel (listed.setIfInBounds i true) (a.put oi.dst v) w->eQ X P md ops C L Q (fuel+1) listed a w:=by
 intro fuel
 induction fuel with
 | zero =>
  intro listed a w _ hcl hr hC hy H;refine⟨fun h=>(by rw[h] at hr;cases hr),fun j hj=>?_⟩
  by_cases hji:j=i
  ·subst hji;exact hy.op hi ⟨fun _=>hC,H⟩
  ·have:=ready_mono hj hji;rw[H.1] at this
   cases this
 | succ fuel ih =>
  intro listed a w hfree hcl hr hC hy H;refine⟨fun h=>(by rw[h] at hr;cases hr),fun j hj=>?_⟩
  by_cases hji:j=i
  ·subst hji;exact hy.op hi ⟨fun _=>hC,H⟩
  ·have hjL:j≠L:=fun e=>by subst e;exact hji (jM hL hcl hj hr).symm
   have h1:=H.2 j (ready_mono hj hji);obtain⟨hjun,oj,hoj,hall⟩:=mem_ready.1 hj;have h2:=xT hoj (hfree j oj hoj hji hjun (fh (j:=j) hr hall)) (fun cs b=>hsel i oi cs b hi) (fun cs b=>hsel j oj cs b hoj) hy h1
   have hfree':∀ k ok,ops[k]?=some ok->k≠i->(listed.setIfInBounds j true).getD k true=false ->
     (∀ e∈ok.after,Region.binds md e=true->e.on≠i)->oi.apart ops ok=true:=fun k ok hk hki hun hno=>by
    refine hfree k ok hk hki ?_ hno
    by_cases hjk:j=k
    ·subst hjk;exact hjun
    ·rw[getD_set_ne true hjk] at hun;exact hun
   refine wq (fun a' w' h3=>⟨fun _=>h3.2.1 hjL,ih (listed.setIfInBounds j true) a' w' hfree' (hcl.set hj) (ready_mono hr (Ne.symm hji)) (h3.2.1 hjL) h3.1 ?_⟩) h2
   rw[Array.setIfInBounds_comm _ _ hji]
   exact h3.2.2
def waits (X:TypeId->Bool) (md:Region.Mode) (ops:Array Oper) (listed:Array Bool) (i:Nat):Prop :=
 ∃ B:Nat->Prop,(∀ j,B j->listed.getD j true=false/\∃ oj,ops[j]?=some oj/\∃ e∈oj.after,Region.binds md e=true/\(e.on=i\/B e.on)) /\
  (∀ j oj,ops[j]?=some oj->j≠i->listed.getD j true=false->bK X oj=false->B j)
theorem tW {listed:Array Bool} {j:Nat} (h1:listed.getD j true=false) (h2:listed.getD j false=true):False:=by
 rcases Nat.lt_or_ge j listed.size with h'|h'
 ·simp[h'] at h1 h2;rw[h1] at h2;cases h2
 ·simp[Array.getElem?_eq_none h'] at h2
theorem waits.none {i j:Nat} {listed:Array Bool} {B:Nat->Prop} (h:∀ j,B j->listed.getD j true=false/\∃ oj,ops[j]?=some oj/\∃ e∈oj.after,Region.binds md e=true/\(e.on=i\/B e.on))
  (hr:i∈Region.ready md ops listed) (hj:j∈Region.ready md ops listed):¬B j:=fun hb=>by
 obtain⟨hjun,oj,hoj,hall⟩:=mem_ready.1 hj;obtain⟨_,oj',hoj',e,he,hbd,h1⟩:=h j hb;rw[hoj] at hoj';injection hoj' with hoj';subst hoj';have h2:=hall e he hbd;rcases h1 with h1|h1
 ·rw[h1] at h2;exact tW (mem_ready.1 hr).1 h2
 ·exact tW (h _ h1).1 h2
theorem waits.calm {i j:Nat} {listed:Array Bool} (h:waits X md ops listed i) (hr:i∈Region.ready md ops listed) (hj:j∈Region.ready md ops listed) (hji:j≠i) (hoj:ops[j]?=some oj):bK X oj=true:=by
 obtain⟨B,h1,h2⟩:=h
 cases hc:bK X oj
 ·exact absurd (h2 j oj hoj hji (mem_ready.1 hj).1 hc) (waits.none h1 hr hj)
 ·rfl
theorem waits.set {i j:Nat} {listed:Array Bool} (h:waits X md ops listed i) (hr:i∈Region.ready md ops listed) (hj:j∈Region.ready md ops listed):waits X md ops (listed.setIfInBounds j true) i:=by
 obtain⟨B,h1,h2⟩:=h;have hn:=waits.none h1 hr hj;refine⟨B,fun k hk=>?_,fun k ok hk hki hun hck=>?_⟩
 ·have hjk:j≠k:=fun e=>by subst e;exact hn hk
  rw[getD_set_ne true hjk]
  exact h1 k hk
 ·refine h2 k ok hk hki ?_ hck
  by_cases hjk:j=k
  ·subst hjk;exact(mem_ready.1 hj).1
  ·rw[getD_set_ne true hjk] at hun;exact hun
theorem aX.nU {i:Nat} {K:Act->World->Prop} (hi:ops[i]?=some o) (hc:bK X o=true) (h:lOp X P ops C i K a w):∃ v,aX X P ops C o v a/\K (a.put o.dst v) w:=by
 unfold Proofs.YtjciicheoghcdaaGreatDoor.lOp at h;simp only[hi] at h
 by_cases hw:Region.wanted o (yielded ops a.tmps)=true
 ·simp only[hw,hc,if_true] at h;obtain⟨v,h1,h2⟩:=h
  exact⟨v,.inl ⟨hw,hc,h1⟩,h2⟩
 ·simp only[hw] at h
  exact⟨undef,.inr ⟨by simpa using hw,rfl⟩,h⟩
theorem jE {i L:Nat} (hL:ju md ops L) (hi:ops[i]?=some oi) (hci:bK X oi=false) (hsel:∀ (j:Nat) (o:Oper) cs b,ops[j]?=some o->o.op≠ .select cs b) :
  ∀ (fuel:Nat) (listed:Array Bool) (a:Act),
   (∀ j oj,ops[j]?=some oj->j≠i->listed.getD j true=false->(∀ e∈oj.after,Region.binds md e=true->e.on≠i)->oi.apart ops oj=true) ->
   waits X md ops listed i->i∈Region.ready md ops listed->C w->Region.wanted oi (yielded ops a.tmps)=true ->
   Oper.gives P oi a w (fun v w'=>(i≠L->C w')/\eQ X P md ops C L Q fuel (listed.setIfInBounds i true) (a.put oi.dst v) w')->eQ X P md ops C L Q (fuel+1) listed a w:=by
 intro fuel
 induction fuel with
 | zero =>
  intro listed a _ hwt hr hC hwn H;refine⟨fun h=>(by rw[h] at hr;cases hr),fun j hj=>?_⟩
  by_cases hji:j=i
  ·subst hji;unfold lOp;simp only[hi,hwn,hci,if_true,Bool.false_eq_true,if_false]
   exact H
  ·obtain⟨v,w',_,h1,_⟩:=g_ H;have:=ready_mono hj hji;rw[h1] at this
   cases this
 | succ fuel ih =>
  intro listed a hfree hwt hr hC hwn H;refine⟨fun h=>(by rw[h] at hr;cases hr),fun j hj=>?_⟩
  by_cases hji:j=i
  ·subst hji;unfold lOp;simp only[hi,hwn,hci,if_true,Bool.false_eq_true,if_false]
   exact H
  ·obtain⟨hjun,oj,hoj,hall⟩:=mem_ready.1 hj;have hcj:=hwt.calm hr hj hji hoj;have hap:=hfree j oj hoj hji hjun (fh (j:=j) hr hall);obtain⟨h1,h2,h3⟩:=Oper.apart_spec hap;have hsi:∀ cs b,oi.op≠ .select cs b:=fun cs b=>hsel i oi cs b hi
   have hsj:∀ cs b,oj.op≠ .select cs b:=fun cs b=>hsel j oj cs b hoj
   have back:∀ v u,aX X P ops C oj u (a.put oi.dst v)->aX X P ops C oj u a:=fun v u hy=>hy.of_same (execOp_put oj hsj a oi.dst v h1).symm (wanted_put oj a oi.dst v h1).symm
   obtain⟨v0,w0,hv0⟩:=g_ H;obtain⟨u,hu,_⟩:=aX.nU hoj hcj (hv0.2.2 j (ready_mono hj hji));have hua:=back v0 u hu;refine hua.op hoj ⟨fun _=>hC,?_⟩
   have hfree':∀ k ok,ops[k]?=some ok->k≠i->(listed.setIfInBounds j true).getD k true=false ->
     (∀ e∈ok.after,Region.binds md e=true->e.on≠i)->oi.apart ops ok=true:=fun k ok hk hki hun hno=>by
    refine hfree k ok hk hki ?_ hno
    by_cases hjk:j=k
    ·subst hjk;exact hjun
    ·rw[getD_set_ne true hjk] at hun;exact hun
   refine ih (listed.setIfInBounds j true) (a.put oj.dst u) hfree' (hwt.set hr hj) (ready_mono hr (Ne.symm hji)) hC (by rw[wanted_put oi a oj.dst u h3];exact hwn) ?_
   unfold Oper.gives at H ⊢;rw[execOp_put oi hsi a oj.dst u h3];refine cf (fun v w' hv=>⟨hv.1,?_⟩) H
   obtain⟨u',hu',hk⟩:=aX.nU hoj hcj (hv.2.2 j (ready_mono hj hji));obtain rfl:=aX.one hC (back v u' hu') hua;rw[Array.setIfInBounds_comm _ _ hji,<-Act.put_comm a v u' h2]
   exact hk.2
def behind (md:Region.Mode) (ops:Array Oper) (listed:Array Bool) (i:Nat):Array Bool :=
 (List.range ops.size).foldl (fun B j=>match ops[j]? with
  | some oj=>B.setIfInBounds j (!listed.getD j true && j != i && oj.after.any (fun e=>Region.binds md e && (e.on == i || B.getD e.on false)))
  | none=>B) (Array.replicate ops.size false)
def uD (X:TypeId->Bool) (md:Region.Mode) (ops:Array Oper) (listed:Array Bool) (i:Nat) (B:Array Bool):Bool :=
 ((List.range B.size).all fun j=> !B.getD j false || (!listed.getD j true && match ops[j]? with
  | some oj=>oj.after.any (fun e=>Region.binds md e && (e.on == i || B.getD e.on false))
  | none=>false)) &&
 ((List.range ops.size).all fun j=>j == i || listed.getD j true || B.getD j false || match ops[j]? with
  | some oj=>bK X oj
  | none=>true)
def oD (X:TypeId->Bool) (md:Region.Mode) (ops:Array Oper) (listed:Array Bool) (i:Nat):Bool :=
 match ops[i]? with
 | none=>true
 | some oi=>bK X oi || uD X md ops listed i (behind md ops listed i)
theorem iU {i:Nat} {listed:Array Bool} (hi:ops[i]?=some oi) (hc:bK X oi=false) (h:oD X md ops listed i=true):waits X md ops listed i:=by
 simp only[oD,hi,hc,Bool.false_or] at h
 generalize behind md ops listed i=B at h
 simp only[uD,Bool.and_eq_true,List.all_eq_true,List.mem_range] at h;refine⟨fun j=>B.getD j false=true,fun j hj=>?_,fun j oj hj hne hun hcj=>?_⟩
 ·have hlt:j<B.size:=by
   rcases Nat.lt_or_ge j B.size with h'|h'
   ·exact h'
   ·simp[Array.getElem?_eq_none h'] at hj
  have h1:=h.1 j hlt;simp only[hj,Bool.not_true,Bool.false_or,Bool.and_eq_true,Bool.not_eq_true'] at h1;refine⟨h1.1,?_⟩
  cases ho:ops[j]? with
  | none=>rw[ho] at h1;cases h1.2
  | some oj =>
   rw[ho] at h1;obtain⟨e,he,hb⟩:=Array.any_eq_true'.1 h1.2;simp only[Bool.and_eq_true,Bool.or_eq_true,beq_iff_eq] at hb
   exact⟨oj,rfl,e,he,hb.1,hb.2⟩
 ·have h1:=h.2 j (Array.getElem?_eq_some_iff.1 hj).1;simp only[hj,Bool.or_eq_true,beq_iff_eq,hne,false_or,hun,Bool.false_eq_true,hcj,or_false] at h1
  exact h1
def dW (X:TypeId->Bool) (md:Region.Mode) (ops:Array Oper):Nat->Nat->Array Bool->Bool
 | 0,_,listed=>(Region.ready md ops listed).isEmpty
 | fuel+1,k,listed=>(Region.ready md ops listed).contains k && Region.free md ops listed k && oD X md ops listed k && dW X md ops fuel (k+1) (listed.setIfInBounds k true)
def rT (X:TypeId->Bool) (md:Region.Mode) (ops:Array Oper):Bool:=Region.noSelect ops && dW X md ops ops.size 0 (Array.replicate ops.size false)
def bx (X:TypeId->Bool) (P:Program) (ops:Array Oper) (C:World->Prop) (nl:Bool) (Q:Act->World->Prop):List Oper->Act->World->Prop
 | [],a,w=>Q a w
 | o::rest,a,w=>if Region.wanted o (yielded ops a.tmps) then (if bK X o then o.quiet P a C (fun a'=>bx X P ops C nl Q rest a' w) else Oper.gives P o a w (fun v w'=>((rest=[]/\nl=true)\/C w')/\bx X P ops C nl Q rest (a.put o.dst v) w')) else bx X P ops C nl Q rest (a.put o.dst undef) w
theorem aI {nl:Bool} (h:Q a w):bx X P ops C nl Q [] a w:=h
theorem aG {nl:Bool} {rest:List Oper} (hw:Region.wanted o (yielded ops a.tmps)=false) (h:bx X P ops C nl Q rest (a.put o.dst undef) w):bx X P ops C nl Q (o::rest) a w:=by
 unfold bx;simp only[hw,Bool.false_eq_true,if_false]
 exact h
theorem aF {nl:Bool} {rest:List Oper} (hw:Region.wanted o (yielded ops a.tmps)=true) (hc:bK X o=true) (h:∀ K:Act->Prop,(∀ a',bx X P ops C nl Q rest a' w->K a')->o.quiet P a C K):bx X P ops C nl Q (o::rest) a w:=by
 unfold bx;simp only[hw,hc,if_true]
 exact h _ fun _ h=>h
theorem bj {nl:Bool} {rest:List Oper} (hw:Region.wanted o (yielded ops a.tmps)=true) (hc:bK X o=false) (h:∀ K:Act->World->Prop,(∀ a' w',C w'->bx X P ops C nl Q rest a' w'->K a' w')->Oper.gives P o a w (fun v w'=>K (a.put o.dst v) w')):bx X P ops C nl Q (o::rest) a w:=by
 unfold bx;simp only[hw,hc,if_true,Bool.false_eq_true,if_false]
 exact h (fun a' w'=>((rest=[]/\nl=true)\/C w')/\bx X P ops C nl Q rest a' w') fun _ _ h1 h2=>⟨.inr h1,h2⟩
theorem aV {rest:List Oper} (hn:rest=[]) (hw:Region.wanted o (yielded ops a.tmps)=true) (hc:bK X o=false) (h:∀ K:Act->World->Prop,(∀ a' w',bx X P ops C true Q rest a' w'->K a' w')->Oper.gives P o a w (fun v w'=>K (a.put o.dst v) w')):bx X P ops C true Q (o::rest) a w:=by
 unfold bx;simp only[hw,hc,if_true,Bool.false_eq_true,if_false]
 exact h (fun a' w'=>((rest=[]/\True)\/C w')/\bx X P ops C true Q rest a' w') fun _ _ h2=>⟨.inl ⟨hn,trivial⟩,h2⟩
theorem af {v:Value} {w':World}:gives P w R (.ok (.value v) w')=R v w':=rfl
theorem ah {w':World}:gives P w R (.ok .skip w')=R undef w':=rfl
theorem ae {f:FuncId} {args:Array Value} {w':World}:gives P w R (.ok (.enter f args) w')=Calls P f args w' (fun e w''=>∃ v,e= .returned v/\R v w''):=rfl
def cW (ops:Array Oper) (nl:Bool):Nat:=if nl then ops.size-1 else ops.size
def kF (md:Region.Mode) (ops:Array Oper):Bool:=(List.range (ops.size-1)).all fun i=>(List.range ops.size).any fun j=>decide (i<j) && match ops[j]? with
 | some oj=>oj.after.any fun e=>Region.binds md e && e.on == i
 | none=>false
theorem h_ {nl:Bool} (h:nl=true->kF md ops=true):ju md ops (cW ops nl):=by
 intro listed hcl hr i hi hne;obtain⟨_,oL,hoL,hall⟩:=mem_ready.1 hr;unfold cW at hoL hne hr
 cases nl
 ·simp only[Bool.false_eq_true,if_false] at hoL;rw[Array.getElem?_eq_none Ql] at hoL
  cases hoL
 ·simp only[if_true] at hoL hne;have h:=h rfl;simp only[kF,List.all_eq_true,List.mem_range] at h;have key:∀ n i,ops.size-1-i=n->i<ops.size-1->listed.getD i false=true:=by
   intro n
   induction n using Nat.strongRecOn with
   | ind n ih =>
    intro i hn hi;have h1:=h i hi;simp only[List.any_eq_true,List.mem_range,Bool.and_eq_true,decide_eq_true_eq] at h1;obtain⟨j,hj,hij,hm⟩:=h1
    cases hoj:ops[j]? with
    | none=>rw[hoj] at hm;cases hm
    | some oj =>
     rw[hoj] at hm;obtain⟨e,he,hb⟩:=Array.any_eq_true'.1 hm;simp only[Bool.and_eq_true,beq_iff_eq] at hb
     by_cases hjl:j=ops.size-1
     ·subst hjl;rw[hoL] at hoj;injection hoj with hoj;subst hoj;have:=hall e he hb.1
      rwa [hb.2] at this
     ·have hlj:=ih (ops.size-1-j) (by omega) j rfl (by omega)
      have:=hcl j oj hoj hlj e he hb.1
      rwa [hb.2] at this
  exact key _ i rfl (by omega)
theorem eR {nl:Bool} (hL:ju md ops (cW ops nl)) (hs:Region.noSelect ops=true):∀ (l:List Oper) (k:Nat) (listed:Array Bool) (a:Act) (w:World),(∀ j,l[j]?=ops[k+j]?)->dW X md ops l.length k listed=true->closed md ops listed->C w->bx X P ops C nl Q l a w->eQ X P md ops C (cW ops nl) Q l.length listed a w
 | [],_,_,_,_,_,hB,_,hC,h=>⟨by simpa [dW] using hB,h⟩
 | o::l,k,listed,a,w,hl,hB,hcl,hC,h=>by
  have h0:ops[k]?=some o:=by simpa using (hl 0).symm
  simp only[List.length_cons,dW,Bool.and_eq_true] at hB;obtain⟨⟨⟨hr,hf⟩,hwt⟩,hB'⟩:=hB;have hl':∀ j,l[j]?=ops[k+1+j]?:=fun j=>by have:=hl (j+1);simpa [Nat.add_assoc,Nat.add_comm 1 j] using this
  have hcl':=hcl.set (j:=k) (by simpa using hr)
  have hks:k<ops.size:=(Array.getElem?_eq_some_iff.1 h0).1;have hlen:l=[]->k=ops.size-1:=fun e=>by
   subst e;have h1:=hl' 0;simp only[List.getElem?_nil,Nat.add_zero] at h1;have:=Array.getElem?_eq_none_iff.1 h1.symm
   omega
  unfold bx at h
  by_cases hw:Region.wanted o (yielded ops a.tmps)=true
  ·simp only[hw,if_true] at h
   cases hc:bK X o
   ·simp only[hc,Bool.false_eq_true,if_false] at h;refine jE hL h0 hc (Region.noSelect_spec hs) l.length listed a (Region.free_spec h0 hf) (iU h0 hc hwt) (by simpa using hr) hC hw ?_
    refine cf (fun v w' ⟨h1,h2⟩=>?_) h
    rcases h1 with⟨e,hn⟩|h1
    ·subst e;refine⟨fun hne=>absurd (by rw[hlen rfl];unfold cW;rw[hn];rfl) hne,by simpa [dW] using hB',h2⟩
    ·exact⟨fun _=>h1,eR hL hs l (k+1) _ _ _ hl' hB' hcl' h1 h2⟩
   ·simp only[hc,if_true] at h;obtain⟨v,hv,hk⟩:=h
    by_cases hkL:k=cW ops nl
    ·have hln:l=[]:=by
      unfold cW at hkL
      cases nl
      ·simp at hkL;omega
      ·simp only[if_true] at hkL;have h1:=hl' 0;rw[Array.getElem?_eq_none (by omega)] at h1
       cases l with
       | nil=>rfl
       | cons _ _=>simp at h1
     subst hln;refine⟨fun h=>(by rw[h] at hr;simp at hr),fun j hj=>?_⟩
     have hjk:j=k:=by rw[hkL];exact jM hL hcl (by rw[<-hkL];simpa using hr) hj
     subst hjk
     exact aX.op h0 (.inl ⟨hw,hc,hv⟩) ⟨fun hne=>absurd hkL hne,by simpa [dW] using hB',hk⟩
    ·exact eK hL hkL h0 (Region.noSelect_spec hs) l.length listed a w (Region.free_spec h0 hf) hcl (by simpa using hr) hC (.inl ⟨hw,hc,hv⟩) (eR hL hs l (k+1) _ _ _ hl' hB' hcl' hC hk)
  ·simp only[hw] at h
   by_cases hkL:k=cW ops nl
   ·have hln:l=[]:=by
     unfold cW at hkL
     cases nl
     ·simp at hkL;omega
     ·simp only[if_true] at hkL;have h1:=hl' 0;rw[Array.getElem?_eq_none (by omega)] at h1
      cases l with
      | nil=>rfl
      | cons _ _=>simp at h1
    subst hln;refine⟨fun h=>(by rw[h] at hr;simp at hr),fun j hj=>?_⟩
    have hjk:j=k:=by rw[hkL];exact jM hL hcl (by rw[<-hkL];simpa using hr) hj
    subst hjk
    exact aX.op h0 (.inr ⟨by simpa using hw,rfl⟩) ⟨fun hne=>absurd hkL hne,by simpa [dW] using hB',h⟩
   ·exact eK hL hkL h0 (Region.noSelect_spec hs) l.length listed a w (Region.free_spec h0 hf) hcl (by simpa using hr) hC (.inr ⟨by simpa using hw,rfl⟩) (eR hL hs l (k+1) _ _ _ hl' hB' hcl' hC h)
theorem dZ (X:TypeId->Bool) (nl:Bool) {id:Nat} {Q:Exit->Act->World->Prop} {a:Act} {w:World} {l:List Oper} (S:World->Prop) (hm:P.follows .mixedOrders=true) (hB:rT X .any l.toArray=true) (hN:nl=true->kF .any l.toArray=true) (hC:S w.drew)
  (h:Nonempty (Wd S)->bx X P l.toArray (fun w'=>∃ x:Wd S,w'=x.w) nl (fun a' w'=>Q .normal a' w') l a w.drew):(Code.region id l.toArray true).wp P Q a w:=by
 simp only[rT,Bool.and_eq_true] at hB;refine wp_region_any hm (jU (X:=X) (C:=fun w'=>∃ x:Wd S,w'=x.w) (Q:=fun a' w'=>Q .normal a' w') (h_ hN) (fun _ _ h=>h) _ _ _ _ (by simpa using closed.none l.length) (.inl ⟨⟨w.drew,hC⟩,rfl⟩) ?_)
 have:=eR (X:=X) (P:=P) (C:=fun w'=>∃ x:Wd S,w'=x.w) (Q:=fun a' w'=>Q .normal a' w') (md:= .any) (h_ hN) hB.1 l 0 (Array.replicate l.length false) a w.drew (by simp) (by simpa using hB.2) (closed.none _) ⟨⟨w.drew,hC⟩,rfl⟩ (h ⟨⟨w.drew,hC⟩⟩)
 simpa using this
def noX (_:TypeId):Bool:=false
theorem eH (nl:Bool) {id:Nat} {Q:Exit->Act->World->Prop} {a:Act} {w:World} {l:List Oper} (S:World->Prop) (hm:P.follows .mixedOrders=true) (hB:rT noX .any l.toArray=true) (hN:nl=true->kF .any l.toArray=true) (hC:S w.drew)
  (h:Nonempty (Wd S)->bx noX P l.toArray (fun w'=>∃ x:Wd S,w'=x.w) nl (fun a' w'=>Q .normal a' w') l a w.drew):(Code.region id l.toArray true).wp P Q a w:=dZ noX nl S hm hB hN hC h
theorem jB {id:Nat} {Q:Exit->Act->World->Prop} {a:Act} {w:World} {l:List Oper} (S:World->Prop) (hm:P.follows .mixedOrders=true) (hB:rT noX .any l.toArray=true) (hC:S w.drew)
  (h:Nonempty (Wd S)->bx noX P l.toArray (fun w'=>∃ x:Wd S,w'=x.w) false (fun a' w'=>Q .normal a' w') l a w.drew):(Code.region id l.toArray true).wp P Q a w:=eH false S hm hB (fun h=>by cases h) hC h
end
end
section
def ptr (g:Nat):Value:= .pointer (some ⟨g,0,none⟩)
structure FA (X:TypeId->Bool) (P:Program) (o:Oper) (d:Nat) (Z:Obj):Prop where
 dst:o.dst=some d
 guard:o.guard=none
 calm:bK X o=false
 run:∀ (a:Act) (w:World),(execOp a.eval o).run P w= .ok (.value (ptr w.heap.size)) (w.alloc Z)
section
variable {X:TypeId->Bool} {P:Program} {ops:Array Oper} {md:Region.Mode} {C:World->Prop} {Q:Act->World->Prop} {w:World} {a:Act} {o oi oj of:Oper} {R R':Value->World->Prop} {d f base L:Nat} {nl:Bool} {Z:Obj}
theorem FA.wanted (h:FA X P of d Z) (y:Nat->Option Bool):Region.wanted of y=true:=by
 unfold Region.wanted;rw[h.guard]
theorem FA.gives (h:FA X P of d Z) {K:Value->World->Prop} (hk:K (ptr w.heap.size) (w.alloc Z)):Oper.gives P of a w K:=by
 unfold Oper.gives;rw[h.run a w]
 exact hk
theorem FA.lOp (h:FA X P of d Z) (hf:ops[f]?=some of) {K:Act->World->Prop} (hk:K (a.put (some d) (ptr w.heap.size)) (w.alloc Z)):lOp X P ops C f K a w:=by
 unfold Proofs.YtjciicheoghcdaaGreatDoor.lOp;simp only[hf,h.wanted,h.calm,if_true,Bool.false_eq_true,if_false];refine h.gives ?_;rw[h.dst]
 exact hk
def jT (X:TypeId->Bool) (md:Region.Mode) (ops:Array Oper) (listed:Array Bool) (i f:Nat):Prop :=
 ∃ B:Nat->Prop,(∀ j,B j->listed.getD j true=false/\∃ oj,ops[j]?=some oj/\∃ e∈oj.after,Region.binds md e=true/\(e.on=i\/B e.on)) /\
  (∀ j oj,ops[j]?=some oj->j≠i->j≠f->listed.getD j true=false->bK X oj=false->B j)
theorem jT.calm {i j:Nat} {listed:Array Bool} (h:jT X md ops listed i f) (hr:i∈Region.ready md ops listed) (hj:j∈Region.ready md ops listed) (hji:j≠i) (hjf:j≠f) (hoj:ops[j]?=some oj):bK X oj=true:=by
 obtain⟨B,h1,h2⟩:=h
 cases hc:bK X oj
 ·exact absurd (h2 j oj hoj hji hjf (mem_ready.1 hj).1 hc) (waits.none h1 hr hj)
 ·rfl
theorem jT.set {i j:Nat} {listed:Array Bool} (h:jT X md ops listed i f) (hr:i∈Region.ready md ops listed) (hj:j∈Region.ready md ops listed):jT X md ops (listed.setIfInBounds j true) i f:=by
 obtain⟨B,h1,h2⟩:=h;have hn:=waits.none h1 hr hj;refine⟨B,fun k hk=>?_,fun k ok hk hki hkf hun hck=>?_⟩
 ·have hjk:j≠k:=fun e=>by subst e;exact hn hk
  rw[getD_set_ne true hjk]
  exact h1 k hk
 ·refine h2 k ok hk hki hkf ?_ hck
  by_cases hjk:j=k
  ·subst hjk;exact(mem_ready.1 hj).1
  ·rw[getD_set_ne true hjk] at hun;exact hun
def DS (md:Region.Mode) (ops:Array Oper) (listed:Array Bool) (i:Nat) (oi:Oper):Prop :=
 ∀ j oj,ops[j]?=some oj->j≠i->listed.getD j true=false->(∀ e∈oj.after,Region.binds md e=true->e.on≠i)->oi.apart ops oj=true
theorem DS.set {i j:Nat} {listed:Array Bool} (h:DS md ops listed i oi) (hj:listed.getD j true=false):DS md ops (listed.setIfInBounds j true) i oi:=fun k ok hk hki hun hno=>by
 refine h k ok hk hki ?_ hno
 by_cases hjk:j=k
 ·subst hjk;exact hj
 ·rw[getD_set_ne true hjk] at hun;exact hun
theorem rk {i:Nat} (hL:ju md ops L) (hfL:f≠L) (hi:ops[i]?=some oi) (hci:bK X oi=false) (hf:ops[f]?=some of) (hof:FA X P of d Z) (hif:f≠i) (hsel:∀ (j:Nat) (o:Oper) cs b,ops[j]?=some o->o.op≠ .select cs b) :
  ∀ (fuel:Nat) (listed:Array Bool) (a:Act),DS md ops listed i oi->DS md ops listed f of->jT X md ops listed i f->i∈Region.ready md ops listed->f∈Region.ready md ops listed->C w->Region.wanted oi (yielded ops a.tmps)=true ->
   Oper.gives P oi a w (fun v w'=>(i≠L->C w')/\eQ X P md ops C L Q fuel (listed.setIfInBounds i true) (a.put oi.dst v) w')->C (w.alloc Z) ->
   eQ X P md ops C L Q fuel (listed.setIfInBounds f true) (a.put (some d) (ptr w.heap.size)) (w.alloc Z)->eQ X P md ops C L Q (fuel+1) listed a w:=by
 have hsi:∀ cs b,oi.op≠ .select cs b:=fun cs b=>hsel i oi cs b hi
 intro fuel
 induction fuel with
 | zero =>
  intro listed a _ _ hwt hr hrf hC hwn H hCA H2;refine⟨fun h=>(by rw[h] at hr;cases hr),fun j hj=>?_⟩
  by_cases hji:j=i
  ·subst hji;unfold lOp;simp only[hi,hwn,hci,if_true,Bool.false_eq_true,if_false]
   exact H
  ·obtain⟨v,w',_,h1,_⟩:=g_ H;have:=ready_mono hj hji;rw[h1] at this
   cases this
 | succ fuel ih =>
  intro listed a hfree hfreeF hwt hr hrf hC hwn H hCA H2;refine⟨fun h=>(by rw[h] at hr;cases hr),fun j hj=>?_⟩
  by_cases hji:j=i
  ·subst hji;unfold lOp;simp only[hi,hwn,hci,if_true,Bool.false_eq_true,if_false]
   exact H
  by_cases hjf:j=f
  ·subst hjf
   exact hof.lOp hf ⟨fun _=>hCA,H2⟩
  ·obtain⟨hjun,oj,hoj,hall⟩:=mem_ready.1 hj;have hcj:=hwt.calm hr hj hji hjf hoj;obtain⟨h1,h2,h3⟩:=Oper.apart_spec (hfree j oj hoj hji hjun (fh (j:=j) hr hall));obtain⟨k1,k2,k3⟩:=Oper.apart_spec (hfreeF j oj hoj hjf hjun (fh (j:=j) hrf hall));rw[hof.dst] at k1 k2;have hsj:∀ cs b,oj.op≠ .select cs b:=fun cs b=>hsel j oj cs b hoj
   have back:∀ v u,aX X P ops C oj u (a.put oi.dst v)->aX X P ops C oj u a:=fun v u hy=>hy.of_same (execOp_put oj hsj a oi.dst v h1).symm (wanted_put oj a oi.dst v h1).symm
   have backF:∀ v u,aX X P ops C oj u (a.put (some d) v)->aX X P ops C oj u a:=fun v u hy=>hy.of_same (execOp_put oj hsj a (some d) v k1).symm (wanted_put oj a (some d) v k1).symm
   obtain⟨v0,w0,hv0⟩:=g_ H;obtain⟨u,hu,_⟩:=aX.nU hoj hcj (hv0.2.2 j (ready_mono hj hji));have hua:=back v0 u hu;refine hua.op hoj ⟨fun _=>hC,?_⟩
   refine ih (listed.setIfInBounds j true) (a.put oj.dst u) (hfree.set hjun) (hfreeF.set hjun) (hwt.set hr hj) (ready_mono hr (Ne.symm hji)) (ready_mono hrf (Ne.symm hjf)) hC (by rw[wanted_put oi a oj.dst u h3];exact hwn) ?_ hCA ?_
   ·unfold Oper.gives at H ⊢;rw[execOp_put oi hsi a oj.dst u h3];refine cf (fun v w' hv=>⟨hv.1,?_⟩) H
    obtain⟨u',hu',hk⟩:=aX.nU hoj hcj (hv.2.2 j (ready_mono hj hji));obtain rfl:=aX.one hC (back v u' hu') hua;rw[Array.setIfInBounds_comm _ _ hji,<-Act.put_comm a v u' h2]
    exact hk.2
   ·obtain⟨u',hu',hk⟩:=aX.nU hoj hcj (H2.2 j (ready_mono hj hjf));obtain rfl:=aX.one hC (backF _ u' hu') hua;rw[Array.setIfInBounds_comm _ _ hjf,<-Act.put_comm a (ptr w.heap.size) u' k2]
    exact hk.2
def gq (X:TypeId->Bool) (P:Program) (ops:Array Oper) (C:World->Prop) (nl:Bool) (Q:Act->World->Prop) (f:Nat):Nat->List Oper->Act->World->Prop
 | _,[],_,_=>False
 | k,o::rest,a,w=>if k=f then bx X P ops C nl Q rest a w else
   if Region.wanted o (yielded ops a.tmps) then (if bK X o then o.quiet P a C (fun a'=>gq X P ops C nl Q f (k+1) rest a' w) else Oper.gives P o a w (fun v w'=>C w'/\gq X P ops C nl Q f (k+1) rest (a.put o.dst v) w')) else gq X P ops C nl Q f (k+1) rest (a.put o.dst undef) w
structure KB (base:Nat) (Z:Obj) (a b:World):Prop where
 size:a.heap.size<=b.heap.size
 block:∀ i,base<=i->i<a.heap.size->a.heap[i]?=some Z->b.heap[i]?=some Z
def a_ (X:TypeId->Bool) (P:Program) (ops:Array Oper) (C:World->Prop) (nl:Bool) (Q:Act->World->Prop) (f d:Nat) (Z:Obj) (base:Nat):Nat->List Oper->Act->World->Prop
 | _,[],_,_=>False
 | k,o::rest,a,w=>if k=f then ∀ w' g,Below w.heap.size w w'->base<=g->w'.heap[g]?=some Z->C w'->bx X P ops C nl Q rest (a.put (some d) (ptr g)) w' else
   if Region.wanted o (yielded ops a.tmps) then (if bK X o then o.quiet P a C (fun a'=>a_ X P ops C nl Q f d Z base (k+1) rest a' w) else
    ∀ w',(w'=w\/w'=w.alloc Z)->Oper.gives P o a w' (fun v w''=>C w''/\KB base Z w' w''/\a_ X P ops C nl Q f d Z base (k+1) rest (a.put o.dst v) w'')) else a_ X P ops C nl Q f d Z base (k+1) rest (a.put o.dst undef) w
def AR (ops:Array Oper) (d:Nat) (o:Oper):Bool:= !(o.looksAt ops).contains d && o.dst != some d && match o.op with | .select .. => false|_=>true
def ia (ops:Array Oper) (d f:Nat):Nat->List Oper->Bool
 | _,[]=>true
 | k,o::rest=>k == f || (AR ops d o && ia ops d f (k+1) rest)
theorem pB (h:AR ops d o=true):(∀ e,some d=some e->e∉o.looksAt ops)/\(∀ e,some d=some e->o.dst≠some e)/\(∀ cs b,o.op≠ .select cs b):=by
 simp only[AR,Bool.and_eq_true,Bool.not_eq_true',bne_iff_ne,ne_eq] at h;refine⟨fun e he=>?_,fun e he=>?_,fun cs b he=>?_⟩
 ·injection he with he;subst he;simpa using h.1.1
 ·injection he with he;subst he;exact h.1.2
 ·rw[he] at h;simp at h
theorem iZ {g:Nat}:∀ (l:List Oper) (k:Nat) (a:Act) (w:World),ia ops d f k l=true->base<=g->C w->w.heap[g]?=some Z->a_ X P ops C nl Q f d Z base k l a w->gq X P ops C nl Q f k l (a.put (some d) (ptr g)) w
 | [],_,_,_,_,_,_,_,h=>h
 | o::rest,k,a,w,hoff,hb,hC,hg,h=>by
  unfold a_ at h;unfold gq
  by_cases hk:k=f
  ·simp only[hk,if_true] at h ⊢
   exact h w g Qb hb hg hC
  ·simp only[hk,if_false] at h ⊢;have hk':(k == f)=false:=by simp[hk]
   simp only[ia,hk',Bool.false_or,Bool.and_eq_true] at hoff;obtain⟨h1,h2,h3⟩:=pB hoff.1;rw[wanted_put o a (some d) _ h1]
   split
   ·rename_i hw
    simp only[hw,if_true] at h
    split
    ·rename_i hc
     simp only[hc,if_true] at h;obtain⟨v,hv,hn⟩:=h;refine⟨v,fun w' hw'=>?_,by rw[Act.put_comm a (ptr g) v h2];exact iZ rest (k+1) _ w hoff.2 hb hC hg hn⟩
     have:=hv w' hw';unfold Oper.quietAt at *
     rwa [execOp_put o h3 a (some d) (ptr g) h1]
    ·rename_i hc
     simp only[hc] at h;have h:=h w (.inl rfl);unfold Oper.gives at h ⊢;rw[execOp_put o h3 a (some d) (ptr g) h1];refine cf (fun v w' ⟨c1,c2,c3⟩=>⟨c1,?_⟩) h
     rw[Act.put_comm a (ptr g) v h2];have hgl:g<w.heap.size:=(Array.getElem?_eq_some_iff.1 hg).1
     exact iZ rest (k+1) _ w' hoff.2 hb c1 (c2.block g hb hgl hg) c3
   ·rename_i hw
    simp only[hw] at h;rw[Act.put_comm a (ptr g) undef h2]
    exact iZ rest (k+1) _ w hoff.2 hb hC hg h
theorem nN (hA:∀ w,C w->C (w.alloc Z)):∀ (l:List Oper) (k:Nat) (a:Act) (w:World),ia ops d f k l=true->base<=w.heap.size->C w->a_ X P ops C nl Q f d Z base k l a w->gq X P ops C nl Q f k l (a.put (some d) (ptr w.heap.size)) (w.alloc Z)
 | [],_,_,_,_,_,_,h=>h
 | o::rest,k,a,w,hoff,hb,hC,h=>by
  have hnew:(w.alloc Z).heap[w.heap.size]?=some Z:=heap_alloc_new w Z;unfold a_ at h;unfold gq
  by_cases hk:k=f
  ·simp only[hk,if_true] at h ⊢
   exact h _ _ (Qb.alloc Ql _) hb hnew (hA w hC)
  ·simp only[hk,if_false] at h ⊢;have hk':(k == f)=false:=by simp[hk]
   simp only[ia,hk',Bool.false_or,Bool.and_eq_true] at hoff;obtain⟨h1,h2,h3⟩:=pB hoff.1;rw[wanted_put o a (some d) _ h1]
   split
   ·rename_i hw
    simp only[hw,if_true] at h
    split
    ·rename_i hc
     simp only[hc,if_true] at h;obtain⟨v,hv,hn⟩:=h;refine⟨v,fun w' hw'=>?_,by rw[Act.put_comm a _ v h2];exact nN hA rest (k+1) _ w hoff.2 hb hC hn⟩
     have:=hv w' hw';unfold Oper.quietAt at *
     rwa [execOp_put o h3 a (some d) _ h1]
    ·rename_i hc
     simp only[hc] at h;have h:=h _ (.inr rfl);unfold Oper.gives at h ⊢;rw[execOp_put o h3 a (some d) _ h1];refine cf (fun v w' ⟨c1,c2,c3⟩=>⟨c1,?_⟩) h
     rw[Act.put_comm a _ v h2]
     exact iZ rest (k+1) _ w' hoff.2 hb c1 (c2.block _ hb (by simp) hnew) c3
   ·rename_i hw
    simp only[hw] at h;rw[Act.put_comm a _ undef h2]
    exact nN hA rest (k+1) _ w hoff.2 hb hC h
def dV (X:TypeId->Bool) (md:Region.Mode) (ops:Array Oper) (f:Nat):Nat->Nat->Array Bool->Bool
 | 0,_,_=>false
 | fuel+1,k,listed=>if k=f then listed.getD f false && dW X md ops fuel (k+1) listed else
   (Region.ready md ops listed).contains k && Region.free md ops listed k && oD X md ops listed k && dV X md ops f fuel (k+1) (listed.setIfInBounds k true)
theorem mn (hL:ju md ops (cW ops nl)) (hs:Region.noSelect ops=true):∀ (l:List Oper) (k:Nat) (listed:Array Bool) (a:Act) (w:World),(∀ j,l[j]?=ops[k+j]?)->dV X md ops f l.length k listed=true->closed md ops listed->C w->gq X P ops C nl Q f k l a w->eQ X P md ops C (cW ops nl) Q (l.length-1) listed a w
 | [],_,_,_,_,_,hB,_,_,_=>by simp[dV] at hB
 | o::l,k,listed,a,w,hl,hB,hcl,hC,h=>by
  have h0:ops[k]?=some o:=by simpa using (hl 0).symm
  have hl':∀ j,l[j]?=ops[k+1+j]?:=fun j=>by have:=hl (j+1);simpa [Nat.add_assoc,Nat.add_comm 1 j] using this
  simp only[List.length_cons,Nat.add_sub_cancel];unfold gq at h
  by_cases hk:k=f
  ·simp only[hk,if_true] at h;simp only[List.length_cons,dV,hk,if_true,Bool.and_eq_true] at hB
   exact eR hL hs l (k+1) listed a w hl' (by rw[hk];exact hB.2) hcl hC h
  ·simp only[hk,if_false] at h;simp only[List.length_cons,dV,hk,if_false,Bool.and_eq_true] at hB;obtain⟨⟨⟨hr,hf⟩,hwt⟩,hB'⟩:=hB;have hpos:l≠[]:=fun e=>by subst e;simp[dV] at hB'
   obtain⟨n,hn⟩:∃ n,l.length=n+1:=⟨l.length-1,by cases l with
    | nil=>exact absurd rfl hpos
    | cons _ _=>simp⟩
   have ih:∀ a w,C w->gq X P ops C nl Q f (k+1) l a w->eQ X P md ops C (cW ops nl) Q n (listed.setIfInBounds k true) a w:=fun a w hC h=>by
    have:=mn hL hs l (k+1) _ a w hl' hB' (hcl.set (by simpa using hr)) hC h
    rwa [hn] at this
   have hkL:k≠cW ops nl:=by
    have hks:k+1<ops.size:=by
     have:=hl' 0
     cases l with
     | nil=>exact absurd rfl hpos
     | cons x _=>exact(Array.getElem?_eq_some_iff.1 (this.symm.trans (List.getElem?_cons_zero ..))).1
    unfold cW
    cases nl <;> simp <;> omega
   rw[hn]
   by_cases hw:Region.wanted o (yielded ops a.tmps)=true
   ·simp only[hw,if_true] at h
    cases hc:bK X o
    ·simp only[hc,Bool.false_eq_true,if_false] at h;refine jE hL h0 hc (Region.noSelect_spec hs) n listed a (Region.free_spec h0 hf) (iU h0 hc hwt) (by simpa using hr) hC hw ?_
     exact cf (fun v w' ⟨h1,h2⟩=>⟨fun _=>h1,ih _ _ h1 h2⟩) h
    ·simp only[hc,if_true] at h;obtain⟨v,hv,hk⟩:=h
     exact eK hL hkL h0 (Region.noSelect_spec hs) n listed a w (Region.free_spec h0 hf) hcl (by simpa using hr) hC (.inl ⟨hw,hc,hv⟩) (ih _ _ hC hk)
   ·simp only[hw] at h
    exact eK hL hkL h0 (Region.noSelect_spec hs) n listed a w (Region.free_spec h0 hf) hcl (by simpa using hr) hC (.inr ⟨by simpa using hw,rfl⟩) (ih _ _ hC h)
def oE (X:TypeId->Bool) (md:Region.Mode) (ops:Array Oper) (listed:Array Bool) (i f:Nat) (B:Array Bool):Bool :=
 ((List.range B.size).all fun j=> !B.getD j false || (!listed.getD j true && match ops[j]? with
  | some oj=>oj.after.any (fun e=>Region.binds md e && (e.on == i || B.getD e.on false))
  | none=>false)) &&
 ((List.range ops.size).all fun j=>j == i || j == f || listed.getD j true || B.getD j false || match ops[j]? with
  | some oj=>bK X oj
  | none=>true)
theorem pc {i:Nat} {listed:Array Bool} {B:Array Bool} (h:oE X md ops listed i f B=true):jT X md ops listed i f:=by
 simp only[oE,Bool.and_eq_true,List.all_eq_true,List.mem_range] at h;refine⟨fun j=>B.getD j false=true,fun j hj=>?_,fun j oj hj hne hnf hun hcj=>?_⟩
 ·have hlt:j<B.size:=by
   rcases Nat.lt_or_ge j B.size with h'|h'
   ·exact h'
   ·simp[Array.getElem?_eq_none h'] at hj
  have h1:=h.1 j hlt;simp only[hj,Bool.not_true,Bool.false_or,Bool.and_eq_true,Bool.not_eq_true'] at h1;refine⟨h1.1,?_⟩
  cases ho:ops[j]? with
  | none=>rw[ho] at h1;cases h1.2
  | some oj =>
   rw[ho] at h1;obtain⟨e,he,hb⟩:=Array.any_eq_true'.1 h1.2;simp only[Bool.and_eq_true,Bool.or_eq_true,beq_iff_eq] at hb
   exact⟨oj,rfl,e,he,hb.1,hb.2⟩
 ·have h1:=h.2 j (Array.getElem?_eq_some_iff.1 hj).1;simp only[hj,Bool.or_eq_true,beq_iff_eq,hne,hnf,false_or,hun,Bool.false_eq_true,hcj,or_false] at h1
  exact h1
def fq (X:TypeId->Bool) (md:Region.Mode) (ops:Array Oper) (f:Nat):Nat->Nat->Array Bool->Bool
 | 0,_,_=>false
 | fuel+1,k,listed=>(Region.ready md ops listed).contains k && Region.free md ops listed k && if k=f then oD X md ops listed k && dW X md ops fuel (k+1) (listed.setIfInBounds k true) else
   (Region.ready md ops listed).contains f && Region.free md ops listed f && (match ops[k]? with|some o=>bK X o || oE X md ops listed k f (behind md ops listed k)|none=>false) && fq X md ops f fuel (k+1) (listed.setIfInBounds k true)
theorem fZ (hL:ju md ops (cW ops nl)) (hs:Region.noSelect ops=true) (hof:ops[f]?=some of) (hfa:FA X P of d Z) (hA:∀ w,C w->C (w.alloc Z)) (hfL:f≠cW ops nl):∀ (l:List Oper) (k:Nat) (listed:Array Bool) (a:Act) (w:World),(∀ j,l[j]?=ops[k+j]?)->ia ops d f k l=true->fq X md ops f l.length k listed=true ->
  dV X md ops f l.length k (listed.setIfInBounds f true)=true->base<=w.heap.size->closed md ops listed->C w->a_ X P ops C nl Q f d Z base k l a w->eQ X P md ops C (cW ops nl) Q l.length listed a w
 | [],_,_,_,_,_,_,hB,_,_,_,_,_=>by simp[fq] at hB
 | o::l,k,listed,a,w,hl,hoff,hB,hD,hb,hcl,hC,h=>by
  have h0:ops[k]?=some o:=by simpa using (hl 0).symm
  have hl':∀ j,l[j]?=ops[k+1+j]?:=fun j=>by have:=hl (j+1);simpa [Nat.add_assoc,Nat.add_comm 1 j] using this
  have h':=h;unfold a_ at h;simp only[List.length_cons]
  by_cases hk:k=f
  ·subst hk;rw[h0] at hof;injection hof with hof;subst hof;simp only[if_true] at h;simp only[List.length_cons,fq,if_true,Bool.and_eq_true] at hB;obtain⟨⟨hr,hf⟩,hwt,hB'⟩:=hB;refine jE hL h0 hfa.calm (Region.noSelect_spec hs) l.length listed a (Region.free_spec h0 hf) (iU h0 hfa.calm hwt) (by simpa using hr) hC (hfa.wanted _) (hfa.gives ⟨fun _=>hA w hC,?_⟩)
   rw[hfa.dst]
   exact eR hL hs l (k+1) _ _ _ hl' hB' (hcl.set (by simpa using hr)) (hA w hC) (h _ _ (Qb.alloc Ql _) hb (heap_alloc_new w Z) (hA w hC))
  ·simp only[hk,if_false] at h;have hk':(k == f)=false:=by simp[hk]
   simp only[List.length_cons,fq,hk,if_false,Bool.and_eq_true] at hB;obtain⟨⟨hr,hf⟩,⟨⟨⟨hrf,hff⟩,hwt⟩,hB'⟩⟩:=hB;have hcl':=hcl.set (j:=k) (by simpa using hr)
   have hpos:l≠[]:=fun e=>by subst e;simp[fq] at hB'
   have hkL:k≠cW ops nl:=by
    have hks:k+1<ops.size:=by
     have:=hl' 0
     cases l with
     | nil=>exact absurd rfl hpos
     | cons x _=>exact(Array.getElem?_eq_some_iff.1 (this.symm.trans (List.getElem?_cons_zero ..))).1
    unfold cW
    cases nl <;> simp <;> omega
   have hD':dV X md ops f l.length (k+1) ((listed.setIfInBounds k true).setIfInBounds f true)=true:=by
    simp only[List.length_cons,dV,hk,if_false,Bool.and_eq_true] at hD;rw[Array.setIfInBounds_comm _ _ hk]
    exact hD.2
   have hoff':ia ops d f (k+1) l=true:=by
    simp only[ia,hk',Bool.false_or,Bool.and_eq_true] at hoff
    exact hoff.2
   by_cases hw:Region.wanted o (yielded ops a.tmps)=true
   ·simp only[hw,if_true] at h
    cases hc:bK X o
    ·simp only[hc,Bool.false_eq_true,if_false] at h;rw[h0] at hwt;simp only[hc,Bool.false_or] at hwt;refine rk hL hfL h0 hc hof hfa (Ne.symm hk) (Region.noSelect_spec hs) l.length listed a (Region.free_spec h0 hf) (Region.free_spec hof hff) (pc hwt) (by simpa using hr) (by simpa using hrf) hC hw ?_ (hA w hC) ?_
     ·exact cf (fun v w' ⟨h1,h2,h3⟩=>⟨fun _=>h1,fZ hL hs hof hfa hA hfL l (k+1) _ _ _ hl' hoff' hB' hD' (Nat.le_trans hb h2.size) hcl' h1 h3⟩) (h w (.inl rfl))
     ·have:=mn hL hs (o::l) k (listed.setIfInBounds f true) _ _ hl hD (hcl.set (by simpa using hrf)) (hA w hC) (nN hA (o::l) k a w hoff hb hC h')
      simpa using this
    ·simp only[hc,if_true] at h;obtain⟨v,hv,hk⟩:=h
     exact eK hL hkL h0 (Region.noSelect_spec hs) l.length listed a w (Region.free_spec h0 hf) hcl (by simpa using hr) hC (.inl ⟨hw,hc,hv⟩) (fZ hL hs hof hfa hA hfL l (k+1) _ _ _ hl' hoff' hB' hD' hb hcl' hC hk)
   ·simp only[hw] at h
    exact eK hL hkL h0 (Region.noSelect_spec hs) l.length listed a w (Region.free_spec h0 hf) hcl (by simpa using hr) hC (.inr ⟨by simpa using hw,rfl⟩) (fZ hL hs hof hfa hA hfL l (k+1) _ _ _ hl' hoff' hB' hD' hb hcl' hC h)
def xY (X:TypeId->Bool) (md:Region.Mode) (ops:Array Oper) (f d:Nat):Bool:=Region.noSelect ops && ia ops d f 0 ops.toList && fq X md ops f ops.size 0 (Array.replicate ops.size false) && dV X md ops f ops.size 0 ((Array.replicate ops.size false).setIfInBounds f true)
theorem gK (X:TypeId->Bool) (nl:Bool) {id:Nat} {Q:Exit->Act->World->Prop} {a:Act} {w:World} {l:List Oper} (S:World->Prop) (f d:Nat) (of:Oper) (Z:Obj) (hm:P.follows .mixedOrders=true) (hB:xY X .any l.toArray f d=true) (hN:nl=true->kF .any l.toArray=true) (hfL:(f == cW l.toArray nl)=false) (hof:l[f]?=some of) (hfa:FA X P of d Z) (hC:S w.drew) (hA:∀ w o,S w->S (w.alloc o))
  (h:Nonempty (Wd S)->a_ X P l.toArray (fun w'=>∃ x:Wd S,w'=x.w) nl (fun a' w'=>Q .normal a' w') f d Z w.heap.size 0 l a w.drew):(Code.region id l.toArray true).wp P Q a w:=by
 simp only[xY,Bool.and_eq_true] at hB;obtain⟨⟨⟨h1,h2⟩,h3⟩,h4⟩:=hB;refine wp_region_any hm (jU (X:=X) (C:=fun w'=>∃ x:Wd S,w'=x.w) (Q:=fun a' w'=>Q .normal a' w') (h_ hN) (fun _ _ h=>h) _ _ _ _ (by simpa using closed.none l.length) (.inl ⟨⟨w.drew,hC⟩,rfl⟩) ?_)
 have:=fZ (X:=X) (P:=P) (C:=fun w'=>∃ x:Wd S,w'=x.w) (Q:=fun a' w'=>Q .normal a' w') (md:= .any) (base:=w.heap.size) (h_ hN) h1 (by simpa using hof) hfa (fun w' ⟨x,hx⟩=>⟨⟨w'.alloc Z,hA _ _ (hx ▸ x.h)⟩,rfl⟩) (by simpa using hfL) l 0 (Array.replicate l.length false) a w.drew (by simp) (by simpa using h2) (by simpa using h3) (by simpa using h4) Ql (closed.none _) ⟨⟨w.drew,hC⟩,rfl⟩ (h ⟨⟨w.drew,hC⟩⟩)
 simpa using this
theorem sL {k:Nat} {rest:List Oper} (hk:k≠f) (hw:Region.wanted o (yielded ops a.tmps)=false) (h:a_ X P ops C nl Q f d Z base (k+1) rest (a.put o.dst undef) w):a_ X P ops C nl Q f d Z base k (o::rest) a w:=by
 unfold a_;simp only[hk,if_false,hw,Bool.false_eq_true]
 exact h
theorem sJ {k:Nat} {rest:List Oper} (hk:k≠f) (hw:Region.wanted o (yielded ops a.tmps)=true) (hc:bK X o=true) (h:∀ K:Act->Prop,(∀ a',a_ X P ops C nl Q f d Z base (k+1) rest a' w->K a')->o.quiet P a C K):a_ X P ops C nl Q f d Z base k (o::rest) a w:=by
 unfold a_;simp only[hk,if_false,hw,hc,if_true]
 exact h _ fun _ h=>h
theorem sK {k:Nat} {rest:List Oper} (hk:k≠f) (hw:Region.wanted o (yielded ops a.tmps)=true) (hc:bK X o=false)
  (h:∀ w',Below w.heap.size w w'->∀ K:Act->World->Prop,(∀ a' w'',C w''->Below w'.heap.size w' w''->a_ X P ops C nl Q f d Z base (k+1) rest a' w''->K a' w'')->Oper.gives P o a w' (fun v w''=>K (a.put o.dst v) w'')):a_ X P ops C nl Q f d Z base k (o::rest) a w:=by
 unfold a_;simp only[hk,if_false,hw,hc,if_true,Bool.false_eq_true];intro w' hw';refine h w' ?_ (fun a' w''=>C w''/\KB base Z w' w''/\a_ X P ops C nl Q f d Z base (k+1) rest a' w'') fun _ _ h1 h2 h3=>⟨h1,⟨h2.size,fun i _ hi e=>(h2.block i hi).trans e⟩,h3⟩
 rcases hw' with rfl|rfl
 ·exact Below.refl _ _
 ·exact Qb.alloc Ql _
theorem qU {k:Nat} {rest:List Oper} (hk:k≠f) (hw:Region.wanted o (yielded ops a.tmps)=true) (hc:bK X o=false)
  (h:∀ w',Below w.heap.size w w'->∀ K:Act->World->Prop,(∀ a' w'',C w''->KB base Z w' w''->a_ X P ops C nl Q f d Z base (k+1) rest a' w''->K a' w'')->Oper.gives P o a w' (fun v w''=>K (a.put o.dst v) w'')):a_ X P ops C nl Q f d Z base k (o::rest) a w:=by
 unfold a_;simp only[hk,if_false,hw,hc,if_true,Bool.false_eq_true];intro w' hw';refine h w' ?_ (fun a' w''=>C w''/\KB base Z w' w''/\a_ X P ops C nl Q f d Z base (k+1) rest a' w'') fun _ _ h1 h2 h3=>⟨h1,h2,h3⟩
 rcases hw' with rfl|rfl
 ·exact Below.refl _ _
 ·exact Qb.alloc Ql _
theorem kZ {k:Nat} {rest:List Oper} (hk:k=f) (h:∀ w' g,Below w.heap.size w w'->base<=g->w'.heap[g]?=some Z->C w'->∀ K:Act->Prop,(∀ a',bx X P ops C nl Q rest a' w'->K a')->K (a.put (some d) (.pointer (some ⟨g,0,none⟩)))):a_ X P ops C nl Q f d Z base k (o::rest) a w:=by
 unfold a_;simp only[hk,if_true]
 exact fun w' g h1 h2 h3 h4=>h w' g h1 h2 h3 h4 _ fun _ h=>h
end
end
end Go.Proofs.YtjciicheoghcdaaGreatDoor

/- Part of the proof: the law FnServiceRun is true for every input. -/
import Derived.Test.YtjciicheoghcdaaGreatDoorVB
import Derived.Test.YtjciicheoghcdaaGreatDoorVd
import Derived.Test.YtjciicheoghcdaaGreatDoorVq
import Derived.Test.YtjciicheoghcdaaGreatDoorVr
import Derived.Test.YtjciicheoghcdaaGreatDoorVu
import Derived.Test.YtjciicheoghcdaaGreatDoorVv
import Derived.Test.YtjciicheoghcdaaGreatDoorVw
import Derived.Test.YtjciicheoghcdaaGreatDoorVy
import Derived.Test.YtjciicheoghcdaaGreatDoorVz
namespace Go.Proofs.YtjciicheoghcdaaGreatDoor
open Go.RowKit Go.Proofs.Tryz
set_option linter.all false
set_option maxRecDepth 20000
set_option maxHeartbeats 16000000
theorem Gg (w:World):∀ xs:List (List UInt8),dJ txE w (xs.map fun x=>[Value.string (bs x)]) xs []
 | []=>rfl
 | x::xs=>⟨[],[],rfl,⟨rfl,rfl⟩,Gg w xs⟩
theorem FY {w:World}:∀ {css:List (List Value)} {xs:List (List UInt8)} {F:List Nat},dJ txE w css xs F->css=xs.map fun x=>[Value.string (bs x)]
 | [],[],_,_=>rfl
 | _::_,_::_,_,⟨_,_,_,h,h2⟩=>by rw[h.1,FY h2];rfl
theorem Gk (xs:List (List UInt8)):(xs.map fun x=>[Value.string (bs x)]).flatten=xs.map fun x=>Value.string (bs x):=by
 induction xs with
 | nil=>rfl
 | cons x xs ih=>simp[ih]
theorem RI.ofStr {w:World} {b off n c:Nat} {xs:List (List UInt8)} (hl:xs.length=n) (hc:n<=c/\c<=maxLen) (hb:b<w.heap.size) (hr:∀ i x,xs[i]?=some x->w.cell? ⟨b,off+i,none⟩=some (.string (bs x))):RI txE w (some ⟨b,off,none⟩) n c xs [b]:=by
 refine⟨hl,hc.1,hc.2,.inr ⟨b,off,xs.map fun x=>[Value.string (bs x)],[],rfl,hb,rfl,Gg w xs,fun i cs hi j hj=>?_⟩⟩
 obtain rfl:j=0:=by have:txE.s=1:=rfl;omega
 rw[List.getElem?_map] at hi
 cases e:xs[i]? with
 | none=>rw[e] at hi;cases hi
 | some x =>
  rw[e] at hi;injection hi with hi;rw[<-hi,show off+(i*txE.s+0)=off+i from by show off+(i*1+0)=_;omega,hr i x e]
  rfl
theorem RI.Gq {w:World} {b off n c:Nat} {xs:List (List UInt8)} {F:List Nat} (h:RI txE w (some ⟨b,off,none⟩) n c xs F) {j:Nat} {x:List UInt8} (hx:xs[j]?=some x):w.cell? ⟨b,off+j,none⟩=some (.string (bs x))/\b<w.heap.size:=by
 obtain⟨b',off',e,hb,hc⟩:=h.str hx;injection e with e;injection e with e1 e2;subst e1 e2
 exact⟨hc,hb⟩
theorem RI.Gv {w:World} {g n c:Nat} {xs:List (List UInt8)} {F:List Nat} (h:RI txE w (some ⟨g,0,none⟩) n c xs F) {m:Nat} (hm:m<=n):∃ F',RI txE w (if c=m then some ⟨g,0,none⟩ else some ⟨g,m,none⟩) (n-m) (c-m) (xs.drop m) F':=by
 by_cases h0:n-m=0
 ·have e:xs.drop m=[]:=List.drop_eq_nil_of_le (by rw[h.1];omega)
  rw[h0,e]
  exact⟨[],RI.nil w _ (Nat.le_trans (Nat.sub_le _ _) h.2.2.1)⟩
 ·rw[if_neg (by have:=h.2.1;omega)]
  obtain⟨x0,hx0,_⟩:=aH (xs:=xs) (j:=0) (by rw[h.1];omega)
  obtain⟨b,off,e,hb,_⟩:=h.str hx0;injection e with e;injection e with e1 e2;subst e1;refine⟨[g],RI.ofStr (by rw[List.length_drop,h.1]) ⟨by have:=h.2.1;omega,Nat.le_trans (Nat.sub_le _ _) h.2.2.1⟩ hb fun i x hi=>?_⟩
  rw[List.getElem?_drop] at hi;obtain⟨b',off',e',_,hc⟩:=h.str hi;injection e' with e';injection e' with e1 e2;subst e1 e2;rw[Nat.zero_add] at hc
  exact hc
theorem RI.Gy {w:World} {A:Option Addr} {n c:Nat} {xs:List (List UInt8)} {F:List Nat} (h:RI txE w A n c xs F) {m:Nat} (hm:m<=n):∃ F',RI txE w A m c (xs.take m) F':=by
 obtain⟨F',h1,_⟩:=h.take hm
 exact⟨F',h1⟩
theorem F7 {w:World} {b n k m c:Nat} {A D:Option Addr} {css:List (List Value)} {xs ys:List (List UInt8)} {G:List Nat} {o:Oper} {a:Act} {ops:Array Oper} {rest:List Oper} {Q:Exit->Act->World->Prop} (hgd:o.guard=none) (s y:Operand) (ho:o.op= .call { callee:= .builtin .append,args:=#[s,y],argTypes:=#[48,48] }) (hs:a.eval s= .slice A n k) (hy:a.eval y= .slice D m c)
  (hO:OX txE w b 9 A n k css xs []) (hD:RI txE w D m c ys G) (hm:0<m) (hn:n+m<=1000000) (hb:b<=w.heap.size)
  (h:∀ g cap w',OX txE w' b 9 (some ⟨g,0,none⟩) (n+m) cap ((xs++ys).map fun x=>[Value.string (bs x)]) (xs++ys) []->bJ A w w'->(blk A=some g\/w.heap.size<=g)->wpList prog ops Q rest (a.put o.dst (.slice (some ⟨g,0,none⟩) (n+m) cap)) w'):wpList prog ops Q (o::rest) a w :=
 wpList_plain hgd fun _ hK=>by
  obtain⟨i,z,bytes,k1,k2,k3,k4,k5,k6,k7,k8⟩:=yJ;obtain⟨y0,hy0,_⟩:=aH (xs:=ys) (j:=0) (by rw[hD.1];exact hm)
  obtain⟨d,off,rfl,hd,_⟩:=hD.str hy0;obtain⟨g,cap,w',hr,r1,r2,r3,_⟩:=run_append_lies (P:=prog) w 48 o.type b 9 i z 1 bytes k1 k2 k3 k4 k5 k6 k7 (.slice A n k) n _ hO.1 ⟨d,off,none⟩ m c (ys.map fun x=>Value.string (bs x)) (by rw[List.length_map,hD.1];omega) (fun j u hu=>by
    rw[List.getElem?_map] at hu
    cases e:ys[j]? with
    | none=>rw[e] at hu;cases hu
    | some x =>
     rw[e] at hu;injection hu with hu;obtain⟨d',off',e',_,hc⟩:=hD.str e;injection e' with e';injection e' with e1 e2;subst e1 e2;rw[mX,hc,<-hu]) (by simp[Value.oneCell'])
   hm (by unfold maxLen;omega) (Nat.le_trans (Nat.mul_le_mul (show n+m<=1000000 by omega) k8) (by omega)) hb w.heap.size rfl
  unfold Oper.wp execOp;simp only[ho,resolve,invoke,builtin,Sem.run_bind,Sem.run_pure,Result.andThen_ok,List.map_toArray,List.map_cons,List.map_nil,hs,hy,hr];rw[aO] at r2 r3;have he:=FY hO.2.2.1;refine hK _ _ (h g cap w' ⟨?_,by rw[List.length_append,hO.2.1,hD.1],Gg w' _,Fr.nil _ _,fun g hg hF=>by cases hF⟩ r2 (r3.imp id fun e=>by omega))
  rw[he,Gk] at r1;rw[Gk,List.map_append]
  exact r1
theorem Gi {P:Program} {w:World} (t ty e:TypeId) (i:TypeInfo) (ht:P.underlying t=some (.slice e)) (hi:P.info? e=some i) {g n cap c:Nat} {D:Option Addr} (hnc:n<=cap):(Builtin.append_ #[t,t] ty #[.slice (some ⟨g,0,none⟩) n cap,.slice D 0 c]).run P w= .ok (.slice (some ⟨g,0,none⟩) n cap) w:=by
 cases D <;> simp[Builtin.append_,run_underlying ht,sizeOf,typeInfo,hi,Builtin.lenOf,Builtin.firstCells,loadCells,loadCellsFrom,hnc,storeCells]
theorem FH {w:World} {b n k m c g0:Nat} {D:Option Addr} {css:List (List Value)} {xs ys:List (List UInt8)} {G:List Nat} {o:Oper} {a:Act} {ops:Array Oper} {rest:List Oper} {Q:Exit->Act->World->Prop} (hgd:o.guard=none) (s y:Operand) (ho:o.op= .call { callee:= .builtin .append,args:=#[s,y],argTypes:=#[48,48] }) (hs:a.eval s= .slice (some ⟨g0,0,none⟩) n k) (hy:a.eval y= .slice D m c)
  (hO:OX txE w b 9 (some ⟨g0,0,none⟩) n k css xs []) (hD:RI txE w D m c ys G) (hn:n+m<=1000000) (hb:b<=w.heap.size)
  (h:∀ g cap w',OX txE w' b 9 (some ⟨g,0,none⟩) (n+m) cap ((xs++ys).map fun x=>[Value.string (bs x)]) (xs++ys) []->bJ (some ⟨g0,0,none⟩) w w'->(blk (some ⟨g0,0,none⟩)=some g\/w.heap.size<=g)->wpList prog ops Q rest (a.put o.dst (.slice (some ⟨g,0,none⟩) (n+m) cap)) w'):wpList prog ops Q (o::rest) a w:=by
 rcases Nat.eq_zero_or_pos m with h0|hm
 ·subst h0;obtain rfl:ys=[]:=List.eq_nil_of_length_eq_zero hD.1;obtain⟨i,z,bytes,k1,k2,k3,k4,k5,k6,k7,k8⟩:=yJ;have hnk:n<=k:=hO.dC.1;refine wpList_plain hgd fun _ hK=>?_
  unfold Oper.wp execOp;simp only[ho,resolve,invoke,builtin,Sem.run_bind,Sem.run_pure,Result.andThen_ok,List.map_toArray,List.map_cons,List.map_nil,hs,hy,Gi (P:=prog) (w:=w) 48 o.type 9 i k1 k2 hnk];refine hK _ _ (h g0 k w ?_ (World.grownBy.refl w _) (.inl rfl));rw[List.append_nil,<-FY hO.2.2.1]
  exact hO
 ·exact F7 hgd s y ho hs hy hO hD hm hn hb h
theorem Hq.apS {w0 w w':World} {L:List Ow} {T:TypeId} {A:Option Addr} {n k n' k' g:Nat} {css css':List (List Value)} {xs xs':List (List UInt8)} (H:Hq w0 (qX txE w0.heap.size T A n k css xs []::L) w) (hO:OX txE w' w0.heap.size T (some ⟨g,0,none⟩) n' k' css' xs' []) (ho:bJ A w w') (hc:blk A=some g\/w.heap.size<=g):Hq w0 (qX txE w0.heap.size T (some ⟨g,0,none⟩) n' k' css' xs' []::L) w':=by
 have hn:∀ d,d∈L->∀ i,d.F i->blk A≠some i:=fun d hd i hi e=>H.S.2.1 i (.inl e) d hd hi
 have hk:∀ d,d∈L->∀ i,d.F i->i<w.heap.size->w'.heap[i]?=w.heap[i]?:=fun d hd i hi hl=>ho.block i hl (fun e=>hn d hd i hi e.symm)
 refine⟨⟨hO,fun i hi d hd hdi=>?_,H.S.2.2.au ho.size hk⟩,fun d hd i hi=>?_,H.O.trans (bJ.toBelow ho (fun g hg=>H.B _ (List.mem_cons_self ..) g (.inl hg)) H.m)⟩
 ·have hi:=hi.resolve_right (fun h=>by cases h)
  have e:g=i:=by simpa [blk] using hi
  subst e;rcases hc with hc|hc
  ·exact hn d hd g hdi hc
  ·have:=H.S.2.2.lt d hd g hdi;omega
 ·rcases List.mem_cons.1 hd with rfl|hd
  ·exact(hO.aj i (hi.resolve_right (fun h=>by cases h))).1
  ·exact H.tl.B d hd i hi
theorem Hr.rr {S:World->Prop} {u w0 w w':World} {gs:List Nat} {α β:Type} {E:Elt α} {E2:Elt β} {L:List Ow} {A B:Option Addr} {n c m d:Nat} {xs:List α} {ys:List β} {F G:List Nat} (Z:Hr S u gs w0 L w) (hb:Below w.heap.size w w') (f:RI E w' A n c xs F) (k:Fr w' w.heap.size F) (f2:RI E2 w' B m d ys G) (k2:Fr w' w.heap.size G) (ap:∀ g,g∈F->¬g∈G):Hr S u gs w0 (qR E w0.heap.size A n c xs F::qR E2 w0.heap.size B m d ys G::L) w':=Z.bk hb fun H=>H.rr hb f k f2 k2 ap
theorem Gt {net:List SL} {s:Int} (h:jO net s) (l:List UInt8):jO (lnF net s l).1.1 (lnF net s l).1.2:=by
 by_cases e:∃ r,LnR net s l r
 ·obtain⟨r,hr⟩:=e;rw[Dr hr]
  exact hr.ok h
 ·unfold lnF;rw[dif_neg e]
  exact h
theorem Gu {net:List SL} {s:Int} (h:jO net s) (ls:List (List UInt8)):jO (rnF net s ls).1.1 (rnF net s ls).1.2:=by
 have g:∀ (ls:List (List UInt8)) (z:Rns),jO z.1.1 z.1.2->jO (ls.foldl rnT z).1.1 (ls.foldl rnT z).1.2:=by
  intro ls
  induction ls with
  | nil=>intro z h;exact h
  | cons l ls ih=>intro z h;exact ih _ (Gt h l)
 exact g ls _ h
theorem Gw {x:List SL×Int} (h:jO x.1 x.2):svB x=true:=by unfold svB;rw[h.1,h.2];rfl
theorem Gs {x:List SL×Int} {ls:List (List UInt8)} (hv:svB x=true) (hl:ls.length<=20) (h:Nat):Rx x ls=((Rx (Rx x (ls.take h)).1 (ls.drop h)).1,(Rx x (ls.take h)).2++(Rx (Rx x (ls.take h)).1 (ls.drop h)).2)/\svB (Rx x (ls.take h)).1=true:=by
 have h1:Rx x (ls.take h)=rnF x.1 x.2 (ls.take h):=by unfold Rx;rw[if_pos ⟨hv,by rw[List.length_take];omega⟩]
 have h2:svB (Rx x (ls.take h)).1=true:=by rw[h1];exact Gw (Gu (xm hv) _)
 have h3:Rx (Rx x (ls.take h)).1 (ls.drop h)=rnF (Rx x (ls.take h)).1.1 (Rx x (ls.take h)).1.2 (ls.drop h):=by
  have e:(ls.drop h).length<=20:=by rw[List.length_drop];omega
  generalize (Rx x (ls.take h)).1=y at h2 ⊢
  unfold Rx;rw[if_pos ⟨h2,e⟩]
 refine⟨?_,h2⟩;rw[h3,h1,<-Gn,List.take_append_drop];unfold Rx;rw[if_pos ⟨hv,hl⟩]
theorem Gl {x:List SL×Int} {ls:List (List UInt8)} (hv:svB x=true) (hl:ls.length<=20):(Rx x ls).2.length=ls.length:=by unfold Rx;rw[if_pos ⟨hv,hl⟩,CW]
theorem Gm {x:List SL×Int} {ls:List (List UInt8)} (h:¬(svB x=true/\ls.length<=20)):Rx x ls=(([],0),[]):=by unfold Rx;rw[if_neg h]
theorem EH (n:Int):∃ d r,fxn n=d::r/\d.toNat<=57:=by
 unfold fxn dec;have h1:=(e7 (n/16).toNat).1
 cases e:Lib.decDigits (n/16).toNat with
 | nil=>rw[e] at h1;simp at h1
 | cons d r=>exact⟨d,_,rfl,(pS _ d (by rw[e];exact List.mem_cons_self ..)).2⟩
theorem ES (x:Int):∃ d r,fx x=d::r/\d.toNat<=57:=by
 unfold fx;rw[pZ];unfold sg
 split
 ·exact⟨45,_,rfl,by decide⟩
 ·exact EH _
theorem Eu (v:List Int) (c:Nat):∀ k,∃ r,st v c (k+1)=fx (v.getD 0 0)++r
 | 0=>⟨[],by simp[st]⟩
 | k+1=>by
  obtain⟨r,h⟩:=Eu v c k;refine⟨r++((if k+1=0 then [] else if (k+1)%c=0 then [59,32] else [32])++fx (v.getD (k+1) 0)),?_⟩
  rw[st,h]
  simp
theorem ET {m:Mx} (h:mvB m=true):∃ d r,mt m=d::r/\d.toNat<=57:=by
 obtain⟨R,C,e1,e2,hR,_,hC,_,hl,h25,_⟩:=er h;rw[l_ h e1 e2,<-uz m.v C (by omega) R (by omega)]
 have hp:0<R*C:=Nat.mul_pos (by omega) (by omega)
 obtain⟨k,hk⟩:∃ k,R*C=k+1:=⟨R*C-1,by omega⟩
 rw[hk];obtain⟨r,hr⟩:=Eu m.v C k;obtain⟨d,t,hd,h57⟩:=ES (m.v.getD 0 0)
 exact⟨d,t++r,by rw[hr,hd];rfl,h57⟩
theorem Ez:∀ {net:List PL},(∀ l,l∈net->aL l.1 l.2=true)->∀ {o:Option (Int×Int)} {N:Nd} {K:Int},(∀ rc,o=some rc->side rc.1=true/\side rc.2=true)->nB N K->nB (ndN net (N,o)).1 (K+1000*(net.length:Int))
 | [],_,_,_,_,_,hN=>by simpa [ndN] using hN
 | l::net,h,o,N,K,ho,hN=>by
  have hl:=h l (List.mem_cons_self ..)
  cases o with
  | none =>
   have e:(ndN (l::net) (N,none)).1=(ndN net (N.add Nd.z,none)).1:=rfl;rw[e];refine(Ez (net:=net) (fun l hl=>h l (List.mem_cons_of_mem _ hl)) (o:=none) (fun rc hrc=>by cases hrc) (hN.add nB.z (Int.le_refl _))).le ?_
   rw[List.length_cons]
   omega
  | some rc =>
   obtain⟨a,b⟩:=rc;obtain⟨s1,s2⟩:=ho (a,b) rfl;have e:(ndN (l::net) (N,some (a,b))).1=(ndN net (N.add (ndL l (a,b)),dr l (a,b))).1:=rfl;rw[e];refine(Ez (net:=net) (fun l hl=>h l (List.mem_cons_of_mem _ hl)) (o:=dr l (a,b)) (fun rc hrc=>uy hl s1 s2 hrc) (hN.add (wF hl s1 s2) (Int.le_refl _))).le ?_
   rw[List.length_cons]
   omega
theorem Fc {N:Nd} {K:Int} (h:nB N K) (hK:K<=1000000):nt [N.a,N.b,N.c,N.d]≠[]:=by
 have h1:[N.a,N.b,N.c,N.d].all okN=true:=by
  have:=h.a0;have:=h.a1;have:=h.b0;have:=h.b1;have:=h.c0;have:=h.c1;have:=h.d0;have:=h.d1;simp only[List.all_cons,List.all_nil,okN,Bool.and_true,Bool.and_eq_true,decide_eq_true_eq]
  omega
 rw[zj h1];intro e;have h2:=congrArg List.length e;unfold jn at h2;rw[List.map_cons,Lib.join_cons,List.length_append] at h2;have h3:=(e7 N.a.toNat).1;unfold dec at h2
 simp at h2
 rw[h2.1] at h3
 simp at h3
theorem Ff {l:List UInt8} {d:UInt8} {r:List UInt8} (e:l=d::r) (h:d.toNat<=57):l≠[]/\l≠tNo/\l≠fa:=by
 subst e;refine⟨by simp,fun h2=>?_,fun h2=>?_⟩
 ·injection h2 with h2;subst h2
  exact absurd h (by decide)
 ·injection h2 with h2;subst h2
  exact absurd h (by decide)
def LnA (net:List SL) (s:Int) (r:Res):Prop:=r.2≠[]/\(r.2=tNo\/r.2=fa->r.1=(net,s))
theorem LnA.no {net:List SL} {s:Int}:LnA net s ((net,s),tNo):=⟨by simp[tNo],fun _=>rfl⟩
theorem LnA.Ft {net:List SL} {s:Int}:LnA net s ((net,s),fa):=⟨by simp[fa],fun _=>rfl⟩
theorem EB {kd:Int} {ms:List Mx} {net:List SL} {s:Int} {r:Res} (e:dI kd ms net s=some r):LnA net s r:=by
 unfold dI at e
 split at e
 ·injection e with e;subst e
  exact⟨by simp,fun h=>by rcases h with h|h <;> simp[tNo,fa] at h⟩
 ·cases e
theorem Fe {m:Mx} (hm:mvB m=true) {net:List SL} {s:Int} (h:jO net s) {r:Res} (e:ic m net s=some r):LnA net s r:=by
 unfold ic at e
 split at e
 ·rename_i hc
  injection e with e;subst e;obtain⟨d,t,h1,h2⟩:=ET (aN (tm h.1 hm h.2 hc).1).1;obtain⟨k1,k2,k3⟩:=Ff h1 h2
  exact⟨k1,fun h=>h.elim (fun h=>absurd h k2) (fun h=>absurd h k3)⟩
 ·cases e
theorem E6 {m:Mx} (hm:mvB m=true) {net:List SL} {s:Int} (h:jO net s) {r:Res} (e:eu m net s=some r):LnA net s r:=by
 unfold eu at e
 split at e
 ·injection e with e;subst e;obtain⟨n1,n2⟩:=du h.1;have hj:=Ez (net:=bh net) (eN h.1).2 (o:=some (m.r,m.c)) (N:=Nd.z) (K:=0) (fun rc e=>by injection e with e;subst e;exact aA hm) nB.z
  have h4:(bh net).length<=4:=(eN h.1).1
  exact⟨Fc hj (by omega),fun _=>rfl⟩
 ·cases e
theorem Fj {n:List UInt8} {k:Nat} {f:List Mx->List SL->Int->Option Res} (hc:ei n=some (k,f)) {ms:List Mx} (hk:ms.length=k) (hmv:∀ m,m∈ms->mvB m=true) {net:List SL} {s:Int} (h:jO net s) {r:Res} (e:f ms net s=some r):LnA net s r:=by
 unfold ei at hc;have h1:k=1->mvB (ms.getD 0 Mx.z)=true:=fun hk1=>by
  rw[hk1] at hk;obtain⟨a,rfl⟩:=List.length_eq_one_iff.1 hk
  exact hmv _ (by simp)
 split at hc
 ·injection hc with hc;injection hc with h2 h3;subst h3;exact EB e
 split at hc
 ·injection hc with hc;injection hc with h2 h3;subst h3;exact EB e
 split at hc
 ·injection hc with hc;injection hc with h2 h3;subst h3;exact EB e
 split at hc
 ·injection hc with hc;injection hc with h2 h3;subst h3;exact Fe (h1 h2.symm) h e
 split at hc
 ·injection hc with hc;injection hc with h2 h3;subst h3;exact E6 (h1 h2.symm) h e
 ·cases hc
theorem LnR.a {net:List SL} {s:Int} {l:List UInt8} {r:Res} (h:LnR net s l r) (hs:jO net s):LnA net s r:=by
 unfold LnR at h
 cases e:ei (Lib.cut l [32]).1 with
 | none=>rw[e] at h;dsimp only at h;rw[h];exact LnA.Ft
 | some p =>
  rw[e] at h;obtain⟨k,f⟩:=p
  dsimp only at h
  rcases h with⟨_,rfl⟩|⟨_,⟨ms,h2,rfl⟩|⟨_,rfl⟩⟩
  ·exact LnA.Ft
  ·cases e2:f ms net s with
   | none=>exact LnA.no
   | some r=>exact Fj e h2.1 h2.mv hs e2
  ·exact LnA.no
section
attribute [local go_sem] af ah ae
theorem EZ (w:World):Calls prog 13 #[] w fun e w'=>e= .returned (.bool true)/\w=w':=by
 go_enter func13,ntmps13
 go_wp2_with fail
 refine Qc (iL 5 w) ?_;go_wp2
 go_ret
 exact⟨rfl,rfl⟩
end
end Go.Proofs.YtjciicheoghcdaaGreatDoor

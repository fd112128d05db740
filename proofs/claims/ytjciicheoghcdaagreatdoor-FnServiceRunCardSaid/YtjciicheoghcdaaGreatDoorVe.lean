/- Part of the proof: the law FnServiceRun is true for every input. -/
import Derived.BigFrame
import Derived.Deep.MidRow
import Derived.Test.YtjciicheoghcdaaGreatDoorVa
import Derived.Test.YtjciicheoghcdaaGreatDoorVd
namespace Go.Proofs.YtjciicheoghcdaaGreatDoor
open Go.RowKit Go.Proofs.Tryz
set_option linter.all false
set_option maxRecDepth 20000
set_option maxHeartbeats 16000000
theorem Blk.cast {u w:World} {g:Nat} {t:TypeId} {cs:Array Value} (hu:u=w) (h:Blk w g t cs):Blk u g t cs:=hu ▸ h
theorem Below.cast {u w w0:World} {B:Nat} (hu:u=w) (h:Below B w0 w):Below B w0 u:=hu ▸ h
theorem OS.cast {u w:World} {base n c:Nat} {A:Option Addr} {xs:List Int} (hu:u=w) (h:OS w base A n c xs):OS u base A n c xs:=hu ▸ h
theorem OS.Ep {w w':World} {base n c g:Nat} {A:Option Addr} {xs:List Int} {t:TypeId} {cs:Array Value} (h:OS w base A n c xs) (hb:Blk w g t cs) (hne:3≠t) (ho:aZ g w w'):OS w' base A n c xs :=
 h.au ho.size fun g' hg' hl=>ho.block g' hl (fun e=>by have e':g'=g:=(by injection e);subst e';exact bf h hb hne hg')
theorem aZ.s1 {w w1:World} {g i:Nat} {v:Value} (h:aZ g w w1):aZ g w (w1.setCell ⟨g,i,none⟩ v):=h.setCell (.inl rfl) _
theorem Blk.iA {w:World} {g:Nat} {t:TypeId} {cs:Array Value} (h:g=w.heap.size):Blk (w.alloc (.cells cs t)) g t cs:=h ▸ Blk.new w t cs
def Cs (w:World) (g:Nat) (cs:Array Value):Prop:=g<w.heap.size/\∀ i,w.cell? ⟨g,i,none⟩=cs[i]?
theorem Blk.f1 {w:World} {g:Nat} {t:TypeId} {a0:Value} (h:Blk w g t #[a0]):g<w.heap.size/\w.cell? ⟨g,0,none⟩=some a0/\w.frozen? ⟨g,0,none⟩=false:=⟨h.lt,h.cell 0,h.frozen 0⟩
theorem Cs.f1 {S:World->Prop} {g:Nat} {a0:Value} (h:∀ x:Wd S,Cs x.w g #[a0]):(∀ x:Wd S,x.w.cell? ⟨g,0,none⟩=some a0):=fun x=>(h x).2 0
theorem Blk.f2 {w:World} {g:Nat} {t:TypeId} {a0 a1:Value} (h:Blk w g t #[a0,a1]):g<w.heap.size/\w.cell? ⟨g,0,none⟩=some a0/\w.frozen? ⟨g,0,none⟩=false/\w.cell? ⟨g,1,none⟩=some a1/\w.frozen? ⟨g,1,none⟩=false:=⟨h.lt,h.cell 0,h.frozen 0,h.cell 1,h.frozen 1⟩
theorem Cs.f2 {S:World->Prop} {g:Nat} {a0 a1:Value} (h:∀ x:Wd S,Cs x.w g #[a0,a1]):(∀ x:Wd S,x.w.cell? ⟨g,0,none⟩=some a0)/\(∀ x:Wd S,x.w.cell? ⟨g,1,none⟩=some a1):=⟨fun x=>(h x).2 0,fun x=>(h x).2 1⟩
theorem Blk.f3 {w:World} {g:Nat} {t:TypeId} {a0 a1 a2:Value} (h:Blk w g t #[a0,a1,a2]):g<w.heap.size/\w.cell? ⟨g,0,none⟩=some a0/\w.frozen? ⟨g,0,none⟩=false/\w.cell? ⟨g,1,none⟩=some a1/\w.frozen? ⟨g,1,none⟩=false/\w.cell? ⟨g,2,none⟩=some a2/\w.frozen? ⟨g,2,none⟩=false:=⟨h.lt,h.cell 0,h.frozen 0,h.cell 1,h.frozen 1,h.cell 2,h.frozen 2⟩
theorem Cs.f3 {S:World->Prop} {g:Nat} {a0 a1 a2:Value} (h:∀ x:Wd S,Cs x.w g #[a0,a1,a2]):(∀ x:Wd S,x.w.cell? ⟨g,0,none⟩=some a0)/\(∀ x:Wd S,x.w.cell? ⟨g,1,none⟩=some a1)/\(∀ x:Wd S,x.w.cell? ⟨g,2,none⟩=some a2):=⟨fun x=>(h x).2 0,fun x=>(h x).2 1,fun x=>(h x).2 2⟩
theorem Blk.f4 {w:World} {g:Nat} {t:TypeId} {a0 a1 a2 a3:Value} (h:Blk w g t #[a0,a1,a2,a3]):g<w.heap.size/\w.cell? ⟨g,0,none⟩=some a0/\w.frozen? ⟨g,0,none⟩=false/\w.cell? ⟨g,1,none⟩=some a1/\w.frozen? ⟨g,1,none⟩=false/\w.cell? ⟨g,2,none⟩=some a2/\w.frozen? ⟨g,2,none⟩=false/\w.cell? ⟨g,3,none⟩=some a3/\w.frozen? ⟨g,3,none⟩=false:=⟨h.lt,h.cell 0,h.frozen 0,h.cell 1,h.frozen 1,h.cell 2,h.frozen 2,h.cell 3,h.frozen 3⟩
theorem Cs.f4 {S:World->Prop} {g:Nat} {a0 a1 a2 a3:Value} (h:∀ x:Wd S,Cs x.w g #[a0,a1,a2,a3]):(∀ x:Wd S,x.w.cell? ⟨g,0,none⟩=some a0)/\(∀ x:Wd S,x.w.cell? ⟨g,1,none⟩=some a1)/\(∀ x:Wd S,x.w.cell? ⟨g,2,none⟩=some a2)/\(∀ x:Wd S,x.w.cell? ⟨g,3,none⟩=some a3):=⟨fun x=>(h x).2 0,fun x=>(h x).2 1,fun x=>(h x).2 2,fun x=>(h x).2 3⟩
theorem Blk.f5 {w:World} {g:Nat} {t:TypeId} {a0 a1 a2 a3 a4:Value} (h:Blk w g t #[a0,a1,a2,a3,a4]):g<w.heap.size/\w.cell? ⟨g,0,none⟩=some a0/\w.frozen? ⟨g,0,none⟩=false/\w.cell? ⟨g,1,none⟩=some a1/\w.frozen? ⟨g,1,none⟩=false/\w.cell? ⟨g,2,none⟩=some a2/\w.frozen? ⟨g,2,none⟩=false/\w.cell? ⟨g,3,none⟩=some a3/\w.frozen? ⟨g,3,none⟩=false/\w.cell? ⟨g,4,none⟩=some a4/\w.frozen? ⟨g,4,none⟩=false:=⟨h.lt,h.cell 0,h.frozen 0,h.cell 1,h.frozen 1,h.cell 2,h.frozen 2,h.cell 3,h.frozen 3,h.cell 4,h.frozen 4⟩
theorem Cs.f5 {S:World->Prop} {g:Nat} {a0 a1 a2 a3 a4:Value} (h:∀ x:Wd S,Cs x.w g #[a0,a1,a2,a3,a4]):(∀ x:Wd S,x.w.cell? ⟨g,0,none⟩=some a0)/\(∀ x:Wd S,x.w.cell? ⟨g,1,none⟩=some a1)/\(∀ x:Wd S,x.w.cell? ⟨g,2,none⟩=some a2)/\(∀ x:Wd S,x.w.cell? ⟨g,3,none⟩=some a3)/\(∀ x:Wd S,x.w.cell? ⟨g,4,none⟩=some a4):=⟨fun x=>(h x).2 0,fun x=>(h x).2 1,fun x=>(h x).2 2,fun x=>(h x).2 3,fun x=>(h x).2 4⟩
theorem Blk.f6 {w:World} {g:Nat} {t:TypeId} {a0 a1 a2 a3 a4 a5:Value} (h:Blk w g t #[a0,a1,a2,a3,a4,a5]):g<w.heap.size/\w.cell? ⟨g,0,none⟩=some a0/\w.frozen? ⟨g,0,none⟩=false/\w.cell? ⟨g,1,none⟩=some a1/\w.frozen? ⟨g,1,none⟩=false/\w.cell? ⟨g,2,none⟩=some a2/\w.frozen? ⟨g,2,none⟩=false/\w.cell? ⟨g,3,none⟩=some a3/\w.frozen? ⟨g,3,none⟩=false/\w.cell? ⟨g,4,none⟩=some a4/\w.frozen? ⟨g,4,none⟩=false/\w.cell? ⟨g,5,none⟩=some a5/\w.frozen? ⟨g,5,none⟩=false:=⟨h.lt,h.cell 0,h.frozen 0,h.cell 1,h.frozen 1,h.cell 2,h.frozen 2,h.cell 3,h.frozen 3,h.cell 4,h.frozen 4,h.cell 5,h.frozen 5⟩
theorem Cs.f6 {S:World->Prop} {g:Nat} {a0 a1 a2 a3 a4 a5:Value} (h:∀ x:Wd S,Cs x.w g #[a0,a1,a2,a3,a4,a5]):(∀ x:Wd S,x.w.cell? ⟨g,0,none⟩=some a0)/\(∀ x:Wd S,x.w.cell? ⟨g,1,none⟩=some a1)/\(∀ x:Wd S,x.w.cell? ⟨g,2,none⟩=some a2)/\(∀ x:Wd S,x.w.cell? ⟨g,3,none⟩=some a3)/\(∀ x:Wd S,x.w.cell? ⟨g,4,none⟩=some a4)/\(∀ x:Wd S,x.w.cell? ⟨g,5,none⟩=some a5):=⟨fun x=>(h x).2 0,fun x=>(h x).2 1,fun x=>(h x).2 2,fun x=>(h x).2 3,fun x=>(h x).2 4,fun x=>(h x).2 5⟩
theorem Blk.f7 {w:World} {g:Nat} {t:TypeId} {a0 a1 a2 a3 a4 a5 a6:Value} (h:Blk w g t #[a0,a1,a2,a3,a4,a5,a6]):g<w.heap.size/\w.cell? ⟨g,0,none⟩=some a0/\w.frozen? ⟨g,0,none⟩=false/\w.cell? ⟨g,1,none⟩=some a1/\w.frozen? ⟨g,1,none⟩=false/\w.cell? ⟨g,2,none⟩=some a2/\w.frozen? ⟨g,2,none⟩=false/\w.cell? ⟨g,3,none⟩=some a3/\w.frozen? ⟨g,3,none⟩=false/\w.cell? ⟨g,4,none⟩=some a4/\w.frozen? ⟨g,4,none⟩=false/\w.cell? ⟨g,5,none⟩=some a5/\w.frozen? ⟨g,5,none⟩=false/\w.cell? ⟨g,6,none⟩=some a6/\w.frozen? ⟨g,6,none⟩=false:=⟨h.lt,h.cell 0,h.frozen 0,h.cell 1,h.frozen 1,h.cell 2,h.frozen 2,h.cell 3,h.frozen 3,h.cell 4,h.frozen 4,h.cell 5,h.frozen 5,h.cell 6,h.frozen 6⟩
theorem Cs.f7 {S:World->Prop} {g:Nat} {a0 a1 a2 a3 a4 a5 a6:Value} (h:∀ x:Wd S,Cs x.w g #[a0,a1,a2,a3,a4,a5,a6]):(∀ x:Wd S,x.w.cell? ⟨g,0,none⟩=some a0)/\(∀ x:Wd S,x.w.cell? ⟨g,1,none⟩=some a1)/\(∀ x:Wd S,x.w.cell? ⟨g,2,none⟩=some a2)/\(∀ x:Wd S,x.w.cell? ⟨g,3,none⟩=some a3)/\(∀ x:Wd S,x.w.cell? ⟨g,4,none⟩=some a4)/\(∀ x:Wd S,x.w.cell? ⟨g,5,none⟩=some a5)/\(∀ x:Wd S,x.w.cell? ⟨g,6,none⟩=some a6):=⟨fun x=>(h x).2 0,fun x=>(h x).2 1,fun x=>(h x).2 2,fun x=>(h x).2 3,fun x=>(h x).2 4,fun x=>(h x).2 5,fun x=>(h x).2 6⟩
theorem Cs.of {w w':World} {g:Nat} {t:TypeId} {cs:Array Value} (h:Blk w g t cs) (hb:Below w.heap.size w w'):Cs w' g cs:=⟨(h.aa hb).lt,fun i=>(h.aa hb).cell i⟩
theorem Cs.set {w:World} {g:Nat} {cs:Array Value} (h:Cs w g cs) {p:Addr} (v:Value) (hp:p.block≠g):Cs (w.setCell p v) g cs:=⟨by simpa [World.setCell] using h.1,fun i =>
 (World.cell?_setCell_other w p ⟨g,i,none⟩ v (fun e=>hp (by rw[e]))).trans (h.2 i)⟩
theorem Cs.alloc {w:World} {g:Nat} {cs:Array Value} (h:Cs w g cs) (o:Obj):Cs (w.alloc o) g cs:=⟨by simp;exact Nat.lt_succ_of_lt h.1,fun i=>(((Below.refl w.heap.size w).alloc Ql o).cell (p:=⟨g,i,none⟩) h.1).trans (h.2 i)⟩
theorem ev {P:Program} {S:World->Prop} {o:Oper} {a:Act} {K:Act->Prop} {ty:TypeId} {x:Operand} {g:Nat} {arr:Array Value} {d:TypeDesc} (ho:o.op= .load ty x) (hx:a.eval x= .pointer (some ⟨g,0,none⟩)) (hG:∀ y:Wd S,Cs y.w g arr)
  (hu:P.underlying ty=some d) (hd:d.isRow=true) (hi:(P.info? ty).map (·.size)=some arr.size) (h:K (a.put o.dst (.agg arr))):o.quiet P a (fun w'=>∃ y:Wd S,w'=y.w) K:=by
 refine⟨_,fun w' ⟨y,hy⟩=>?_,h⟩
 subst hy;unfold Oper.quietAt execOp;have hr:y.w.rangeAt g 0 arr.toList:=fun j v hv=>by rw[Nat.zero_add,(hG y).2 j];simpa using hv
 simp only[ho,hx,Instr.loadAt,Instr.sureAddr,Sem.run_bind,Sem.run_pure,Result.andThen_ok,run_loadVar_mid y.w g 0 ty arr.toList d hr hu hd (by rw[hi];simp)]
 exact⟨rfl,by simp⟩
theorem Blk.range {w:World} {g:Nat} {t:TypeId} {cs:Array Value} (h:Blk w g t cs):w.rangeAt g 0 cs.toList:=fun j v hv=>by rw[Nat.zero_add,h.cell j];simpa using hv
theorem aZ.setCells {w:World} {g:Nat}:∀ (vs:List Value) (o:Nat) (w1:World),aZ g w w1->aZ g w (w1.setCells g o vs)
 | [],_,_,h=>h
 | v::vs,o,w1,h=>aZ.setCells vs (o+1) (w1.setCell ⟨g,o,none⟩ v) h.s1
theorem Blk.setCells {t:TypeId} {g:Nat}:∀ (vs:List Value) (o:Nat) (w:World) (cs:Array Value),Blk w g t cs->o+vs.length<=cs.size->∃ cs',Blk (w.setCells g o vs) g t cs'/\cs'.size=cs.size/\(∀ j,j<o->cs'[j]?=cs[j]?)/\(∀ j,j<vs.length->cs'[o+j]?=vs[j]?)
 | [],o,w,cs,h,_=>⟨cs,h,rfl,fun _ _=>rfl,fun j hj=>by simp at hj⟩
 | v::vs,o,w,cs,h,hl=>by
  simp only[List.length_cons] at hl;obtain⟨cs',h1,h2,h3,h4⟩:=Blk.setCells vs (o+1) (w.setCell ⟨g,o,none⟩ v) _ (h.dc o v) (by simp;omega)
  refine⟨cs',h1,by rw[h2];simp,fun j hj=>by rw[h3 j (by omega),Array.getElem?_setIfInBounds_ne (by omega)],fun j hj=>?_⟩
  cases j with
  | zero=>rw[Nat.add_zero,h3 o (by omega)];simp[Array.getElem?_setIfInBounds];omega
  | succ j=>have:=h4 j (by simpa using hj);rw[Nat.add_assoc,Nat.add_comm 1 j] at this;rw[this];simp
theorem Blk.xc {w:World} {t:TypeId} {g:Nat} {cs vs:Array Value} (h:Blk w g t cs) (hs:vs.size=cs.size):Blk (w.setCells g 0 vs.toList) g t vs:=by
 obtain⟨cs',h1,h2,_,h4⟩:=Blk.setCells vs.toList 0 w cs h (by simp;omega)
 have e:cs'=vs:=by
  apply Array.ext_getElem?
  intro j
  by_cases hj:j<vs.size
  ·have:=h4 j (by simpa using hj)
   rw[Nat.zero_add] at this
   simpa using this
  ·rw[Array.getElem?_eq_none (by omega),Array.getElem?_eq_none (by omega)]
 subst e
 exact h1
theorem Blk.there {w:World} {t:TypeId} {g:Nat} {cs:Array Value} (h:Blk w g t cs):w.there g 0 cs.size:=fun j hj=>⟨by rw[Nat.zero_add,h.cell j,Array.getElem?_eq_getElem hj];rfl,h.frozen _⟩
theorem lV {P:Program} {ops:Array Oper} {rest:List Oper} {op:Oper} {a:Act} {w:World} {Q:Exit->Act->World->Prop} {ty t:TypeId} {x y:Operand} {g:Nat} {cs vs:Array Value} (hgd:op.guard=none) (ho:op.op= .store ty x y)
  (hx:a.eval x= .pointer (some ⟨g,0,none⟩)) (hy:a.eval y= .agg vs) (hb:Blk w g t cs) (hs:vs.size=cs.size) (hi:(P.info? ty).map (·.size)=some vs.size) (h1:vs.all (·.oneCell')=true)
  (h:∀ w',Blk w' g t vs->aZ g w w'->wpList P ops Q rest (a.put op.dst undef) w'):wpList P ops Q (op::rest) a w :=
 wpList_store_mid hgd ty x y ho g 0 vs hx hy (hs ▸ hb.there) hi h1 (h _ (hb.xc hs) (aZ.setCells _ _ _ (aZ.refl _ _)))
theorem aZ.xp {w0 w w':World} {g:Nat} (h:aZ g w w') (O:Below w0.heap.size w0 w) (hg:w0.heap.size<=g):Below w0.heap.size w0 w' :=
 O.trans (bJ.toBelow (A:=some ⟨g,0,none⟩) h (fun g' e=>by have e':g=g':=(by simpa [blk] using e);omega) O.size)
theorem th {P:Program} {fn:Func} {p q:Tmp} {ty t:TypeId} {d:TypeDesc} {g:Nat} {cs:Array Value} {tmps:Array Value} {w:World} (h:fn.results=#[.cell p ty,.tmp q]) (hp:tmps.getD p undef= .pointer (some ⟨g,0,none⟩)) (hb:Blk w g t cs)
  (hu:P.underlying ty=some d) (hd:d.isRow=true) (hi:(P.info? ty).map (·.size)=some cs.size):(results fn tmps).run P w= .ok (.tuple #[.agg cs,tmps.getD q undef]) w:=by
 have hp':tmps[p]?.getD undef= .pointer (some ⟨g,0,none⟩):=by simpa using hp
 have hl:=run_loadVar_mid (P:=P) w g 0 ty cs.toList d hb.range hu hd (by rw[hi];simp)
 simp[results,h,hp',asAddr,hl]
theorem uf {w:World} {g1:Nat} {t1:TypeId} {c1:Array Value} (h1:Blk w g1 t1 c1) :
  ∃ S:World->Prop,Hid (∀ w',Below w.heap.size w w'->S w')/\(∀ w' (p:Addr) v,p.block≠g1->S w'->S (w'.setCell p v))/\(∀ w' o,S w'->S (w'.alloc o))/\(∀ x:Wd S,Cs x.w g1 c1) :=
 ⟨fun w'=>Cs w' g1 c1,fun w' hb=>Cs.of h1 hb,fun w' p v e1 h=>Cs.set h v e1,fun w' o h=>Cs.alloc h o,fun x=>x.h⟩
theorem BI {w:World} {g1 g2:Nat} {t1 t2:TypeId} {c1 c2:Array Value} (h1:Blk w g1 t1 c1) (h2:Blk w g2 t2 c2) :
  ∃ S:World->Prop,Hid (∀ w',Below w.heap.size w w'->S w')/\(∀ w' (p:Addr) v,p.block≠g1->p.block≠g2->S w'->S (w'.setCell p v))/\(∀ w' o,S w'->S (w'.alloc o))/\(∀ x:Wd S,Cs x.w g1 c1)/\(∀ x:Wd S,Cs x.w g2 c2) :=
 ⟨fun w'=>Cs w' g1 c1/\Cs w' g2 c2,fun w' hb=>⟨Cs.of h1 hb,Cs.of h2 hb⟩,fun w' p v e1 e2 h=>⟨(h.1).set v e1,(h.2).set v e2⟩,fun w' o h=>⟨(h.1).alloc o,(h.2).alloc o⟩,fun x=>x.h.1,fun x=>x.h.2⟩
section
structure UpL (G:Nat->Prop) (u w:World):Prop where
 os:w.os=u.os
 tape:w.tape=u.tape
 output:w.output=u.output
 size:u.heap.size<=w.heap.size
 block:∀ i,i<u.heap.size->¬G i->w.heap[i]?=u.heap[i]?
section
variable {G G':Nat->Prop} {u w w':World} {base n c g b:Nat} {A:Option Addr} {xs:List Int} {t:TypeId} {cs:Array Value}
theorem UpL.refl:UpL G u u:=⟨rfl,rfl,rfl,Nat.le_refl _,fun _ _ _=>rfl⟩
theorem UpL.trans (h:UpL G u w) (k:UpL G' w w') (hg:∀ i,i<u.heap.size->G' i->G i):UpL G u w' :=
 ⟨k.os.trans h.os,k.tape.trans h.tape,k.output.trans h.output,Nat.le_trans h.size k.size,fun i hi hn=>(k.block i (Nat.lt_of_lt_of_le hi h.size) (fun e=>hn (hg i hi e))).trans (h.block i hi hn)⟩
theorem UpL.eW (hb:Below u.heap.size u w):UpL G u w:=⟨hb.os,hb.tape,hb.output,hb.size,fun i hi _=>hb.block i hi⟩
theorem UpL.below (h:UpL G u w) (hb:Below w.heap.size w w'):UpL G u w':=h.trans (UpL.eW (G:=G) hb) (fun _ _ e=>e)
theorem UpL.Bc (h:UpL G u w) (p:Addr) (v:Value) (hp:p.block<u.heap.size->G p.block):UpL G u (w.setCell p v) :=
 ⟨h.os,h.tape,h.output,by have:=h.size;simpa [World.setCell] using this,fun j hj hn=>(Below.heap_setCell w p v j (fun e=>hn (by rw[e] at hj ⊢;exact hp hj))).trans (h.block j hj hn)⟩
theorem UpL.bR (h:UpL G u w) (k:bJ A w w') (hp:∀ i,i<u.heap.size->blk A=some i->G i):UpL G u w' :=
 ⟨k.os.trans h.os,k.tape.trans h.tape,k.output.trans h.output,Nat.le_trans h.size k.size,fun i hi hn=>(k.block i (Nat.lt_of_lt_of_le hi h.size) (fun e=>hn (hp i hi e.symm))).trans (h.block i hi hn)⟩
theorem UpL.AQ (k:aZ g w w') (hg:G g):UpL G w w':=⟨k.os,k.tape,k.output,k.size,fun i hi hn=>k.block i hi (fun e=>hn (by injection e with e;rw[e];exact hg))⟩
theorem UpL.toBelow (h:UpL G u w) {B:Nat} (hg:∀ i,i<u.heap.size->G i->B<=i) (hB:B<=u.heap.size):Below B u w :=
 ⟨h.os,h.tape,h.output,h.size,fun i hi=>h.block i (by omega) (fun e=>by have:=hg i (by omega) e;omega)⟩
theorem UpL.over (h:UpL G u w) {B:Nat} {w0:World} (hb:Below B w0 u) (hg:∀ i,i<u.heap.size->G i->B<=i) (hB:B<=u.heap.size):Below B w0 w:=hb.trans (h.toBelow hg hB)
theorem Blk.up (hb:Blk u b t cs) (h:UpL G u w) (hn:¬G b):Blk w b t cs:=(h.block b hb.lt hn).trans hb
theorem OS.up (hA:OS u base A n c xs) (h:UpL G u w) (hn:∀ i,blk A=some i->¬G i):OS w base A n c xs:=hA.au h.size fun g hg hl=>h.block g hl (hn g hg)
theorem SI.up (hA:SI u A n xs) (h:UpL G u w) (hn:∀ i,i<u.heap.size->blk A=some i->¬G i):SI w A n xs:=hA.au h.size fun g hg hl=>h.block g hl (hn g hl hg)
end
end
theorem OS.addr {w:World} {base n k g:Nat} {C:Option Addr} {v:List Int} (h:OS w base C n k v) (hg:blk C=some g):C=some ⟨g,0,none⟩:=by
 rcases h.2 with⟨e,_⟩|⟨g',k',cur,e,_⟩
 ·injection e with e1;subst e1;cases hg
 ·injection e with e1;subst e1;injection hg with hg
  dsimp only at hg
  rw[hg]
def Cn (w:World) (base:Nat) (C:Option Addr) (n m:Nat) (v x:List Int) (u:Value) (w':World):Prop:=∃ C' k',u= .slice C' (n+m) k'/\OS w' base C' (n+m) k' (v++x)/\bJ C w w'/\(C'=C\/∀ i,blk C'=some i->w.heap.size<=i)
theorem im {w:World} {base n k m c:Nat} {C D:Option Addr} {v x:List Int} (ty:TypeId) (hC:OS w base C n k v) (hD:SI w D m x) (hm:0<m) (hn:n+m<=1000000) (hb:base<=w.heap.size) :
  ∃ u w',(Builtin.append_ #[35,35] ty #[.slice C n k,.slice D m c]).run prog w= .ok u w'/\Cn w base C n m v x u w':=by
 obtain⟨b,off,rfl,_,hc⟩:=hD.2 hm;obtain⟨i0,hi,hz0,hz1,hz2⟩:=info_parts eU;obtain⟨g,cap,w',hr,h1,h2,h3,h4⟩:=run_append_lies (P:=prog) w 35 ty base 3 i0 (.int .i64 0) 1 8 underlying35 hi hz0 hz1 hz2 rfl (by decide) (.slice C n k) n _ hC ⟨b,off,none⟩ m c (x.map (Value.int .i64)) (by simp[hD.1]) (ux hD.1 hc)
  (by simp[Value.oneCell']) hm (by unfold maxLen;omega) (by omega) hb w.heap.size rfl
 refine⟨_,w',hr,some ⟨g,0,none⟩,cap,rfl,?_,?_,?_⟩
 ·unfold OS;rw[List.map_append];exact h1
 ·unfold bJ;rw[<-aO C n k];exact h2
 ·rcases h3 with h3|h3
  ·exact .inl (OS.addr hC ((aO C n k).symm.trans h3)).symm
  ·right
   intro i hi;injection hi with hi
   dsimp only at hi
   omega
theorem fH {w:World} {base n k m c:Nat} {C D:Option Addr} {v x:List Int} {ops:Array Oper} {rest:List Oper} {o:Oper} {a:Act} {Q:Exit->Act->World->Prop} (hgd:o.guard=none) (s y:Operand)
  (ho:o.op= .call { callee:= .builtin .append,args:=#[s,y],argTypes:=#[35,35] }) (hs:a.eval s= .slice C n k) (hy:a.eval y= .slice D m c) (hC:OS w base C n k v) (hD:SI w D m x) (hm:0<m) (hn:n+m<=1000000) (hb:base<=w.heap.size)
  (h:∀ C' k' w',OS w' base C' (n+m) k' (v++x)->bJ C w w'->(C'=C\/∀ i,blk C'=some i->w.heap.size<=i)->wpList prog ops Q rest (a.put o.dst (.slice C' (n+m) k')) w'):wpList prog ops Q (o::rest) a w :=
 wpList_plain hgd fun _ hK=>by
  obtain⟨u,w',hr,C',k',rfl,h1,h2,h3⟩:=im (c:=c) o.type hC hD hm hn hb;unfold Oper.wp execOp;simp only[ho,resolve,invoke,builtin,Sem.run_bind,Sem.run_pure,Result.andThen_ok,List.map_toArray,List.map_cons,List.map_nil,hs,hy,hr]
  exact hK _ _ (h C' k' w' h1 h2 h3)
theorem j8 {w:World} {base n k m c:Nat} {C D:Option Addr} {v x:List Int} {o:Oper} {a:Act} {R:Value->World->Prop} (s y:Operand)
  (ho:o.op= .call { callee:= .builtin .append,args:=#[s,y],argTypes:=#[35,35] }) (hs:a.eval s= .slice C n k) (hy:a.eval y= .slice D m c) (hC:OS w base C n k v) (hD:SI w D m x) (hm:0<m) (hn:n+m<=1000000) (hb:base<=w.heap.size)
  (h:∀ C' k' w',OS w' base C' (n+m) k' (v++x)->bJ C w w'->(C'=C\/∀ i,blk C'=some i->w.heap.size<=i)->R (.slice C' (n+m) k') w'):Oper.gives prog o a w R:=by
 obtain⟨u,w',hr,C',k',rfl,h1,h2,h3⟩:=im (c:=c) o.type hC hD hm hn hb;unfold Oper.gives execOp;simp only[ho,resolve,invoke,builtin,Sem.run_bind,Sem.run_pure,Result.andThen_ok,List.map_toArray,List.map_cons,List.map_nil,hs,hy,hr]
 exact h C' k' w' h1 h2 h3
theorem lT {P:Program} (T:TypeId) {ops:Array Oper} {Q:Exit->Act->World->Prop} {l:List Oper} {a:Act} {w:World} {op:Oper} {x:Operand} (ho:op.op= .load T x) (h:Hid (wpList P ops Q (op::l) a w)):wpList P ops Q (op::l) a w:=h
theorem gn {P:Program} (T:TypeId) {ops:Array Oper} {Q:Exit->Act->World->Prop} {l:List Oper} {a:Act} {w:World} {op:Oper} {x y:Operand} (ho:op.op= .store T x y) (h:Hid (wpList P ops Q (op::l) a w)):wpList P ops Q (op::l) a w:=h
theorem b_ {P:Program} {ops:Array Oper} {rest:List Oper} {op:Oper} {a:Act} {w:World} {Q:Exit->Act->World->Prop} {ty t:TypeId} {x:Operand} {g:Nat} {cs:Array Value} {d:TypeDesc} (hw:Region.wanted op (yielded ops a.tmps)=true) (ho:op.op= .load ty x)
  (hx:a.eval x= .pointer (some ⟨g,0,none⟩)) (hb:Blk w g t cs) (hu:P.underlying ty=some d) (hd:d.isRow=true) (hi:(P.info? ty).map (·.size)=some cs.size) (h:wpList P ops Q rest (a.put op.dst (.agg cs)) w):wpList P ops Q (op::rest) a w :=
 BigFrame.wpList_want hw fun _ hK=>wp_load_mid ty x ho g 0 hx cs.toList d hb.range hu hd (by rw[hi];simp) (hK _ _ (by simpa using h))
theorem mh {P:Program} {fn:Func} {p q r s:Tmp} {y1 y2 y3 t1 t2 t3:TypeId} {d1 d2 d3:TypeDesc} {g1 g2 g3:Nat} {c1 c2 c3:Array Value} {tmps:Array Value} {w:World} (h:fn.results=#[.cell p y1,.cell q y2,.cell r y3,.tmp s])
  (hp:tmps.getD p undef= .pointer (some ⟨g1,0,none⟩)) (hq:tmps.getD q undef= .pointer (some ⟨g2,0,none⟩)) (hr:tmps.getD r undef= .pointer (some ⟨g3,0,none⟩)) (b1:Blk w g1 t1 c1) (b2:Blk w g2 t2 c2) (b3:Blk w g3 t3 c3)
  (u1:P.underlying y1=some d1) (u2:P.underlying y2=some d2) (u3:P.underlying y3=some d3) (r1:d1.isRow=true) (r2:d2.isRow=true) (r3:d3.isRow=true) (i1:(P.info? y1).map (·.size)=some c1.size) (i2:(P.info? y2).map (·.size)=some c2.size) (i3:(P.info? y3).map (·.size)=some c3.size) :
  (results fn tmps).run P w= .ok (.tuple #[.agg c1,.agg c2,.agg c3,tmps.getD s undef]) w:=by
 have hp':tmps[p]?.getD undef= .pointer (some ⟨g1,0,none⟩):=by simpa using hp
 have hq':tmps[q]?.getD undef= .pointer (some ⟨g2,0,none⟩):=by simpa using hq
 have hr':tmps[r]?.getD undef= .pointer (some ⟨g3,0,none⟩):=by simpa using hr
 have l1:=run_loadVar_mid (P:=P) w g1 0 y1 c1.toList d1 b1.range u1 r1 (by rw[i1];simp)
 have l2:=run_loadVar_mid (P:=P) w g2 0 y2 c2.toList d2 b2.range u2 r2 (by rw[i2];simp)
 have l3:=run_loadVar_mid (P:=P) w g3 0 y3 c3.toList d3 b3.range u3 r3 (by rw[i3];simp)
 simp[results,h,hp',hq',hr',asAddr,l1,l2,l3]
end Go.Proofs.YtjciicheoghcdaaGreatDoor

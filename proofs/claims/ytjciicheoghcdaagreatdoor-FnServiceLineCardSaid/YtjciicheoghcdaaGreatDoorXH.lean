/- Part of the proof that the law FnServiceLine of the given program returns true for every input. -/
import Derived.Test.YtjciicheoghcdaaGreatDoorXG
namespace Go.Proofs.YtjciicheoghcdaaGreatDoor
open Go.RowKit
set_option linter.unusedSimpArgs false
set_option linter.unusedVariables false
set_option maxRecDepth 20000
set_option maxHeartbeats 16000000
theorem jh {P:List (List UInt8)} {k:Nat} (h:k<P.length):(strs P)[k]?=some (.string (bs (P.getD k []))):=by
 rw [strs,List.getElem?_map,List.getElem?_eq_getElem h,List.getD_eq_getElem?_getD,List.getElem?_eq_getElem h]
 rfl
theorem eS {P:List (List UInt8)} {k:Nat} (h:k<P.length):P.getD k []∈P:=by
 rw [List.getD_eq_getElem?_getD,List.getElem?_eq_getElem h]
 exact List.getElem_mem h
def RMp (l:List UInt8) (m:Mx) (ok:Bool):Prop:=(ok=true/\mvB m=true/\mt m=l)\/(ok=false/\m=Mx.z/\∀ m',mvB m'=true->mt m'≠l)
theorem pY {c:UInt8} (x:Int) (h:c=32\/c=59):c∉fx x:=by
 have hd:∀ m:Int,c∉dec m:=fun m=>by
  intro hm;have:=pS _ c hm;rcases h with rfl | rfl
  ·exact absurd this.1 (by decide)
  ·exact absurd this.2 (by decide)
 have hf:∀ r:Fin 16,c∉fd r.val:=by
  rcases h with rfl | rfl <;> decide
 have hn:∀ n:Int,c∉fxn n:=fun n=>by
  unfold fxn;intro hm;rcases List.mem_append.1 hm with hm | hm
  ·exact hd _ hm
  ·split at hm
   ·cases hm
   ·rcases List.mem_cons.1 hm with hm | hm
    ·rcases h with rfl | rfl <;> exact absurd hm (by decide)
    ·exact hf ⟨(n%16).toNat,by omega⟩ hm
 unfold fx fxs
 split
 ·intro hm;rcases List.mem_cons.1 hm with hm | hm
  ·rcases h with rfl | rfl <;> exact absurd hm (by decide)
  ·exact hn _ hm
 ·exact hn _
theorem wC {c:UInt8} {sep:List UInt8} (hs:c∉sep):∀ {ls:List (List UInt8)},(∀ x∈ls,c∉x)->c∉Lib.join ls sep:=by
 intro ls
 induction ls with
 | nil=>intro _;simp [Lib.join,List.intercalate]
 | cons x ls ih =>
  intro h
  by_cases hl:ls=[]
  ·subst hl;rw [Lib.join_one];exact h x (List.mem_cons_self ..)
  ·rw [hU x hl];intro hm;rcases List.mem_append.1 hm with hm | hm
   ·rcases List.mem_append.1 hm with hm | hm
    ·exact h x (List.mem_cons_self ..) hm
    ·exact hs hm
   ·exact ih (fun y hy=>h y (List.mem_cons_of_mem _ hy)) hm
theorem Ds (v:List Int) (C k:Nat):(59:UInt8)∉rt v C k:=by
 unfold rt;refine wC (by decide) fun x hx=> ?_
 obtain ⟨y,_,rfl⟩:=List.mem_map.1 hx
 exact pY y (.inr rfl)
theorem mU (v:List Int) (C k:Nat) (h:k*C+C<=v.length):((v.drop (k*C)).take C).length=C:=by rw [List.length_take,List.length_drop];omega
theorem xj {v:List Int} {C k:Nat} (hC:1<=C) (h:k*C+C<=v.length):Lib.split (rt v C k) [32]=((v.drop (k*C)).take C).map fx:=by
 unfold rt;refine kV (fun e=> ?_) fun x hx=> ?_
 ·have:=congrArg List.length e;rw [List.length_map,mU v C k h,List.length_nil] at this
  omega
 ·obtain ⟨y,_,rfl⟩:=List.mem_map.1 hx
  exact pY y (.inl rfl)
theorem tw {v:List Int} {R C:Nat} (hR:1<=R):Lib.split (mtx v R C) [59,32]=(List.range R).map (rt v C):=by
 unfold mtx;refine kV (fun e=> ?_) fun x hx=> ?_
 ·have:=congrArg List.length e
  simp at this
  omega
 ·obtain ⟨y,_,rfl⟩:=List.mem_map.1 hx
  exact Ds v C y
theorem mN {l:List UInt8} {m:Mx} (h:mvB m=true) (hl:mt m=l):∃ R C:Nat,1<=R/\R<=5/\1<=C/\C<=5/\(Lib.split l [59,32]).length=R/\∀ k,k<R->(Lib.split ((Lib.split l [59,32]).getD k []) [32]).length=C/\∀ w∈Lib.split ((Lib.split l [59,32]).getD k []) [32],∃ x,(0<=x/\x<=4095)/\fx x=w:=by
 obtain ⟨R,C,hr,hc,R1,R5,C1,C5,hlen,_,hall⟩:=er h;have e:Lib.split l [59,32]=(List.range R).map (rt m.v C):=by rw [<- hl,l_ h hr hc,tw R1]
 refine ⟨R,C,R1,R5,C1,C5,by rw [e];simp,fun k hk=> ?_⟩
 have hk2:k*C+C<=m.v.length:=by rw [hlen];have:=Nat.mul_le_mul_right C (show k+1<=R by omega);rw [Nat.succ_mul] at this;exact this
 have e2:(Lib.split l [59,32]).getD k []=rt m.v C k:=by rw [e];simp [List.getD_eq_getElem?_getD,hk]
 rw [e2,xj C1 hk2];refine ⟨by rw [List.length_map,mU _ _ _ hk2],fun w hw=> ?_⟩
 obtain ⟨x,hx,rfl⟩:=List.mem_map.1 hw;rw [List.all_eq_true] at hall
 exact ⟨x,kJ (hall x (List.mem_of_mem_drop (List.mem_of_mem_take hx))),rfl⟩
def Rok (P:List (List UInt8)) (C k:Nat) (vs:List Int):Prop :=
 vs.length=k*C/\vs.all rv=true/\(0<k->1<=C/\C<=5/\(Lib.split (P.getD 0 []) [32]).length=C)/\∀ i,i<k->P.getD i []=rt vs C i
theorem Rok.start (P:List (List UInt8)) (C:Nat):Rok P C 0 []:=⟨by simp,rfl,fun h=>absurd h (by omega),fun i h=>absurd h (by omega)⟩
theorem RMp.no {l:List UInt8} (h:∀ m',mvB m'=true->mt m'≠l):RMp l Mx.z false:= .inr ⟨rfl,rfl,h⟩
theorem vF {l:List UInt8} (h:5<(Lib.split l [59,32]).length):RMp l Mx.z false:=RMp.no fun m hm e=>by
 obtain ⟨R,C,_,_,_,_,h1,_⟩:=mN hm e
 omega
theorem vG {l:List UInt8} {k:Nat} (hk:k<(Lib.split l [59,32]).length) (h:5<(Lib.split ((Lib.split l [59,32]).getD k []) [32]).length):RMp l Mx.z false:=RMp.no fun m hm e=>by
 obtain ⟨R,C,_,_,_,_,h1,h2⟩:=mN hm e;have:=(h2 k (by omega)).1
 omega
theorem vE {l:List UInt8} {k C:Nat} {vs:List Int} (hk:k<(Lib.split l [59,32]).length) (h0:0<k) (hr:Rok (Lib.split l [59,32]) C k vs) (h:(Lib.split ((Lib.split l [59,32]).getD k []) [32]).length≠C):RMp l Mx.z false:=RMp.no fun m hm e=>by
 obtain ⟨R,C',_,_,_,_,h1,h2⟩:=mN hm e;have h3:=(h2 k (by omega)).1
 have h4:=(h2 0 (by omega)).1
 have h5:=(hr.2.2.1 h0).2.2
 omega
theorem Ej {l w:List UInt8} {k:Nat} {v:Int} (hk:k<(Lib.split l [59,32]).length) (hw:w∈Lib.split ((Lib.split l [59,32]).getD k []) [32]) (h:RF w v false):RMp l Mx.z false:=RMp.no fun m hm e=>by
 obtain ⟨R,C,_,_,_,_,h1,h2⟩:=mN hm e;obtain ⟨x,hx,hxw⟩:=(h2 k (by omega)).2 w hw
 rcases h with ⟨h,_⟩ | ⟨_,_,h⟩
 ·cases h
 ·exact h x hx.1 hx.2 hxw
theorem RF.num {w:List UInt8} {v:Int} (h:RF w v true):(0<=v/\v<=4095)/\fx v=w:=by
 rcases h with ⟨_,h1,h2⟩ | ⟨h,_⟩
 ·exact ⟨h1,h2⟩
 ·cases h
def Rjk (W:List (List UInt8)) (j:Nat) (ys:List Int):Prop:=ys.length=j/\ys.all rv=true/\ys.map fx=W.take j
theorem Rjk.start (W:List (List UInt8)):Rjk W 0 []:=⟨rfl,rfl,rfl⟩
theorem Rjk.step {W:List (List UInt8)} {j:Nat} {ys:List Int} {x:Int} (h:Rjk W j ys) (hj:j<W.length) (hx:0<=x/\x<=4095) (e:fx x=W.getD j []):Rjk W (j+1) (ys++[x]):=by
 obtain ⟨h1,h2,h3⟩:=h;refine ⟨by simp [h1],by rw [List.all_append,h2,List.all_cons,aR hx];rfl,?_⟩
 rw [List.map_append,h3,List.take_succ_eq_append_getElem hj,List.map_cons,List.map_nil,e,List.getD_eq_getElem?_getD,List.getElem?_eq_getElem hj]
 rfl
theorem tj {vs ys:List Int} {C i:Nat} (h:i*C+C<=vs.length):rt (vs++ys) C i=rt vs C i:=by
 unfold rt
 congr 2
 rw [List.drop_append_of_le_length (by omega),List.take_append_of_le_length (by rw [List.length_drop];omega)]
theorem Rok.next {P:List (List UInt8)} {C k:Nat} {vs ys:List Int} (h:Rok P C k vs) (hk:k<P.length) (hy:Rjk (Lib.split (P.getD k []) [32]) C ys) (hC:(Lib.split (P.getD k []) [32]).length=C) (C5:C<=5):Rok P C (k+1) (vs++ys):=by
 obtain ⟨h1,h2,h3,h4⟩:=h;obtain ⟨y1,y2,y3⟩:=hy;have hW:ys.map fx=Lib.split (P.getD k []) [32]:=by rw [y3,List.take_of_length_le (by omega)]
 have hC1:1<=C:=by rw [<- hC];have:=xi (P.getD k []) [32];cases hs:Lib.split (P.getD k []) [32] with | nil=>exact absurd hs this | cons=>simp
 refine ⟨by rw [List.length_append,h1,y1,Nat.succ_mul],by rw [List.all_append,h2,y2];rfl,fun _=>⟨hC1,C5,?_⟩,fun i hi=> ?_⟩
 ·rcases Nat.eq_zero_or_pos k with h0 | h0
  ·subst h0;exact hC
  ·exact (h3 h0).2.2
 ·by_cases hik:i<k
  ·have:i*C+C<=vs.length:=by rw [h1];have:=Nat.mul_le_mul_right C (show i+1<=k by omega);rw [Nat.succ_mul] at this;exact this
   rw [tj this]
   exact h4 i hik
  ·obtain rfl:i=k:=by omega
   have e1:((vs++ys).drop (i*C)).take C=ys:=by rw [<- h1,List.drop_left,List.take_of_length_le (by omega)]
   unfold rt;rw [e1,hW]
   exact (uc [32] (by simp) _ _ (Nat.lt_succ_self _)).symm
theorem vU {l:List UInt8} {C:Nat} {vs:List Int} (h:Rok (Lib.split l [59,32]) C (Lib.split l [59,32]).length vs) (h5:(Lib.split l [59,32]).length<=5):RMp l ⟨((Lib.split l [59,32]).length:Int),(C:Int),vs⟩ true:=by
 obtain ⟨p,hp⟩:∃ p,p=(Lib.split l [59,32]).length:=⟨_,rfl⟩;rw [<- hp] at h h5 ⊢;have hp1:1<=p:=by rw [hp];have:=xi l [59,32];cases hs:Lib.split l [59,32] with | nil=>exact absurd hs this | cons=>simp
 obtain ⟨h1,h2,h3,h4⟩:=h;obtain ⟨C1,C5,_⟩:=h3 (by omega)
 have hv:mvB ⟨(p:Int),(C:Int),vs⟩=true:=by
  have a:side (p:Int)=true:=decide_eq_true (by omega)
  have b:side (C:Int)=true:=decide_eq_true (by omega)
  simp [mvB,a,b,h1,h2]
 refine .inl ⟨rfl,hv,?_⟩;rw [l_ hv rfl rfl];have e:Lib.split l [59,32]=(List.range p).map (rt vs C):=by
  apply List.ext_getElem
  ·simp [hp]
  ·intro i a b;have:=h4 i (by omega)
   rw [List.getD_eq_getElem?_getD,List.getElem?_eq_getElem a] at this
   simpa using this
 unfold mtx;rw [<- e]
 exact uc [59,32] (by simp) _ _ (Nat.lt_succ_self _)
theorem RMp.one {l:List UInt8} {m1 m2:Mx} {a b:Bool} (h1:RMp l m1 a) (h2:RMp l m2 b):m1=m2/\a=b:=by
 rcases h1 with ⟨rfl,v1,e1⟩ | ⟨rfl,rfl,n1⟩
 ·rcases h2 with ⟨rfl,v2,e2⟩ | ⟨rfl,rfl,n2⟩
  ·refine ⟨?_,rfl⟩;obtain ⟨R1,C1,r1,c1,a1,_,b1,_,l1,_,q1⟩:=er v1;obtain ⟨R2,C2,r2,c2,a2,_,b2,_,l2,_,q2⟩:=er v2;have s1:Lib.split l [59,32]=(List.range R1).map (rt m1.v C1):=by rw [<- e1,l_ v1 r1 c1,tw a1]
   have s2:Lib.split l [59,32]=(List.range R2).map (rt m2.v C2):=by rw [<- e2,l_ v2 r2 c2,tw a2]
   have hR:R1=R2:=by have h:=congrArg List.length (s1.symm.trans s2);simpa using h
   subst hR;have hrow (k:Nat) (hk:k<R1):rt m1.v C1 k=rt m2.v C2 k:=by
    have h:=congrArg (fun x=>x[k]?) (s1.symm.trans s2)
    simpa [hk] using h
   have hm (C k:Nat) (hk:k<R1):k*C+C<=R1*C:=by have:=Nat.mul_le_mul_right C (show k+1<=R1 by omega);rw [Nat.succ_mul] at this;exact this
   have hw (k:Nat) (hk:k<R1):((m1.v.drop (k*C1)).take C1).map fx=((m2.v.drop (k*C2)).take C2).map fx:=by
    rw [<- xj b1 (by rw [l1];exact hm C1 k hk),<- xj b2 (by rw [l2];exact hm C2 k hk),hrow k hk]
   have hC:C1=C2:=by
    have h:=congrArg List.length (hw 0 (by omega))
    rw [List.length_map,List.length_map,mU _ _ _ (by rw [l1];exact hm C1 0 (by omega)),mU _ _ _ (by rw [l2];exact hm C2 0 (by omega))] at h
    exact h
   subst hC;have hv:m1.v=m2.v:=by
    apply List.ext_getElem (by rw [l1,l2])
    intro i hi1 hi2;have hk:i/C1<R1:=by rw [Nat.div_lt_iff_lt_mul (by omega)];rw [l1] at hi1;exact hi1
    have hj:i%C1<C1:=Nat.mod_lt _ (by omega)
    have hij:i/C1*C1+i%C1=i:=by rw [Nat.mul_comm];exact Nat.div_add_mod i C1
    have h:=congrArg (fun x=>x[i%C1]?) (hw (i/C1) hk)
    simp only [List.getElem?_map,List.getElem?_take_of_lt hj,List.getElem?_drop,hij,List.getElem?_eq_getElem hi1,List.getElem?_eq_getElem hi2,Option.map_some,Option.some.injEq] at h;rw [List.all_eq_true] at q1 q2
    exact vT (kJ (q1 _ (List.getElem_mem hi1))) (kJ (q2 _ (List.getElem_mem hi2))) h
   obtain ⟨x,y,z⟩:=m1;obtain ⟨x2,y2,z2⟩:=m2
   dsimp only at r1 c1 r2 c2 hv
   rw [r1,c1,r2,c2,hv]
  ·exact absurd e1 (n2 _ v1)
 ·rcases h2 with ⟨rfl,v2,e2⟩ | ⟨rfl,rfl,n2⟩
  ·exact absurd e2 (n1 _ v2)
  ·exact ⟨rfl,rfl⟩
theorem Dv {l b wh dg:List UInt8} {ng z:Bool} (hb:b=Lib.trimPrefix l [45]) (hn:ng=Lib.hasPrefix l [45]) (hc:Lib.cut b [46]=(wh,dg,z)) :
  pI l=if 3<wh.length\/4<dg.length then none else if (dOf wh).2=true/\(dOf (four dg)).2=true then some ((if ng=true then -((dOf wh).1*16+(dOf (four dg)).1/625) else (dOf wh).1*16+(dOf (four dg)).1/625)%4096) else none:=by
 unfold pI;rw [<- hb,hc,<- hn]
theorem xt (l p:List UInt8):(Lib.trimPrefix l p).length<=l.length:=by
 unfold Lib.trimPrefix
 split
 ·rw [List.length_drop];omega
 ·exact Nat.le_refl _
theorem vP {l:List UInt8} (h:l.length<=8):0<=(dOf l).1/\(dOf l).1<=99999999:=by
 unfold dOf
 split
 ·rename_i ha
  have:=jS (l:=l) (k:=l.length) (Nat.le_refl _) h (by rw [List.take_length];exact ha)
  rwa [List.take_length] at this
 ·exact ⟨by decide,by decide⟩
theorem vw (k:Nat) (h:k<=4):ByteArray.extract ⟨#[48,48,48,48]⟩ k 4=bs (List.replicate (4-k) 48):=by
 match k,h with
 | 0,_=>rfl
 | 1,_=>rfl
 | 2,_=>rfl
 | 3,_=>rfl
 | 4,_=>rfl
def Rv (l:List UInt8) (w:World) (e:Ending) (w':World):Prop:=∃ (v:Int) (ok:Bool),e= .returned (.tuple #[.int .i64 v,.bool ok])/\RF l v ok/\Below w.heap.size w w'
theorem lY (l:List UInt8) (hl:l.length<=1048576) (w:World) (ht:Tab w) (hm:iD w):Calls Tryz.prog 130 #[.string (bs l)] w (Rv l w):=by
 have HT:=Lib.hid ht;have HM:=Lib.hid hm;have HL:=Lib.hid hl;clear ht hm hl
 go_enter Tryz.func130,Tryz.ntmps130
 go_wp2_with fail
 refine (Db l [45] w).mono ?_;rintro e w' ⟨rfl,rfl⟩;obtain ⟨b,hb⟩:∃ b,b=Lib.trimPrefix l [45]:=⟨_,rfl⟩;obtain ⟨ng,hn⟩:∃ b,b=Lib.hasPrefix l [45]:=⟨_,rfl⟩;rw [<- hb,<- hn];have HB:=Lib.hid hb;have HN:=Lib.hid hn;clear hb hn
 go_wp2_with fail
 refine (yY b [46] w (by rw [HB.out];exact Nat.le_trans (xt _ _) HL.out) HM.out).mono ?_
 rintro e w1 ⟨rfl,hb1⟩;obtain ⟨⟨wh,dg,z⟩,hc⟩:∃ c,c=Lib.cut b [46]:=⟨_,rfl⟩;rw [<- hc];have HP:Hid (pI l=if 3<wh.length\/4<dg.length then none else if (dOf wh).2=true/\(dOf (four dg)).2=true then some ((if ng=true then -((dOf wh).1*16+(dOf (four dg)).1/625) else (dOf wh).1*16+(dOf (four dg)).1/625)%4096) else none):=Dv HB.out HN.out hc.symm
 have hws:(bs wh).size=wh.length:=aK _;have hds:(bs dg).size=dg.length:=aK _;have HB1:=Lib.hid hb1;clear hc hb1
 by_cases h3:3<wh.length
 ·have h3':(3:Int)<(wh.length:Int):=by omega
  have HR:Hid (RF l 0 false):=RF.noI (by rw [HP.out,if_pos (.inl h3)])
  go_wp2_with fail
  go_wp2
  go_ret2
  exact ⟨0,false,rfl,HR.out,HB1.out⟩
 have h3':(wh.length:Int)<=3:=by omega
 by_cases h4:4<dg.length
 ·have h4':(4:Int)<(dg.length:Int):=by omega
  have HR:Hid (RF l 0 false):=RF.noI (by rw [HP.out,if_pos (.inr h4)])
  go_wp2_with fail
  go_wp2
  go_ret2
  exact ⟨0,false,rfl,HR.out,HB1.out⟩
 have h4':(dg.length:Int)<=4:=by omega
 have hze:=vw dg.length (by omega)
 have hap:bs dg++bs (List.replicate (4-dg.length) 48)=bs (four dg):=bN _ _;have hfl:(four dg).length=4:=by unfold four;rw [List.length_append,List.length_replicate];omega
 have hrs:(bs (List.replicate (4-dg.length) 48)).size=4-dg.length:=by rw [aK,List.length_replicate]
 obtain ⟨d0,d1⟩:=vP (l:=wh) (by omega)
 obtain ⟨d2,d3⟩:=vP (l:=four dg) (by omega)
 obtain ⟨⟨a1,o1⟩,hd1⟩:∃ c,c=dOf wh:=⟨_,rfl⟩;obtain ⟨⟨a2,o2⟩,hd2⟩:∃ c,c=dOf (four dg):=⟨_,rfl⟩;rw [<- hd1] at d0 d1 HP;rw [<- hd2] at d2 d3 HP
 dsimp only at d0 d1 d2 d3 HP
 have HD1:=Lib.hid hd1;have HD2:=Lib.hid hd2;have HW1:Hid (wh.length<=8):=by show _<=_;omega
 have HW2:Hid ((four dg).length<=8):=by show _<=_;omega
 have q0:0<=a2/625:=by omega
 have q1:=IntWalk.i64_in (a1*16) (by omega)
 have q2:=IntWalk.i64_in (a1*16+a2/625) (by omega)
 have q3:=IntWalk.i64_in (-(a1*16+a2/625)) (by omega)
 clear hd1 hd2 hfl
 go_wp2_with fail
 refine (DJ wh HW1.out w1).mono ?_;rintro e w' ⟨rfl,rfl⟩;rw [<- HD1.out]
 dsimp only
 go_wp2_with fail
 refine (DJ (four dg) HW2.out w1).mono ?_;rintro e w' ⟨rfl,rfl⟩;rw [<- HD2.out]
 dsimp only
 clear hze hap hrs hws hds
 cases o1
 ·have HR:Hid (RF l 0 false):=RF.noI (by rw [HP.out,if_neg (by omega),if_neg (by simp)])
  go_wp2_with fail
  go_wp2
  go_ret2
  exact ⟨0,false,rfl,HR.out,HB1.out⟩
 cases o2
 ·have HR:Hid (RF l 0 false):=RF.noI (by rw [HP.out,if_neg (by omega),if_neg (by simp)])
  go_wp2_with fail
  go_wp2
  go_ret2
  exact ⟨0,false,rfl,HR.out,HB1.out⟩
 cases ng
 ·have HV:Hid (pI l=some ((a1*16+a2/625)%4096)):=by show _=_;rw [HP.out,if_neg (by omega),if_pos ⟨rfl,rfl⟩];rfl
  obtain ⟨v,hv⟩:∃ v,v=(a1*16+a2/625)%4096:=⟨_,rfl⟩;have hv0:0<=v/\v<=4095:=by rw [hv];omega
  have HV2:Hid (pI l=some v):=by show _=_;rw [hv];exact HV.out
  have HVV:=Lib.hid hv;clear HV hv
  go_wp2_with fail
  refine (dK (a1*16+a2/625) w1).mono ?_;rintro e w' ⟨rfl,rfl⟩;rw [<- HVV.out]
  go_wp2_with fail
  refine (iI v hv0 w1 (HT.out.below HB1.out (Nat.le_refl _))).mono ?_;rintro e w2 ⟨rfl,hb2⟩;have HB2:=Lib.hid (bp hb2 HB1.out.size HB1.out);clear hb2
  by_cases hf:fx v=l
  ·have hR:=Lib.hid (RF.yes hv0 hf);rw [hf];clear hf;go_wp2
   go_ret2
   exact ⟨v,true,rfl,hR.out,HB2.out⟩
  ·have hR:=Lib.hid (RF.Fk HV2.out hf);have hne:((bs (fx v)).toList == (bs l).toList)=false:=by rw [<- Go.beq_toListBytes];exact iE (fun e=>hf (gU e))
   clear hf;go_wp2
   go_ret2
   exact ⟨0,false,rfl,hR.out,HB2.out⟩
 ·have HV:Hid (pI l=some ((-(a1*16+a2/625))%4096)):=by show _=_;rw [HP.out,if_neg (by omega),if_pos ⟨rfl,rfl⟩];rfl
  obtain ⟨v,hv⟩:∃ v,v=(-(a1*16+a2/625))%4096:=⟨_,rfl⟩;have hv0:0<=v/\v<=4095:=by rw [hv];omega
  have HV2:Hid (pI l=some v):=by show _=_;rw [hv];exact HV.out
  have HVV:=Lib.hid hv;clear HV hv
  go_wp2_with fail
  refine (dK (-(a1*16+a2/625)) w1).mono ?_;rintro e w' ⟨rfl,rfl⟩;rw [<- HVV.out]
  go_wp2_with fail
  refine (iI v hv0 w1 (HT.out.below HB1.out (Nat.le_refl _))).mono ?_;rintro e w2 ⟨rfl,hb2⟩;have HB2:=Lib.hid (bp hb2 HB1.out.size HB1.out);clear hb2
  by_cases hf:fx v=l
  ·have hR:=Lib.hid (RF.yes hv0 hf);rw [hf];clear hf;go_wp2
   go_ret2
   exact ⟨v,true,rfl,hR.out,HB2.out⟩
  ·have hR:=Lib.hid (RF.Fk HV2.out hf);have hne:((bs (fx v)).toList == (bs l).toList)=false:=by rw [<- Go.beq_toListBytes];exact iE (fun e=>hf (gU e))
   clear hf;go_wp2
   go_ret2
   exact ⟨0,false,rfl,hR.out,HB2.out⟩
end Go.Proofs.YtjciicheoghcdaaGreatDoor

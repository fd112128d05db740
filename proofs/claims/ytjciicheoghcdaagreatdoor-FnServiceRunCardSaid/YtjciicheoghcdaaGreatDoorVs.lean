/- Part of the proof: the law FnServiceRun is true for every input. -/
import Derived.Deep.Slices
import Derived.Deep.Strs
import Derived.OpenShut
import Derived.Test.YtjciicheoghcdaaGreatDoorVa
import Derived.Test.YtjciicheoghcdaaGreatDoorVe
import Derived.Test.YtjciicheoghcdaaGreatDoorVg
import Derived.Test.YtjciicheoghcdaaGreatDoorVh
import Derived.Test.YtjciicheoghcdaaGreatDoorVj
import Derived.Test.YtjciicheoghcdaaGreatDoorVk
import Derived.Test.YtjciicheoghcdaaGreatDoorVl
import Derived.Test.YtjciicheoghcdaaGreatDoorVm
import Derived.Test.YtjciicheoghcdaaGreatDoorVn
import Derived.Test.YtjciicheoghcdaaGreatDoorVo
import Derived.Test.YtjciicheoghcdaaGreatDoorVp
import Derived.Test.YtjciicheoghcdaaGreatDoorVq
namespace Go.Proofs.YtjciicheoghcdaaGreatDoor
open Go.RowKit Go.Proofs.Tryz
set_option linter.all false
set_option maxRecDepth 20000
set_option maxHeartbeats 16000000
section
section
variable {α:Type} {E:Elt α} {w:World}
theorem dJ.focus:∀ {css:List (List Value)} {xs:List α} {F:List Nat},dJ E w css xs F->∀ {i:Nat} {x:α},xs[i]?=some x->∃ cs F1 F2 F3,css[i]?=some cs/\F=F1++(F2++F3)/\E.P w cs x F2 /\
  ∀ (w':World) (cs':List Value) (x':α),(∀ g,g∈F1++F3->w'.heap[g]?=w.heap[g]?)->E.P w' cs' x' F2->dJ E w' (css.set i cs') (xs.set i x') F
 | [],[],_,_,i,x,hx=>by cases hx
 | cs::_,y::_,_,⟨Fa,Fb,e,h1,h2⟩,0,x,hx=>by
  have:y=x:=by simpa using hx
  subst this
  exact⟨cs,[],Fa,Fb,rfl,e,h1,fun w' cs' x' hk hp=>⟨Fa,Fb,e,hp,h2.au hk⟩⟩
 | c::_,y::_,_,⟨Fa,Fb,e,h1,h2⟩,i+1,x,hx=>by
  obtain⟨cs,F1,F2,F3,e1,e2,e3,e4⟩:=h2.focus (i:=i) (x:=x) (by simpa using hx)
  exact⟨cs,Fa++F1,F2,F3,by simpa using e1,by rw[e,e2];simp,e3,fun w' cs' x' hk hp=>⟨Fa,Fb,e,E.au _ _ _ _ _ h1 fun g hg=>hk g (by simp[hg]),e4 w' cs' x' (fun g hg=>hk g ((List.mem_append.1 hg).elim (fun h=>by simp[h]) (fun h=>by simp[h]))) hp⟩⟩
theorem RI.focus {A:Option Addr} {n cap:Nat} {xs:List α} {F:List Nat} (h:RI E w A n cap xs F) (hf:F.Nodup) {i:Nat} {x:α} (hx:xs[i]?=some x):∃ b off cs F2,A=some ⟨b,off,none⟩/\b∈F/\b∉F2/\F2.Nodup/\(∀ g,g∈F2->g∈F)/\E.P w cs x F2/\(∀ j,j<E.s->w.cell? ⟨b,off+(i*E.s+j),none⟩=cs[j]?) /\
  ∀ (w':World) (cs':List Value) (x':α),b<w'.heap.size->(∀ g,g∈F->g≠b->g∉F2->w'.heap[g]?=w.heap[g]?)->(∀ o,(o<off+i*E.s\/off+i*E.s+E.s<=o)->w'.cell? ⟨b,o,none⟩=w.cell? ⟨b,o,none⟩)->(∀ j,j<E.s->w'.cell? ⟨b,off+(i*E.s+j),none⟩=cs'[j]?)->E.P w' cs' x' F2->RI E w' A n cap (xs.set i x') F:=by
 obtain⟨h1,h2,h3,h4⟩:=h;rcases h4 with⟨h4,_⟩|⟨b,off,css,F',e,hb,rfl,he,hc⟩
 ·have:=(List.getElem?_eq_some_iff.1 hx).1
  omega
 ·obtain⟨cs,F1,F2,F3,e1,e2,e3,e4⟩:=he.focus hx;have hnd:=List.nodup_cons.1 hf;rw[e2] at hnd;have hn2:=hnd.2;rw[List.nodup_append] at hn2;obtain⟨_,hn23,hn1⟩:=hn2;rw[List.nodup_append] at hn23;obtain⟨hn2,_,hn3⟩:=hn23;refine⟨b,off,cs,F2,e,List.mem_cons_self ..,fun hb2=>hnd.1 (by simp[hb2]),hn2,fun g hg=>List.mem_cons_of_mem _ (by rw[e2];simp[hg]),e3,fun j hj=>hc i cs e1 j hj,?_⟩
  intro w' cs' x' hbw hk hr hc' hp;have hkeep:∀ g,g∈F1++F3->w'.heap[g]?=w.heap[g]?:=by
   intro g hg;have hgF:g∈F':=by rw[e2];exact(List.mem_append.1 hg).elim (fun h=>by simp[h]) (fun h=>by simp[h])
   refine hk g (List.mem_cons_of_mem _ hgF) (fun e=>hnd.1 (by rw[<-e,<-e2];exact hgF)) fun h2=>?_
   rcases List.mem_append.1 hg with hg|hg
   ·exact hn1 g hg g (by simp[h2]) rfl
   ·exact hn3 g h2 g hg rfl
  refine⟨by rw[List.length_set];exact h1,h2,h3,.inr ⟨b,off,css.set i cs',F',e,hbw,rfl,e4 w' cs' x' hkeep hp,fun m ds hm j hj=>?_⟩⟩
  rw[List.getElem?_set] at hm
  by_cases him:i=m
  ·subst him;rw[if_pos rfl] at hm
   split at hm
   ·injection hm with hm;subst hm
    exact hc' j hj
   ·cases hm
  ·rw[if_neg him] at hm;rw[<-hc m ds hm j hj];refine hr _ ?_;rcases Nat.lt_or_ge m i with h|h
   ·left
    have:(m+1)*E.s<=i*E.s:=Nat.mul_le_mul_right _ h;rw[Nat.succ_mul] at this
    omega
   ·right
    have:(i+1)*E.s<=m*E.s:=Nat.mul_le_mul_right _ (by omega)
    rw[Nat.succ_mul] at this
    omega
end
def ctA {α:Type} (c:α->Nat):List α->Nat
 | []=>0
 | x::xs=>c x+ctA c xs
section
variable {α:Type} {f:α->Int->α} {c:α->Nat}
end
def ctP (p:Mx×Mx):Nat:=4+p.1.v.length+p.2.v.length
def ctL (l:Int×List (Mx×Mx)):Nat:=1+ctA ctP l.2
theorem pR {α:Type} {c:α->Nat} {B:Nat}:∀ {xs:List α},(∀ x,x∈xs->c x<=B)->ctA c xs<=xs.length*B
 | [],_=>by simp[ctA]
 | x::xs,h=>by
  have h1:=h x (List.mem_cons_self ..);have h2:=pR (xs:=xs) fun y hy=>h y (List.mem_cons_of_mem _ hy)
  simp only[ctA,List.length_cons,Nat.succ_mul]
  omega
theorem tQ {net:List (Int×List (Mx×Mx))} {a b d:Nat} (h1:net.length<=a) (h2:∀ l,l∈net->l.2.length<=b/\∀ p,p∈l.2->p.1.v.length<=d/\p.2.v.length<=d):ctA ctL net<=a*(1+b*(4+d+d)):=by
 refine Nat.le_trans (pR (B:=1+b*(4+d+d)) fun l hl=>?_) (Nat.mul_le_mul_right _ h1)
 obtain⟨h3,h4⟩:=h2 l hl;have h5:=pR (c:=ctP) (B:=4+d+d) (xs:=l.2) fun p hp=>by
  have:=h4 p hp;unfold ctP
  omega
 have h6:=Nat.mul_le_mul_right (4+d+d) h3;unfold ctL
 omega
end
section
attribute [local go_sem] af ah ae
def TyK (u w:World):Prop:=∀ g t cs,Blk u g t cs->∃ ds,Blk w g t ds
theorem TyK.refl (u:World):TyK u u:=fun g t cs h=>⟨cs,h⟩
theorem TyK.trans {u w w':World} (h:TyK u w) (k:TyK w w'):TyK u w':=fun g t cs hb=>by
 obtain⟨ds,hd⟩:=h g t cs hb
 exact k g t ds hd
theorem TyK.set (w:World) (g i:Nat) (v:Value):TyK w (w.setCell ⟨g,i,none⟩ v):=fun g' t cs hb=>by
 by_cases e:g'=g
 ·subst e
  exact⟨_,hb.dc i v⟩
 ·exact⟨cs,hb.far (p:=⟨g,i,none⟩) e v⟩
theorem Fr.ty {w w':World} {b:Nat} {F:List Nat} (h:Fr w b F) (k:TyK w w'):Fr w' b F:=⟨h.1,fun g hg=>by
 obtain⟨h1,t,cs,h2,h3⟩:=h.2 g hg;obtain⟨ds,hd⟩:=k g t cs h2
 exact⟨h1,t,ds,hd,h3⟩⟩
structure Mk (G:Nat->Prop) (u w:World):Prop where
 up:UpL G u w
 ty:TyK u w
theorem Mk.refl {G:Nat->Prop} (u:World):Mk G u u:=⟨UpL.refl,TyK.refl u⟩
theorem Mk.set {G:Nat->Prop} {u w:World} (h:Mk G u w) (g i:Nat) (v:Value) (hg:G g):Mk G u (w.setCell ⟨g,i,none⟩ v):=⟨h.up.Bc _ v fun _=>hg,h.ty.trans (TyK.set w g i v)⟩
theorem Mk.trans {G G':Nat->Prop} {u w w':World} (h:Mk G u w) (k:Mk G' w w') (hg:∀ i,G' i->G i):Mk G u w':=⟨h.up.trans k.up fun i _ e=>hg i e,h.ty.trans k.ty⟩
theorem SI.set {w:World} {b off n j:Nat} {xs:List Int} {t:TypeId} {ds:Array Value} (h:SI w (some ⟨b,off,none⟩) n xs) (hB:Blk w b t ds) (hj:j<n) (v:Int):SI (w.setCell ⟨b,off+j,none⟩ (.int .i64 v)) (some ⟨b,off,none⟩) n (xs.set j v):=by
 refine⟨by rw[List.length_set];exact h.1,fun h0=>?_⟩
 obtain⟨b',off',e,hb,hc⟩:=h.2 h0;injection e with e;injection e with e1 e2;subst e1 e2;refine⟨b,off,rfl,by simpa [World.setCell] using hb,fun i hi=>?_⟩
 have hci:=hc i hi;rw[hB.cell] at hci;have hcj:=hc j hj;rw[hB.cell] at hcj;have hl:=(Array.getElem?_eq_some_iff.1 hcj).1;rw[(hB.dc _ _).cell,Array.getElem?_setIfInBounds,List.getD_eq_getElem?_getD,List.getElem?_set]
 by_cases e:i=j
 ·subst e;rw[if_pos rfl,if_pos hl,if_pos rfl,if_pos (by rw[h.1];exact hi)]
  rfl
 ·rw[if_neg (by omega),if_neg (fun h=>e h.symm),hci,List.getD_eq_getElem?_getD]
structure Fg (wr v:World) (b:Nat) (t:TypeId) (D:Array Value) (o:Nat) (K:Int) (A:Option Addr) (n:Nat):Prop where
 bl:Blk v b t ((D.setIfInBounds o (.int .i64 K)).setIfInBounds (o+1) (.int .i64 (K+1)))
 si:SI v A n (marks (K+1+1) n)
 up:Mk (fun i=>i=b\/(0<n/\blk A=some i)) wr v
theorem Fg.of {wr v:World} {b:Nat} {t:TypeId} {D:Array Value} {o:Nat} {K:Int} {A:Option Addr} {n:Nat} (hB:Blk wr b t D) (hA:0<n->blk A≠some b) (hs:SI v A n (marks (K+1+1) n)) (h:Mk (fun i=>0<n/\blk A=some i) ((wr.setCell ⟨b,o,none⟩ (.int .i64 K)).setCell ⟨b,o+1,none⟩ (.int .i64 (K+1))) v):Fg wr v b t D o K A n:=by
 have h1:=(hB.dc o (.int .i64 K)).dc (o+1) (.int .i64 (K+1))
 exact⟨(h.up.block b h1.lt fun e=>hA e.1 e.2).trans h1,hs,(((Mk.refl wr).set b o _ (.inl rfl)).set b (o+1) _ (.inl rfl)).trans h fun i hi=> .inr hi⟩
theorem MF.far {w w':World} {A:Option Addr} {c b:Nat} {m:Mx} {F:List Nat} (h:MF w A c m F) (hb:b∉F) (hk:∀ g,g≠b->w'.heap[g]?=w.heap[g]?):MF w' A c m F:=h.au fun g hg=>hk g fun e=>hb (e ▸ hg)
theorem TyK.alloc (w:World) (o:Obj):TyK w (w.alloc o):=fun g t cs h=>⟨cs,h.alloc o⟩
end
section
open Go.RowKit Go.ChangeShapes Go.WideShapes Go.ChangeAt
theorem mX (b off k:Nat):(⟨b,off,none⟩:Addr).add k=⟨b,off+k,none⟩:=by
 unfold Addr.add
 by_cases hk:k=0
 ·subst hk;simp
 ·simp[hk]
end
section
attribute [local go_sem] af ah ae
theorem DU {a b:Mx} (h:az a b=true) {x y:Value} (w:World) (hx:RM w x a) (hy:RM w y b):Calls prog 99 #[x,y] w (bD (aE aJ a b) w):=by
 obtain⟨A,c,rfl,h1,_⟩:=hx;obtain⟨B,d,rfl,h2,_⟩:=hy
 exact jw _ _ _ _ _ _ _ _ _ _ _ _ w h1 h2 (by have:=(bt h).2.2;omega) (by have:=(ee h).2;omega)
theorem wW {a b:Mx} (h:az a b=true) {x y:Value} (w:World) (hx:RM w x a) (hy:RM w y b):Calls prog 94 #[x,y] w (bD (aE bC a b) w):=by
 obtain⟨A,c,rfl,h1,_⟩:=hx;obtain⟨B,d,rfl,h2,_⟩:=hy
 exact jx _ _ _ _ _ _ _ _ _ _ _ _ w h1 h2 (by have:=(bt h).2.2;omega) (by have:=(ee h).2;omega)
theorem og {a b:Mx} (h:iz a b=true) {x y:Value} (w:World) (hx:RM w x a) (hy:RM w y b):Calls prog 259 #[x,y] w (bD (mulM a b) w):=by
 obtain⟨A,c,rfl,h1,_⟩:=hx;obtain⟨B,d,rfl,h2,_⟩:=hy
 exact mJ a b h A B c d w h1 h2
theorem gi {p:Mx×Mx} (h:okS p=true) {x:Value} (w:World) (hx:RS w x p):Calls prog 48 #[x] w (bD (aq p) w):=by
 obtain⟨A,B,c,d,rfl,h1,_,_,h2,_⟩:=hx
 exact kL _ _ _ _ _ _ _ _ _ _ _ _ w h1 h2 (by have:=(fs h).1;omega) (by have:=(fs h).2;omega)
theorem qw {a b:Mx} (h:az a b=true) {x y:Value} (w:World) (hx:RM w x a) (hy:RM w y b):Calls prog 134 #[x,y] w fun e w'=>e= .returned (.bool true)/\Below w.heap.size w w':=by
 obtain⟨A,c,rfl,h1,_⟩:=hx;obtain⟨B,d,rfl,h2,_⟩:=hy;have:=eD a.r a.c b.r b.c _ _ A B _ c _ d w h1 h2 (by have:=(bt h).2.2;omega) (by have:=(ee h).2;omega)
 rwa [h] at this
theorem eC {p:Mx×Mx} (h:okS p=true) {x:Value} (w:World) (hx:RS w x p):Calls prog 95 #[x] w (jW p w):=by
 obtain⟨A,B,c,d,rfl,h1,_,_,h2,_⟩:=hx;refine(dR _ _ _ _ _ _ A B _ c _ d w h1 h2 (by have:=(fs h).1;omega) (by have:=(fs h).2;omega)).mono ?_
 rintro e w' ⟨A',B',c',d',rfl,f1,f2,_,hb⟩
 exact⟨A',B',c',d',rfl,f1,f2,hb⟩
theorem iR {p:Mx×Mx} (h:okS p=true) {x:Value} (w:World) (hx:RS w x p):Calls prog 96 #[x] w fun e w'=>e= .returned (.bool true)/\Below w.heap.size w w':=by
 have HK:Hid (az p.1 p.2=true):=h;obtain⟨A,B,c,d,rfl,h1,h2,h3,h4,h5,h6⟩:=hx;have HA:=Qh (RM.mk h1 h2 h3);have HB:=Qh (RM.mk h4 h5 h6);clear h h1 h2 h3 h4 h5 h6;refine zE ?_;intro u1 H;refine zB (qw HK.out u1 (RM.below HA.out H.O) (RM.below HB.out H.O)) ?_;clear H;intro w2 u2 H;refine zR ?_;clear H;intro u3 H
 exact⟨rfl,H.O⟩
theorem tq {m:Mx} (h:mvB m=true) {x y:Value} (w:World) (hx:RM w x m) (hy:RM w y m):Calls prog 290 #[x,y] w fun e w'=>e= .returned (.bool true)/\Below w.heap.size w w':=by
 have hn:=dy h;obtain⟨A,c,rfl,h1,_⟩:=hx;obtain⟨B,d,rfl,h2,_⟩:=hy;obtain⟨a,o,rfl,ha,hc⟩:=h1.2 (by omega)
 obtain⟨a',o',rfl,ha',hc'⟩:=h2.2 (by omega)
 have HC:=Qh hc;have HC':=Qh hc';have HL:=Qh ha;have HL':=Qh ha';clear h h1 h2 hc hc' ha ha';refine zE ?_;intro u1 H
 go_wp2_with fail
 intros
 go_loopw [5] (fun i wr=>∃ j:Nat,j<=m.v.length/\i= .int .i64 j/\Hid (Hq w [qB (w.heap.size+1) 37 [.int .i64 m.r,.int .i64 m.c,.slice (some ⟨a',o',none⟩) m.v.length d],qB w.heap.size 37 [.int .i64 m.r,.int .i64 m.c,.slice (some ⟨a,o,none⟩) m.v.length c]] wr)) (fun i _=>m.v.length-(intOf i).toNat)
 case atStart=>exact⟨0,Nat.zero_le _,rfl,H⟩
 case round =>
 clear H;obtain⟨j,hj,rfl,H⟩:=hrel;have H:=H.out;refine zC ?_;intro C;intros
 by_cases hlt:j<m.v.length
 ·have j0:(0:Int)<=(j:Int):=by omega
  have j1:(j:Int)<(m.v.length:Int):=by omega
  have cx:=(H.O.cell (p:=⟨a,o+j,none⟩) HL.out).trans (HC.out j hlt);have cy:=(H.O.cell (p:=⟨a',o'+j,none⟩) HL'.out).trans (HC'.out j hlt)
  go_wp2_with fail
  go_quiet (fail)
  go_wp2
  go_roundw
  case rel=>exact⟨j+1,by omega,by go_num,H.b (below_drewN Qb _)⟩
  case measure=>simp[intOf];omega
 ·obtain rfl:j=m.v.length:=by omega
  go_wp2
  go_ret
  exact⟨rfl,H.O⟩
theorem iB {a b c:Mx×Mx} (h:TOK a b c) {x:Value} (w:World) (ht:RT w x a b c):Calls prog 261 #[x] w fun e w'=>e= .returned (.bool true)/\Below w.heap.size w w':=by
 obtain⟨A1,A2,B1,B2,C1,C2,p1,p2,q1,q2,r1,r2,rfl,ha,hb,hc⟩:=ht;unfold MTV;obtain⟨h1,h2,h3,h4,h5⟩:=h;have HM:=Qh (eV (eZ h1 h2 h4)).1;have HML:=Qh (eZ h1 h2 h4);have hne:(a.1.c != b.1.r)=false:=by rw[h4];simp
 have HA:=Qh h1;have HB:=Qh h2;have HC:=Qh h3;have H4:=Qh h4;have HJ:=Qh h5;have HX:=Qh ha;have HY:=Qh hb;have HZ:=Qh hc;clear h1 h2 h3 h4 h5 ha hb hc;refine zE ?_;intro u1 H;refine zB (iR HA.out u1 (RS.below HX.out H.O)) ?_;clear H;intro w2 u2 H;refine zB (iR HB.out u2 (RS.below HY.out H.O)) ?_;clear H;intro w3 u3 H;refine zB (iR HC.out u3 (RS.below HZ.out H.O)) ?_;clear H;intro w4 u4 H;refine zX (tg [w.heap.size]) ?_;clear H;intro S w5 hne H;refine zD (H.c 0) ?_;intro G;refine yO (gi HC.out w5 (RS.below HZ.out H.O)) ?_;clear H;intro w6 P cP H;refine yO (gi HA.out w6 (RS.below HX.out H.O)) ?_;clear H;intro w7 Q cQ H;refine yO (gi HB.out w7 (RS.below HY.out H.O)) ?_;clear H;intro w8 R cR H;refine yO (og HML.out w8 (RM.aB (H.o 1)) (RM.aB (H.o 0))) ?_;clear H;intro w9 U cU H;refine yB (tq HM.out w9 (Eq.mp (congrArg (RM _ _) HJ.out) (RM.aB (H.o 3))) (RM.aB (H.o 0))) ?_;clear H;intro w10 H;refine yN ?_;clear H G;intro u11 H;refine zR ?_;clear H;intro u12 H
 exact⟨rfl,H.O⟩
theorem iO {r i c s:Int} (hr:side r=true) (hi:side i=true) (hc:side c=true) (hs:sdB s=true) (w:World):Calls prog 224 #[.int .i64 r,.int .i64 i,.int .i64 c,.int .i64 s] w (xA (ig r i c s).a (ig r i c s).b (ig r i c s).c (oC r i c s) w):=by
 obtain⟨s1,hd1⟩:∃ x,x=sds s (nm r i):=⟨_,rfl⟩;obtain⟨s2,hd2⟩:∃ x,x=sds s1 (nm r i):=⟨_,rfl⟩;obtain⟨s3,hd3⟩:∃ x,x=sds s2 (nm i c):=⟨_,rfl⟩;obtain⟨s4,hd4⟩:∃ x,x=sds s3 (nm i c):=⟨_,rfl⟩;obtain⟨s5,hd5⟩:∃ x,x=sds s4 (nm r c):=⟨_,rfl⟩;obtain⟨ma,hma⟩:∃ x,x=cT r i s:=⟨_,rfl⟩;obtain⟨mb,hmb⟩:∃ x,x=cT r i s1:=⟨_,rfl⟩;obtain⟨mc,hmc⟩:∃ x,x=cT i c s2:=⟨_,rfl⟩;obtain⟨md,hmd⟩:∃ x,x=cT i c s3:=⟨_,rfl⟩;obtain⟨me,hme⟩:∃ x,x=cT r c s4:=⟨_,rfl⟩;have HS1:Hid (sdB s1=true):=hd1 ▸ cS hs _;have HS2:Hid (sdB s2=true):=hd2 ▸ cS HS1.out _;have HS3:Hid (sdB s3=true):=hd3 ▸ cS HS2.out _;have HS4:Hid (sdB s4=true):=hd4 ▸ cS HS3.out _;have oa:okS (ma,mb)=true:=by rw[hma,hmb];exact aY (bU hr hi) (bU hr hi) rfl rfl
 have ob:okS (mc,md)=true:=by rw[hmc,hmd];exact aY (bU hi hc) (bU hi hc) rfl rfl
 have hab:ma.c=mc.r:=by rw[hma,hmc];rfl
 have hmm:=eV (eZ oa ob hab);have hlk:az (mulM (aq (ma,mb)) (aq (mc,md))) me=true:=aY hmm.1 (by rw[hme];exact bU hr hc) (by rw[hmm.2.1,(aN oa).2.1,hme];show ma.r=r;rw[hma];rfl) (by rw[hmm.2.2,(aN ob).2.2,hme];show mc.c=c;rw[hmc];rfl)
 have HT:Hid (ig r i c s=⟨(ma,mb),(mc,md),(me,aE bC (mulM (aq (ma,mb)) (aq (mc,md))) me)⟩):=by
  show ig r i c s=_
  rw[hma,hmb,hmc,hmd,hme,hd4,hd3,hd2,hd1]
  rfl
 have HN:Hid (oC r i c s=s5):=by
  show oC r i c s=_
  rw[hd5,hd4,hd3,hd2,hd1]
  rfl
 have HOA:=Qh oa;have HOB:=Qh ob;have HAB:=Qh hab;have HLK:=Qh hlk;have HR:=Qh hr;have HI:=Qh hi;have HC:=Qh hc;have HS:=Qh hs;have Hma:=Qh hma;have Hmb:=Qh hmb;have Hmc:=Qh hmc;have Hmd:=Qh hmd;have Hme:=Qh hme;have HD1:=Qh hd1;have HD2:=Qh hd2;have HD3:=Qh hd3;have HD4:=Qh hd4;have HD5:=Qh hd5;have HML:=Qh (eZ oa ob hab);clear hr hi hc hs hd1 hd2 hd3 hd4 hd5 hma hmb hmc hmd hme oa ob hab hmm hlk;refine zE ?_;intro u1 H
 go_wp2_with fail
 refine zP (aT _ HR.out u1) ?_;clear H;intro u2 H;refine zP (aT _ HI.out u2) ?_;clear H;intro u3 H;refine zP (aT _ HC.out u3) ?_;clear H;intro u4 H;refine zP (cz _ HS.out u4) ?_;clear H;intro u5 H;refine zO ((show Calls prog 93 #[_,_,_] u5 (ij ma s1 u5) from by rw[Hma.out,HD1.out];exact b9 HR.out HI.out HS.out u5)) ?_;clear H;intro w6 P0 n0 u6 H
 refine zO ((show Calls prog 93 #[_,_,_] u6 (ij mb s2 u6) from by rw[Hmb.out,HD2.out];exact b9 HR.out HI.out HS1.out u6)) ?_;clear H;intro w7 P1 n1 u7 H
 refine zO ((show Calls prog 93 #[_,_,_] u7 (ij mc s3 u7) from by rw[Hmc.out,HD3.out];exact b9 HI.out HC.out HS2.out u7)) ?_;clear H;intro w8 P2 n2 u8 H
 refine zO ((show Calls prog 93 #[_,_,_] u8 (ij md s4 u8) from by rw[Hmd.out,HD4.out];exact b9 HI.out HC.out HS3.out u8)) ?_;clear H;intro w9 P3 n3 u9 H
 refine zG ((show Calls prog 93 #[_,_,_] u9 (ij me s5 u9) from by rw[Hme.out,HD5.out];exact b9 HR.out HC.out HS4.out u9)) ?_
 rintro e w10 ⟨P4,n4,rfl,hos,hb⟩;replace H:=H.os hb hos;clear hb;refine zC ?_;intro C;intros;go_upto_region 8 with fail;refine zM ?_;clear H C;intro u11 H;refine zU (tg [w9.heap.size,w8.heap.size,w7.heap.size,w6.heap.size]) ?_;clear H;intro S w12 hne H;refine zD ((And.intro (H.c 2) (And.intro (H.c 4) (And.intro (H.c 6) (H.c 8))))) ?_;intro G;refine yM ?_;clear H;intro w13 H;refine yS ?_;clear H;intro w14 H;refine yN ?_;clear H G;intro u15 H;refine zXZ (tg [w12.heap.size,w10.heap.size]) ?_;clear H;intro S w16 hne H;refine zD ((And.intro (H.c 0) (H.c 1))) ?_;intro G;refine yO (gi HOA.out w16 (RS.aB (p:=(ma,mb)) (H.o 10) (H.o 8))) ?_;clear H;intro w17 J1 e1 H;refine yO (gi HOB.out w17 (RS.aB (p:=(mc,md)) (H.o 7) (H.o 5))) ?_;clear H;intro w18 J2 e2 H;refine yO (og HML.out w18 (RM.aB (H.o 1)) (RM.aB (H.o 0))) ?_;clear H;intro w19 J3 e3 H;refine yO (wW HLK.out w19 (RM.aB (H.o 0)) (RM.aB (H.o 5))) ?_;clear H;intro w20 Q cQ H;intros;refine zCr ?_;intro C;intros
 repeat (first|(refine lc' ?_;intro K hK;go_big_quiet_op;go_big_quiet_on)|refine lk' ?_)
 refine aV rfl (by rfl) (by rfl) (fun K hK=>?_)
 unfold Oper.gives
 go_simp
 refine hK _ _ ?_;replace H:=H.H;refine aI ?_;clear C G;refine zC ?_;intro C;intros
 go_wp2_with (with_reducible refine lT 244 rfl ?_)
 refine zM ?_;clear H C;intro u21 H;intros;refine Qh ?_;refine b_ (by rfl) rfl rfl (H.k 4) underlying244 rfl (by kernel_rfl) ?_
 refine zC ?_;intro C;intros
 go_wp2_with (with_reducible refine gn 244 rfl ?_)
 refine zM ?_;clear H C;intro u22 H;intros;refine Qh ?_;refine zSt ?_;clear H;intro w22 H;refine zS_ ?_;clear H;intro u23 H
 exact(by rw[HT.out,HN.out];exact⟨P0,P1,P2,P3,P4,Q,n0,n1,n2,n3,n4,cQ,rfl,(H.o 14),(H.o 12),(H.o 10),(H.o 8),(H.o 6),(H.o 0),H.O⟩)
end
section
attribute [local go_sem] af ah ae
def Bs (a b c:Mx×Mx) (w:World) (e:Ending) (w':World):Prop:=∃ A1 A2 B1 B2 C1 C2 p1 p2 q1 q2 r1 r2,e= .returned (MTV a b c A1 A2 B1 B2 C1 C2 p1 p2 q1 q2 r1 r2)/\(OS w' w.heap.size A1 a.1.v.length p1 a.1.v/\OS w' w.heap.size A2 a.2.v.length p2 a.2.v)/\(OS w' w.heap.size B1 b.1.v.length q1 b.1.v/\OS w' w.heap.size B2 b.2.v.length q2 b.2.v)/\(OS w' w.heap.size C1 c.1.v.length r1 c.1.v/\OS w' w.heap.size C2 c.2.v.length r2 c.2.v)/\Below w.heap.size w w'
theorem A_ {a b c:Mx×Mx} (h1:okS a=true) (h2:okS b=true) (h3:okS c=true) {x:Value} (w:World) (ht:RT w x a b c):Calls prog 260 #[x] w (Bs a b c w):=by
 obtain⟨A1,A2,B1,B2,C1,C2,p1,p2,q1,q2,r1,r2,rfl,ha,hb,hc⟩:=ht;unfold MTV;have HOa:=Qh h1;have HOb:=Qh h2;have HOc:=Qh h3;have HA:=Qh ha;have HB:=Qh hb;have HC:=Qh hc;clear h1 h2 h3 ha hb hc
 go_in;have H:=Hq.start w
 go_upto_region 1 with fail;refine zM ?_;clear H;intro u2 H
 refine zU (tg [w.heap.size]) ?_;clear H;intro S w3 hne H;refine zD (H.c 1) ?_;intro G;intros;refine lc' fun K hK=>?_
 refine ev rfl rfl (H.bl (H.k 1) (by simp)) underlying244 rfl (by kernel_rfl) ?_
 go_simp
 refine hK _ ?_;refine yM ?_;clear H;intro w4 H;refine yS ?_;clear H;intro w5 H;refine yN ?_;clear H G;intro u6 H;refine zW (eC HOa.out u6 (RS.below HA.out H.O)) ?_;clear H;intro w7 P1 P2 k1 k2 u7 H;refine zW (eC HOb.out u7 (RS.below HB.out H.O)) ?_;clear H;intro w8 P3 P4 k3 k4 u8 H;refine zG (eC HOc.out u8 (RS.below HC.out H.O)) ?_;rintro e w9 ⟨P5,P6,k5,k6,rfl,f1,f2,hb⟩;replace H:=H.ss hb f1 f2;clear hb;refine zC ?_;intro C;intros;go_upto_region 5 with fail;refine zM ?_;clear H C;intro u10 H;refine zU (tg [w3.heap.size]) ?_;clear H;intro S w11 hne H;refine zD (H.c 3) ?_;intro G;intros;refine lc' fun K hK=>?_
 refine ev rfl rfl (H.bl (H.k 3) (by simp)) underlying244 rfl (by kernel_rfl) ?_
 go_simp
 refine hK _ ?_;refine yS ?_;clear H;intro w12 H;refine yN ?_;clear H G;intro u13 H;refine zS_ ?_;clear H;intro u14 H
 exact⟨P1,P2,P3,P4,P5,P6,k1,k2,k3,k4,k5,k6,rfl,(H.p 2),(H.p 1),(H.p 0),H.O⟩
theorem iC {x y:Mx×Mx} {t:MTr} (hP:POK x y t) {u v z:Value} (w:World) (hx:RS w u x) (hy:RS w v y) (ht:RT w z t.a t.b t.c):Calls prog 225 #[u,v,z] w (vz x y t w):=by
 have HX:=Qh hx;have HY:=Qh hy;have HT:=Qh ht;have HP:=Qh hP;obtain⟨X1,X2,x1,x2,rfl,-⟩:=hx;obtain⟨Y1,Y2,y1,y2,rfl,-⟩:=hy;obtain⟨TA1,TA2,TB1,TB2,TC1,TC2,p1,p2,q1,q2,r1,r2,rfl,-⟩:=ht;clear hP;unfold MTV;refine zE ?_;intro u1 H;refine zW (eC HP.out.ox u1 (RS.below HX.out H.O)) ?_;clear H;intro w2 U1 U2 ux1 ux2 u2 H;refine zG (eC HP.out.oy u2 (RS.below HY.out H.O)) ?_;rintro e w3 ⟨V1,V2,vy1,vy2,rfl,f1,f2,hb⟩;replace H:=H.ss hb f1 f2;clear hb;refine zC ?_;intro C;intros;go_upto_region 3 with fail;refine zM ?_;clear H C;intro u4 H;refine zUZ (tg [w.heap.size+2]) ?_;clear H;intro S w5 hne H;refine zD (H.c 5) ?_;intro G;intros;refine lc' fun K hK=>?_
 refine ev rfl rfl (H.bl (H.k 5) (by simp)) underlying244 rfl (by kernel_rfl) ?_
 go_simp
 refine hK _ ?_;intros;refine y_ (A_ HP.out.tk.va HP.out.tk.vb HP.out.tk.vc w5 (RT.below HT.out H.O)) ?_;rintro K hK e w6 ⟨P1,P2,P3,P4,P5,P6,k1,k2,k3,k4,k5,k6,rfl,f1,f2,f3,hb⟩;replace H:=H.tt hb f1 f2 f3;refine yK ?_;clear hK K;refine yZ ?_;clear H G;intro w7 u7 H;refine zB (iR HP.out.ox u7 (H.rs 2)) ?_;clear H;intro w8 u8 H;refine zG (iR HP.out.oy u8 (H.rs 1)) ?_;rintro e w9 ⟨rfl,hb⟩;replace H:=H.b hb;clear hb;refine zC ?_;intro C;intros
 go_wp2_with (with_reducible refine lT 244 rfl ?_)
 refine zM ?_;clear H C;intro u10 H;intros;refine Qh ?_;refine b_ (by rfl) rfl rfl (H.k 6) underlying244 rfl (by kernel_rfl) ?_
 refine zN ?_;clear H;intro u11 H;refine zB (iB HP.out.tk u11 (wU (qS.rs (Ow.P1 (H.p 0))) (qS.rs (Ow.P1 (Ow.P2 (H.p 0)))) (qS.rs (Ow.P2 (Ow.P2 (H.p 0)))))) ?_;clear H;intro w12 u12 H;refine zB (qw (aY (ai HP.out.ox).1 (ai HP.out.tk.va).1 HP.out.ar HP.out.ac) u12 ((H.rs 2).m1) ((qS.rs (Ow.P1 (H.p 0))).m1)) ?_;clear H;intro w13 u13 H;refine zB (qw (aY (ai HP.out.oy).1 (ai HP.out.tk.vb).1 HP.out.br HP.out.bc) u13 ((H.rs 1).m1) ((qS.rs (Ow.P1 (Ow.P2 (H.p 0)))).m1)) ?_;clear H;intro w14 u14 H;have E:=H.el;refine zXF (tgF [w.heap.size+2,w.heap.size] 6 10 (.cells #[.int .i64 0,.int .i64 0,.slice none 0 0] 37)) ?_;clear H;intro S w15 hne H;refine zD ((And.intro (H.c 6) (H.c 8))) ?_;intro G;refine fO (fun w16 (hb:Bw w15 w16)=>gi HP.out.ox w16 ((H.b hb).rs 2)) ?_;clear H;intro w17 Q1 cQ1 H
 refine fO (fun w18 (hb:Bw w17 w18)=>gi HP.out.tk.va w18 (qS.rs (Ow.P1 ((H.b hb).p 1)))) ?_;clear H;intro w19 Q2 cQ2 H
 refine fO (fun w20 (hb:Bw w19 w20)=>(show Calls prog 94 #[_,_] w20 (bD (pD x t) w20) from wW HP.out.ld w20 (RM.aB ((H.b hb).o 1)) (RM.aB ((H.b hb).o 0)))) ?_;clear H;intro w21 D1 cD1 H
 refine yG ?_;clear H;intro w22 g22 hg22 H;refine yS ?_;clear H;intro w23 H;refine yN ?_;clear H G;intro u24 H;replace H:=H.d 3;replace H:=H.d 2;replace H:=H.d 4;have E:=H.el;refine zXF (tgF [w.heap.size+2,w.heap.size+1] 6 11 (.cells #[.int .i64 0,.int .i64 0,.slice none 0 0] 37)) ?_;clear H;intro S w25 hne H;refine zD ((And.intro (H.c 7) (H.c 8))) ?_;intro G;refine fO (fun w26 (hb:Bw w25 w26)=>gi HP.out.oy w26 ((H.b hb).rs 3)) ?_;clear H;intro w27 Q1 cQ1 H
 refine fO (fun w28 (hb:Bw w27 w28)=>gi HP.out.tk.vb w28 (qS.rs (Ow.P1 (Ow.P2 ((H.b hb).p 3))))) ?_;clear H;intro w29 Q2 cQ2 H
 refine fO (fun w30 (hb:Bw w29 w30)=>(show Calls prog 94 #[_,_] w30 (bD (pE y t) w30) from wW HP.out.le w30 (RM.aB ((H.b hb).o 1)) (RM.aB ((H.b hb).o 0)))) ?_;clear H;intro w31 E1 cE1 H
 refine yG ?_;clear H;intro w32 g32 hg32 H;refine yS ?_;clear H;intro w33 H;refine yN ?_;clear H G;intro u34 H;replace H:=H.d 3;replace H:=H.d 2;replace H:=H.d 5;have E:=H.el;refine zXF (tgF [g32,g22,w.heap.size+2] 15 12 (.cells #[.int .i64 0,.int .i64 0,.slice none 0 0] 37)) ?_;clear H;intro S w35 hne H;refine zD ((And.intro (H.c 0) (And.intro (H.c 2) (H.c 8)))) ?_;intro G;refine fO (fun w36 (hb:Bw w35 w36)=>og HP.out.db1 w36 (RM.aB ((H.b hb).o 3)) ((qS.rs (Ow.P1 (Ow.P2 ((H.b hb).p 4)))).m1)) ?_;clear H;intro w37 Q1 cQ1 H
 refine fO (fun w38 (hb:Bw w37 w38)=>DU HP.out.c1 w38 ((qS.rs (Ow.P2 (Ow.P2 ((H.b hb).p 5)))).m1) (RM.aB ((H.b hb).o 0))) ?_;clear H;intro w39 Q2 cQ2 H
 refine fO (fun w40 (hb:Bw w39 w40)=>og HP.out.ae1 w40 ((qS.rs (Ow.P1 ((H.b hb).p 6))).m1) (RM.aB ((H.b hb).o 3))) ?_;clear H;intro w41 Q3 cQ3 H
 refine fO (fun w42 (hb:Bw w41 w42)=>(show Calls prog 99 #[_,_] w42 (bD (sb t.c.1 (pD x t) t.b.1 t.a.1 (pE y t)) w42) from DU HP.out.s1 w42 (RM.aB ((H.b hb).o 1)) (RM.aB ((H.b hb).o 0)))) ?_;clear H;intro w43 O1 cO1 H
 refine yG ?_;clear H;intro w44 g44 hg44 H;refine yS ?_;clear H;intro w45 H;refine yN ?_;clear H G;intro u46 H;replace H:=H.d 4;replace H:=H.d 3;replace H:=H.d 2;have E:=H.el;refine zXF (tgF [g32,g22,w.heap.size+2] 15 13 (.cells #[.int .i64 0,.int .i64 0,.slice none 0 0] 37)) ?_;clear H;intro S w47 hne H;refine zD ((And.intro (H.c 2) (And.intro (H.c 4) (H.c 10)))) ?_;intro G;refine fO (fun w48 (hb:Bw w47 w48)=>og HP.out.db2 w48 (RM.aB ((H.b hb).o 5)) ((qS.rs (Ow.P1 (Ow.P2 ((H.b hb).p 6)))).m2)) ?_;clear H;intro w49 Q1 cQ1 H
 refine fO (fun w50 (hb:Bw w49 w50)=>DU HP.out.c2 w50 ((qS.rs (Ow.P2 (Ow.P2 ((H.b hb).p 7)))).m2) (RM.aB ((H.b hb).o 0))) ?_;clear H;intro w51 Q2 cQ2 H
 refine fO (fun w52 (hb:Bw w51 w52)=>og HP.out.ae2 w52 ((qS.rs (Ow.P1 ((H.b hb).p 8))).m2) (RM.aB ((H.b hb).o 5))) ?_;clear H;intro w53 Q3 cQ3 H
 refine fO (fun w54 (hb:Bw w53 w54)=>(show Calls prog 99 #[_,_] w54 (bD (sb t.c.2 (pD x t) t.b.2 t.a.2 (pE y t)) w54) from DU HP.out.s2 w54 (RM.aB ((H.b hb).o 1)) (RM.aB ((H.b hb).o 0)))) ?_;clear H;intro w55 O2 cO2 H
 refine yG ?_;clear H;intro w56 g56 hg56 H;refine yS ?_;clear H;intro w57 H;refine yN ?_;clear H G;intro u58 H;replace H:=H.d 4;replace H:=H.d 3;replace H:=H.d 2;refine zX (tg [g56,g44,g32,g22]) ?_;clear H;intro S w59 hne H;refine zD ((And.intro (H.c 0) (And.intro (H.c 2) (And.intro (H.c 4) (H.c 6))))) ?_;intro G;refine yO (og HP.out.de w59 (RM.aB (H.o 7)) (RM.aB (H.o 5))) ?_;clear H;intro w60 Q1 cQ1 H;refine yO ((show Calls prog 99 #[_,_] w60 (bD (dw x y t) w60) from DU HP.out.l1 w60 (RM.aB (H.o 4)) (RM.aB (H.o 0)))) ?_;clear H;intro w61 Q2 cQ2 H
 refine yS ?_;clear H;intro w62 H;refine yS ?_;clear H;intro w63 H;refine yS ?_;clear H;intro w64 H;refine yN ?_;clear H G;intro u65 H;go_wp2
 exact bodyPost_ret (mh rfl rfl rfl rfl (H.k 13) (H.k 12) (H.k 11) underlying82 underlying37 underlying37 rfl rfl rfl (by kernel_rfl) (by kernel_rfl) (by kernel_rfl)) rfl ⟨Q2,O2,D1,E1,cQ2,cO2,cD1,cE1,rfl,(H.o 0),(H.o 3),(H.o 9),(H.o 7),H.O⟩
end
theorem oq (a:Mx) (ha:mvB a=true) (A1:Option Addr) (p1:Nat) (w:World) (hx0:SI w A1 a.v.length a.v) :
  Calls prog 234 #[MV a.r a.c A1 a.v.length p1] w (bD (ir a) w):=by
 obtain⟨ar,ac,v1⟩:=a
 dsimp only at hx0 ⊢
 obtain⟨la,sar,sac,_⟩:=cZ ha
 dsimp only at la sar sac
 obtain⟨r1,rfl,r11,r12⟩:=toN (bI sar);obtain⟨c1,rfl,c11,c12⟩:=toN (bI sac);have la':v1.length=r1*c1:=by exact_mod_cast la
 have hla:v1.length<=25:=by rw[la'];exact Nat.mul_le_mul r12 c12
 have pla:0<v1.length:=by rw[la'];exact Nat.mul_pos r11 c11
 have hlX:v1.length<=1048576:=by omega
 have HX:=Qh hx0;have MX:=Qh ha;have LX:=Qh la';obtain⟨F,hF⟩:∃ F:Nat->Int,F=fun i=>v1.getD (i%r1*c1+i/r1) 0:=⟨_,rfl⟩
 have HM:Hid (ir ⟨(r1:Int),(c1:Int),v1⟩=⟨(c1:Int),(r1:Int),fl F (c1*r1)⟩):=by rw[hF];exact qN ha
 have HF:Hid (∀ q r,r<r1->v1.getD (r*c1+q) 0=F (q*r1+r)):=by
  intro q r h;rw[hF]
  dsimp only
  rw[(mP h).1,(mP h).2]
 clear la la' sar sac hx0 ha hF;refine zE ?_;intro u1 H;refine zG (aQ (r1:Int) (c1:Int) v1 A1 _ p1 u1 (SI.below HX.out H.O) hlX) ?_;rintro e w2 ⟨AX,cX,rfl,hos,hb⟩;replace H:=H.os hb hos
 dsimp only at H ⊢
 refine zN ?_;clear H;intro u3 H;refine zB ((show Calls prog 89 #[_] u3 (fun e w'=>e= .returned (.bool true)/\Below u3.heap.size u3 w') from(show mvB ⟨(r1:Int),(c1:Int),v1⟩=true from MX.out) ▸ aM (r1:Int) (c1:Int) v1 AX _ cX u3 (OS.si (H.o 0)) (by omega))) ?_;clear H;intro w4 u4 H
 replace H:=H.nil;obtain⟨gT,hgT⟩:∃ g,g=w4.heap.size:=⟨_,rfl⟩;rw[<-hgT] at H ⊢;clear hgT;obtain⟨gX,rfl,_,_⟩:=(H.o 2).pos (by omega)
 intros
 go_loopw [4] (fun i wr=>∃ (p J c':Nat) (A':Option Addr),p<=c1/\i= .int .i64 p/\J=p*r1/\Hid (Hq w [qO w.heap.size A' J c' (fl F J),qB gT 37 [.int .i64 (c1:Int),.int .i64 (r1:Int),.slice A' J c'],qO w.heap.size (some ⟨gX,0,none⟩) v1.length cX v1,qB (w.heap.size+1) 37 [.int .i64 0,.int .i64 0,.slice none 0 0],qB w.heap.size 37 [.int .i64 (r1:Int),.int .i64 (c1:Int),.slice (some ⟨gX,0,none⟩) v1.length cX]] wr)) (fun i _=>c1-(intOf i).toNat)
 case atStart=>exact⟨0,0,0,none,Nat.zero_le _,rfl,by omega,H⟩
 case round =>
 clear H;obtain⟨p,J,c',A',hp,rfl,hJ,H⟩:=hrel;have HJ:=Qh hJ;clear hJ;have H:=H.out
 by_cases hpc:p<c1
 ·refine zN ?_;clear H;intro u H;intros
  go_loopw [5] (fun i wr=>∃ (r J c':Nat) (A':Option Addr),r<=r1/\i= .int .i64 r/\J=p*r1+r/\Hid (Hq w [qO w.heap.size A' J c' (fl F J),qB gT 37 [.int .i64 (c1:Int),.int .i64 (r1:Int),.slice A' J c'],qO w.heap.size (some ⟨gX,0,none⟩) v1.length cX v1,qB (w.heap.size+1) 37 [.int .i64 0,.int .i64 0,.slice none 0 0],qB w.heap.size 37 [.int .i64 (r1:Int),.int .i64 (c1:Int),.slice (some ⟨gX,0,none⟩) v1.length cX]] wr)) (fun i _=>r1-(intOf i).toNat)
  case atStart=>exact⟨0,J,c',A',Nat.zero_le _,rfl,by have:=HJ.out;omega,H⟩
  case round =>
  clear H;obtain⟨r,J,c',A',hr,rfl,hJ,H⟩:=hrel;have HJ:=Qh hJ;clear hJ;have H:=H.out
  by_cases hlt:r<r1
  ·have J25:J<25:=by rw[HJ.out];exact vY (e9 hpc hlt) c12 r12
   have hi1:r*c1+p<v1.length:=by rw[LX.out];exact e9 hlt hpc
   have HFJ:=HF.out p r hlt;obtain⟨i1,hi1e,m1,w1,t1,j1,j2⟩:=ub hi1 hla;rw[<-HJ.out,hi1e] at HFJ;rw[hi1e] at hi1;clear hi1e;obtain⟨v,hv⟩:∃ v,v=v1.getD (i1+p) 0:=⟨_,rfl⟩;have Ev:=Qh hv;rw[<-hv] at HFJ;have HS:Hid (fl F J++[v]=fl F (J+1)):=by rw[HFJ];exact(dd F J).symm
   clear hv HFJ;refine zC ?_;intro C;intros;go_upto_region 11 with fail;refine zM ?_;clear H C;intro u21 H;have ezX:=(a7 (H.o 2) hi1).1;refine zXZ (tg [gT,w.heap.size,gX]) ?_;clear H;intro S w22 hne H;refine zD ((And.intro (H.c 1) (H.c 4))) ?_;intro G;have rX:=(a7 (H.o 2) hi1).2.1;rw[<-Ev.out] at rX;replace rX:=H.row rX;refine yM ?_;clear H;intro w23 H;replace H:=H.r 1;refine yA (dQ (H.k 1)) True.intro ?_;clear H;intro C1 k1 w24 H;intros;refine zCr ?_;intro C;intros
   repeat (first|(refine lc' ?_;intro K hK;go_big_quiet_op;go_big_quiet_on)|refine lk' ?_)
   refine aV rfl (by rfl) (by rfl) (fun K hK=>?_)
   unfold Oper.gives
   go_simp
   refine hK _ _ ?_;replace H:=H.H;refine aI ?_;clear C G;replace H:=((((((H.d 1).r 4).r 4).r 4).r 4).r 4);refine zC ?_;intro C;intros;go_wp2
   go_roundw
   case rel=>exact⟨r+1,J+1,k1,C1,by omega,by go_num,by have:=HJ.out;omega,(by rw[HS.out] at H;exact(Qh hq))⟩
   case measure=>simp[intOf];omega
  ·obtain rfl:r=r1:=by omega
   replace H:=(((((H.r 4).r 4).r 4).r 4).r 4);refine zC ?_;intro C;intros;go_wp2
   go_roundw
   case rel=>exact⟨p+1,J,c',A',by omega,by go_num,by rw[Nat.succ_mul];have:=HJ.out;omega,H⟩
   case measure=>simp[intOf];omega
 ·obtain rfl:p=c1:=by omega
  refine zS_ ?_;clear H;intro u91 H
  exact(by rw[HM.out,<-HJ.out];exact⟨A',c',by dsimp only;rw[aD],by dsimp only;rw[aD];exact(H.o 0),H.O⟩)
section
attribute [local go_sem] af ah ae
theorem vi {a b:Mx×Mx} (ha:okS a=true) (hb:okS b=true) (h1:a.1.r=b.1.r) (h2:a.1.c=b.1.c) {u v:Value} (w:World) (hx:RS w u a) (hy:RS w v b):Calls prog 185 #[u,v] w (jW (jX a b) w):=by
 have HL1:=Qh (aY (ai ha).1 (ai hb).1 h1 h2);have HL2:=Qh (aY (ai ha).2.1 (ai hb).2.1 (by rw[<-(ai ha).2.2.1,<-(ai hb).2.2.1,h1]) (by rw[<-(ai ha).2.2.2,<-(ai hb).2.2.2,h2]))
 have HHX:=Qh hx;obtain⟨A1,A2,p1,p2,rfl,-⟩:=hx;have HHY:=Qh hy;obtain⟨B1,B2,q1,q2,rfl,-⟩:=hy;clear h1 h2;have HA:=Qh ha;have HB:=Qh hb;clear ha hb;refine zE ?_;intro u1 H;refine zW (eC HA.out u1 (RS.below HHX.out H.O)) ?_;clear H;intro w2 FX1 FX2 fxc fxd u2 H;refine zW (eC HB.out u2 (RS.below HHY.out H.O)) ?_;clear H;intro w3 FY1 FY2 fyc fyd u3 H;refine zB (iR HA.out u3 (H.rs 1)) ?_;clear H;intro w4 u4 H;refine zB (iR HB.out u4 (H.rs 0)) ?_;clear H;intro w5 u5 H;refine zB (qw HL1.out u5 (H.rs 1).m1 (H.rs 0).m1) ?_;clear H;intro w6 u6 H;refine zX (tg [w.heap.size+1,w.heap.size]) ?_;clear H;intro S w7 hne H;refine zD ((And.intro (H.c 3) (H.c 4))) ?_;intro G;refine yO (DU HL1.out w7 (H.rs 1).m1 (H.rs 0).m1) ?_;clear H;intro w8 P cP H;refine yO (DU HL2.out w8 (H.rs 2).m2 (H.rs 1).m2) ?_;clear H;intro w9 Q cQ H;refine yS ?_;clear H;intro w10 H;refine yN ?_;clear H G;intro u11 H;refine zS_ ?_;clear H;intro u12 H
 exact⟨P,Q,cP,cQ,rfl,(H.o 1),(H.o 0),H.O⟩
theorem wX {m:Mx} (h:mvB m=true) {x:Value} (w:World) (hx:RM w x m):Calls prog 234 #[x] w (bD (ir m) w):=by
 obtain⟨A,c,rfl,h1,_⟩:=hx
 exact oq m h A c w h1
theorem ot {p:Mx×Mx} (hp:okS p=true) {x:Value} (w:World) (hx:RS w x p):Calls prog 191 #[x] w (jW (jz p) w):=by
 have HP1:=Qh (ai hp).1;have HP2:=Qh (ai hp).2.1;have HHX:=Qh hx;obtain⟨A1,A2,p1,p2,rfl,-⟩:=hx;have HP:=Qh hp;clear hp;refine zE ?_;intro u1 H;refine zW (eC HP.out u1 (RS.below HHX.out H.O)) ?_;clear H;intro w2 FX1 FX2 fxc fxd u2 H;refine zB (iR HP.out u2 (H.rs 0)) ?_;clear H;intro w3 u3 H;refine zX (tg [w.heap.size]) ?_;clear H;intro S w4 hne H;refine zD (H.c 2) ?_;intro G;refine yO (wX HP1.out w4 (H.rs 0).m1) ?_;clear H;intro w5 P cP H;refine yO (wX HP2.out w5 (H.rs 1).m2) ?_;clear H;intro w6 Q cQ H;refine yS ?_;clear H;intro w7 H;refine yN ?_;clear H G;intro u8 H;refine zS_ ?_;clear H;intro u9 H
 exact⟨P,Q,cP,cQ,rfl,(H.o 1),(H.o 0),H.O⟩
def vA (z x y:Mx×Mx) (t:MTr) (w:World) (e:Ending) (w':World):Prop:=∃ A B D E c1 c2 d e',e= .returned (.tuple #[SMV z.1.r z.1.c A z.1.v.length c1 z.2.r z.2.c B z.2.v.length c2,MV (pD x t).r (pD x t).c D (pD x t).v.length d,MV (pE y t).r (pE y t).c E (pE y t).v.length e',.bool true])/\OS w' w.heap.size A z.1.v.length c1 z.1.v/\OS w' w.heap.size B z.2.v.length c2 z.2.v/\OS w' w.heap.size D (pD x t).v.length d (pD x t).v/\OS w' w.heap.size E (pE y t).v.length e' (pE y t).v/\Below w.heap.size w w'
theorem AH {f:FuncId} {ar:Array Value} {x y:Mx×Mx} {t:MTr} {w:World} (h:Calls prog f ar w (vz x y t w)):Calls prog f ar w (vA (dw x y t,dF x y t) x y t w):=h.mono fun _ _ h=>h
theorem fV {x y:Mx×Mx} {s:Int} (ha:okS x=true) (hb:okS y=true) (hxy:x.1.c=y.1.r) (hs:sdB s=true) {u v:Value} (w:World) (hx:RS w u x) (hy:RS w v y) :
  Calls prog 184 #[u,v,.int .i64 s] w (bo (dG x y s).1 (dG x y s).2 50 w):=by
 obtain⟨t,ht⟩:∃ t,t=ig x.1.r x.1.c y.1.c s:=⟨_,rfl⟩;obtain⟨n,hn⟩:∃ n,n=oC x.1.r x.1.c y.1.c s:=⟨_,rfl⟩;have hpk:POK x y t:=ht ▸ qq ha hb hxy;obtain⟨z,hz⟩:∃ z,z=(dw x y t,dF x y t):=⟨_,rfl⟩;have HPR:Hid (dG x y s=(z,n)):=by unfold Hid dG;rw[hz,<-ht,<-hn]
 rw[HPR.out];have HN1:=Qh (dy hpk.d.1);have HN2:=Qh (dy hpk.e.1);have HR:=Qh (aA (ai ha).1).1;have HC:=Qh (aA (ai ha).1).2;have HD:=Qh (aA (ai hb).1).2;have hne:(x.1.c != y.1.r)=false:=by rw[hxy];simp
 have HHX:=Qh hx;obtain⟨A1,A2,p1,p2,rfl,-⟩:=hx;have HHY:=Qh hy;obtain⟨B1,B2,q1,q2,rfl,-⟩:=hy;have HT:=Qh ht;have HN:=Qh hn;have HZ:=Qh hz;have HPK:=Qh hpk;have HS:=Qh hs;have HA:=Qh ha;have HB:=Qh hb;have HXY:=Qh hxy;clear ht hn hz hpk hs ha hb hxy;refine zE ?_;intro u1 H;refine zW (eC HA.out u1 (RS.below HHX.out H.O)) ?_;clear H;intro w2 FX1 FX2 fxc fxd u2 H;refine zW (eC HB.out u2 (RS.below HHY.out H.O)) ?_;clear H;intro w3 FY1 FY2 fyc fyd u3 H;refine zB (iR HA.out u3 (H.rs 1)) ?_;clear H;intro w4 u4 H;refine zB (iR HB.out u4 (H.rs 0)) ?_;clear H;intro w5 u5 H;refine zG (cz _ HS.out u5) ?_;rintro e w' ⟨rfl,rfl⟩;refine zC ?_;intro C;intros;go_upto_region 5 with fail;refine zM ?_;clear H C;intro u7 H;refine zU (tg [w.heap.size+1,w.heap.size]) ?_;clear H;intro S w8 hne H;refine zD ((And.intro (H.c 3) (H.c 4))) ?_;intro G;intros;refine y_ ((show Calls prog 224 #[_,_,_,_] w8 (xA t.a t.b t.c n w8) from by rw[HT.out,HN.out];exact iO HR.out HC.out HD.out HS.out w8)) ?_
 rintro K hK e w9 ⟨T1,T2,T3,T4,T5,T6,k1,k2,k3,k4,k5,k6,rfl,f1,f2,f3,f4,f5,f6,hb⟩;replace H:=H.tt hb ⟨f1,f2⟩ ⟨f3,f4⟩ ⟨f5,f6⟩;refine yK ?_;clear hK K;refine yM ?_;clear H;intro w10 H;refine yS ?_;clear H;intro w11 H;intros
 repeat (first|(refine lc' ?_;intro K hK;go_big_quiet_op;go_big_quiet_on)|refine lk' ?_)
 refine aI ?_;replace H:=H.H;clear G;refine zC ?_;intro C;intros
 go_wp2_with (with_reducible refine lT 244 rfl ?_)
 refine zM ?_;clear H C;intro u13 H;intros;refine Qh ?_;refine b_ (by rfl) rfl rfl (H.k 0) underlying244 rfl (by kernel_rfl) ?_
 refine zN ?_;clear H;intro u14 H;refine zV ((show Calls prog 225 #[_,_,_] u14 (vA z x y t u14) from by rw[HZ.out];exact AH (iC HPK.out u14 (H.rs 3) (H.rs 2) (wU (qS.rs (Ow.P1 (H.p 1))) (qS.rs (Ow.P1 (Ow.P2 (H.p 1)))) (qS.rs (Ow.P2 (Ow.P2 (H.p 1)))))))) ?_;clear H;intro w15 PA PB PD PE ca cb cd ce u15 H
 replace H:=H.d 5;replace H:=H.d 6;replace H:=H.d 5;refine zX (tg [w15.heap.size+2,w15.heap.size+1,w15.heap.size]) ?_;clear H;intro S w16 hne H;refine zD ((And.intro (H.c 0) (And.intro (H.c 1) (H.c 2)))) ?_;intro G;refine yE ?_;clear H;intro w17 H;refine yA (OS.si (Ow.P1 (Ow.P2 (H.p 4)))) HN1.out ?_;clear H;intro C1 e1 w18 H;refine yA (OS.si (Ow.P2 (Ow.P2 (H.p 4)))) ((And.intro HN1.out HN2.out)) ?_;clear H;intro C2 e2 w19 H;refine yS ?_;clear H;intro w20 H;refine yN ?_;clear H G;intro u21 H;refine zS_ ?_;clear H;intro u22 H
 exact⟨PA,ca,PB,cb,C2,_,e2,_,rfl,(qS.a (Ow.P1 (H.p 4))),(qS.b (Ow.P1 (H.p 4))),(H.o 0),(by have:=HN1.out;have:=HN2.out;omega),H.O⟩
end
section
attribute [local go_sem] af ah ae
theorem eg (n:Int) (h0: -5000<=n) (h1:n<=5000) (w:World):Calls prog 263 #[.int .i64 n] w fun e w'=>e= .returned (.int .i64 (n/16))/\w=w':=by
 rcases(by omega:n<0\/0<=n) with hc|hc
 ·have hd:Int.tdiv (-n+16-1) 16=(-n+16-1)/16:=Int.tdiv_eq_ediv_of_nonneg (by omega)
  have hd':=Qh hd
  go_enter func263,ntmps263
  go_wp2
  go_ret
  exact⟨ag (by omega),rfl⟩
 ·have hd:Int.tdiv n 16=n/16:=Int.tdiv_eq_ediv_of_nonneg hc
  go_enter func263,ntmps263
  go_wp2
  go_ret
  exact⟨ag (by omega),rfl⟩
theorem gI (k:Nat) (hk:k<4096) (w:World):Calls prog 262 #[.int .i64 (k:Int)] w fun e w'=>e= .returned (.int .i64 (fnv 1 k))/\w=w':=by
 have hr:0<=(k:Int)/\(k:Int)<=4095:=by omega
 obtain⟨q,hq⟩:∃ q,q=sgn (k:Int):=⟨_,rfl⟩;have HS:=dN (k:Int) w;have HV:Hid (fnv 1 k=(q/16)%4096):=by rw[hq];exact rfl
 rw[<-hq] at HS;have HS:=Qh HS;have hb:=iq k hk;rw[<-hq] at hb;obtain⟨hb1,hb2⟩:=hb;clear hq
 go_enter func262,ntmps262
 go_wp2_with fail
 refine Qc (ak (k:Int) hr w) ?_
 go_wp2_with fail
 refine HS.out.mono ?_;rintro e w' ⟨rfl,rfl⟩
 go_wp2_with fail
 refine Qc (eg q (by omega) (by omega) w) ?_
 go_wp2_with fail
 refine Qc (bG _ w) ?_;go_wp2
 go_ret
 exact⟨ag HV.out.symm,rfl⟩
theorem oW (k:Nat) (hk:k<4096) (w:World):Calls prog 227 #[.int .i64 1,.int .i64 (k:Int)] w fun e w'=>e= .returned (.int .i64 (fnv 1 k))/\w=w':=by
 have hr:0<=(k:Int)/\(k:Int)<=4095:=by omega
 have h15:(1:Int)<=1/\(1:Int)<=5:=by omega
 obtain⟨q,hq⟩:∃ q,q=sgn (k:Int):=⟨_,rfl⟩;have HS:=dN (k:Int) w;rw[<-hq] at HS;have HS:=Qh HS;have hb:=iq k hk;rw[<-hq] at hb;obtain⟨hb1,hb2⟩:=hb;have HC:=Qh (gI k hk w);clear hq
 go_enter func227,ntmps227
 go_wp2_with fail
 refine Qc (ak (k:Int) hr w) ?_
 go_wp2_with fail
 refine Qc (B5 h15 w) ?_
 go_wp2_with fail
 refine HS.out.mono ?_;rintro e w' ⟨rfl,rfl⟩
 go_wp2_with fail
 refine Qc HC.out ?_;go_wp2
 go_ret
 exact⟨rfl,rfl⟩
theorem oX (k:Nat) (hk:k<4096) (w:World):Calls prog 227 #[.int .i64 2,.int .i64 (k:Int)] w fun e w'=>e= .returned (.int .i64 (fnv 2 k))/\w=w':=by
 have hr:0<=(k:Int)/\(k:Int)<=4095:=by omega
 have h15:(1:Int)<=2/\(2:Int)<=5:=by omega
 obtain⟨q,hq⟩:∃ q,q=sgn (k:Int):=⟨_,rfl⟩;have HS:=dN (k:Int) w;rw[<-hq] at HS;have HS:=Qh HS;have hb:=iq k hk;rw[<-hq] at hb;obtain⟨hb1,hb2⟩:=hb;have HC:=Qh (gI k hk w);rcases(by omega:(0<q)\/(q=0)\/(q<0)) with hc|hc|hc
 ·have HV:Hid (fnv 2 k=q):=by show (if 0<=sgn k then sgn k else 0)=q;rw[<-hq,if_pos (by omega)]
  clear hq
  go_enter func227,ntmps227
  go_wp2_with fail
  refine Qc (ak (k:Int) hr w) ?_
  go_wp2_with fail
  refine Qc (B5 h15 w) ?_
  go_wp2_with fail
  refine HS.out.mono ?_;rintro e w' ⟨rfl,rfl⟩;go_wp2
  go_ret
  first|exact⟨ag HV.out.symm,rfl⟩|exact⟨ag (by rw[HV.out];decide),rfl⟩|exact⟨ag (by rw[HV.out];omega),rfl⟩
 ·have HV:Hid (fnv 2 k=0):=by show (if 0<=sgn k then sgn k else 0)=0;rw[<-hq,if_pos (by omega),hc]
  clear hq;subst hc
  go_enter func227,ntmps227
  go_wp2_with fail
  refine Qc (ak (k:Int) hr w) ?_
  go_wp2_with fail
  refine Qc (B5 h15 w) ?_
  go_wp2_with fail
  refine HS.out.mono ?_;rintro e w' ⟨rfl,rfl⟩;go_wp2
  go_ret
  first|exact⟨ag HV.out.symm,rfl⟩|exact⟨ag (by rw[HV.out];decide),rfl⟩|exact⟨ag (by rw[HV.out];omega),rfl⟩
 ·have HV:Hid (fnv 2 k=0):=by show (if 0<=sgn k then sgn k else 0)=0;rw[<-hq,if_neg (by omega)]
  clear hq
  go_enter func227,ntmps227
  go_wp2_with fail
  refine Qc (ak (k:Int) hr w) ?_
  go_wp2_with fail
  refine Qc (B5 h15 w) ?_
  go_wp2_with fail
  refine HS.out.mono ?_;rintro e w' ⟨rfl,rfl⟩;go_wp2
  go_ret
  first|exact⟨ag HV.out.symm,rfl⟩|exact⟨ag (by rw[HV.out];decide),rfl⟩|exact⟨ag (by rw[HV.out];omega),rfl⟩
theorem oe (k:Nat) (hk:k<4096) (w:World):Calls prog 227 #[.int .i64 3,.int .i64 (k:Int)] w fun e w'=>e= .returned (.int .i64 (fnv 3 k))/\w=w':=by
 have hr:0<=(k:Int)/\(k:Int)<=4095:=by omega
 have h15:(1:Int)<=3/\(3:Int)<=5:=by omega
 obtain⟨q,hq⟩:∃ q,q=sgn (k:Int):=⟨_,rfl⟩;have HS:=dN (k:Int) w;rw[<-hq] at HS;have HS:=Qh HS;have hb:=iq k hk;rw[<-hq] at hb;obtain⟨hb1,hb2⟩:=hb;have HC:=Qh (gI k hk w);rcases(by omega:(q<0)\/(¬q<0)) with hc|hc
 ·have HV:Hid (fnv 3 k=1):=lv1 k hk (hq ▸ hc);clear hq
  go_enter func227,ntmps227
  go_wp2_with fail
  refine Qc (ak (k:Int) hr w) ?_
  go_wp2_with fail
  refine Qc (B5 h15 w) ?_
  go_wp2_with fail
  refine HS.out.mono ?_;rintro e w' ⟨rfl,rfl⟩;go_wp2
  go_ret
  first|exact⟨ag HV.out.symm,rfl⟩|exact⟨ag (by rw[HV.out];decide),rfl⟩|exact⟨ag (by rw[HV.out];omega),rfl⟩
 ·have HV:Hid (fnv 3 k=0):=lv0 k hk (hq ▸ hc);clear hq
  go_enter func227,ntmps227
  go_wp2_with fail
  refine Qc (ak (k:Int) hr w) ?_
  go_wp2_with fail
  refine Qc (B5 h15 w) ?_
  go_wp2_with fail
  refine HS.out.mono ?_;rintro e w' ⟨rfl,rfl⟩;go_wp2
  go_ret
  first|exact⟨ag HV.out.symm,rfl⟩|exact⟨ag (by rw[HV.out];decide),rfl⟩|exact⟨ag (by rw[HV.out];omega),rfl⟩
theorem oY (k:Nat) (hk:k<4096) (w:World):Calls prog 227 #[.int .i64 4,.int .i64 (k:Int)] w fun e w'=>e= .returned (.int .i64 (fnv 4 k))/\w=w':=by
 have hr:0<=(k:Int)/\(k:Int)<=4095:=by omega
 have h15:(1:Int)<=4/\(4:Int)<=5:=by omega
 obtain⟨q,hq⟩:∃ q,q=sgn (k:Int):=⟨_,rfl⟩;have HS:=dN (k:Int) w;rw[<-hq] at HS;have HS:=Qh HS;have hb:=iq k hk;rw[<-hq] at hb;obtain⟨hb1,hb2⟩:=hb;have HC:=Qh (gI k hk w);rcases(by omega:(q < -48)\/(-48<=q/\q < -32)\/(-32<=q/\q < -16)\/(-16<=q/\q<0)\/(0<=q/\q<16)\/(16<=q/\q<32)\/(32<=q)) with hc|hc|hc|hc|hc|hc|hc
 ·have HV:Hid (fnv 4 k=1):=by show gro (sgn k)=1;rw[<-hq];unfold gro;repeat (first|rw[if_pos (by omega)]|rw[if_neg (by omega)])
  clear hq;obtain⟨f,hf⟩:∃ f,f=q/16:=⟨_,rfl⟩;have hf1:f<= -4:=by omega
  have HF:=eg q (by omega) (by omega) w
  rw[<-hf] at HF;have HF:=Qh HF;clear hf;have hm1 : min 2 f = f := (by omega);have hm2 : max (-4) f = -4 := (by omega)
  go_enter func227,ntmps227
  go_wp2_with fail
  refine Qc (ak (k:Int) hr w) ?_
  go_wp2_with fail
  refine Qc (B5 h15 w) ?_
  go_wp2_with fail
  refine HS.out.mono ?_;rintro e w' ⟨rfl,rfl⟩
  go_wp2_with fail
  refine Qc HF.out ?_;go_wp2
  go_ret
  first|exact⟨ag HV.out.symm,rfl⟩|exact⟨ag (by rw[HV.out];decide),rfl⟩|exact⟨ag (by rw[HV.out];omega),rfl⟩
 ·have HV:Hid (fnv 4 k=2):=by show gro (sgn k)=2;rw[<-hq];unfold gro;repeat (first|rw[if_pos (by omega)]|rw[if_neg (by omega)])
  clear hq;obtain⟨f,hf⟩:∃ f,f=q/16:=⟨_,rfl⟩;have hf1:f= -3:=by omega
  have HF:=eg q (by omega) (by omega) w
  rw[<-hf] at HF;have HF:=Qh HF;clear hf;subst hf1;have hm1 : min (2 : Int) (-3) = -3 := (by omega);have hm2 : max (-4 : Int) (-3) = -3 := (by omega)
  go_enter func227,ntmps227
  go_wp2_with fail
  refine Qc (ak (k:Int) hr w) ?_
  go_wp2_with fail
  refine Qc (B5 h15 w) ?_
  go_wp2_with fail
  refine HS.out.mono ?_;rintro e w' ⟨rfl,rfl⟩
  go_wp2_with fail
  refine Qc HF.out ?_;go_wp2
  go_ret
  first|exact⟨ag HV.out.symm,rfl⟩|exact⟨ag (by rw[HV.out];decide),rfl⟩|exact⟨ag (by rw[HV.out];omega),rfl⟩
 ·have HV:Hid (fnv 4 k=4):=by show gro (sgn k)=4;rw[<-hq];unfold gro;repeat (first|rw[if_pos (by omega)]|rw[if_neg (by omega)])
  clear hq;obtain⟨f,hf⟩:∃ f,f=q/16:=⟨_,rfl⟩;have hf1:f= -2:=by omega
  have HF:=eg q (by omega) (by omega) w
  rw[<-hf] at HF;have HF:=Qh HF;clear hf;subst hf1;have hm1 : min (2 : Int) (-2) = -2 := (by omega);have hm2 : max (-4 : Int) (-2) = -2 := (by omega)
  go_enter func227,ntmps227
  go_wp2_with fail
  refine Qc (ak (k:Int) hr w) ?_
  go_wp2_with fail
  refine Qc (B5 h15 w) ?_
  go_wp2_with fail
  refine HS.out.mono ?_;rintro e w' ⟨rfl,rfl⟩
  go_wp2_with fail
  refine Qc HF.out ?_;go_wp2
  go_ret
  first|exact⟨ag HV.out.symm,rfl⟩|exact⟨ag (by rw[HV.out];decide),rfl⟩|exact⟨ag (by rw[HV.out];omega),rfl⟩
 ·have HV:Hid (fnv 4 k=8):=by show gro (sgn k)=8;rw[<-hq];unfold gro;repeat (first|rw[if_pos (by omega)]|rw[if_neg (by omega)])
  clear hq;obtain⟨f,hf⟩:∃ f,f=q/16:=⟨_,rfl⟩;have hf1:f= -1:=by omega
  have HF:=eg q (by omega) (by omega) w
  rw[<-hf] at HF;have HF:=Qh HF;clear hf;subst hf1;have hm1 : min (2 : Int) (-1) = -1 := (by omega);have hm2 : max (-4 : Int) (-1) = -1 := (by omega)
  go_enter func227,ntmps227
  go_wp2_with fail
  refine Qc (ak (k:Int) hr w) ?_
  go_wp2_with fail
  refine Qc (B5 h15 w) ?_
  go_wp2_with fail
  refine HS.out.mono ?_;rintro e w' ⟨rfl,rfl⟩
  go_wp2_with fail
  refine Qc HF.out ?_;go_wp2
  go_ret
  first|exact⟨ag HV.out.symm,rfl⟩|exact⟨ag (by rw[HV.out];decide),rfl⟩|exact⟨ag (by rw[HV.out];omega),rfl⟩
 ·have HV:Hid (fnv 4 k=16):=by show gro (sgn k)=16;rw[<-hq];unfold gro;repeat (first|rw[if_pos (by omega)]|rw[if_neg (by omega)])
  clear hq;obtain⟨f,hf⟩:∃ f,f=q/16:=⟨_,rfl⟩;have hf1:f=0:=by omega
  have HF:=eg q (by omega) (by omega) w
  rw[<-hf] at HF;have HF:=Qh HF;clear hf;subst hf1;have hm1 : min (2 : Int) (0) = 0 := (by omega);have hm2 : max (-4 : Int) (0) = 0 := (by omega)
  go_enter func227,ntmps227
  go_wp2_with fail
  refine Qc (ak (k:Int) hr w) ?_
  go_wp2_with fail
  refine Qc (B5 h15 w) ?_
  go_wp2_with fail
  refine HS.out.mono ?_;rintro e w' ⟨rfl,rfl⟩
  go_wp2_with fail
  refine Qc HF.out ?_;go_wp2
  go_ret
  first|exact⟨ag HV.out.symm,rfl⟩|exact⟨ag (by rw[HV.out];decide),rfl⟩|exact⟨ag (by rw[HV.out];omega),rfl⟩
 ·have HV:Hid (fnv 4 k=32):=by show gro (sgn k)=32;rw[<-hq];unfold gro;repeat (first|rw[if_pos (by omega)]|rw[if_neg (by omega)])
  clear hq;obtain⟨f,hf⟩:∃ f,f=q/16:=⟨_,rfl⟩;have hf1:f=1:=by omega
  have HF:=eg q (by omega) (by omega) w
  rw[<-hf] at HF;have HF:=Qh HF;clear hf;subst hf1;have hm1 : min (2 : Int) (1) = 1 := (by omega);have hm2 : max (-4 : Int) (1) = 1 := (by omega)
  go_enter func227,ntmps227
  go_wp2_with fail
  refine Qc (ak (k:Int) hr w) ?_
  go_wp2_with fail
  refine Qc (B5 h15 w) ?_
  go_wp2_with fail
  refine HS.out.mono ?_;rintro e w' ⟨rfl,rfl⟩
  go_wp2_with fail
  refine Qc HF.out ?_;go_wp2
  go_ret
  first|exact⟨ag HV.out.symm,rfl⟩|exact⟨ag (by rw[HV.out];decide),rfl⟩|exact⟨ag (by rw[HV.out];omega),rfl⟩
 ·have HV:Hid (fnv 4 k=64):=by show gro (sgn k)=64;rw[<-hq];unfold gro;repeat (first|rw[if_pos (by omega)]|rw[if_neg (by omega)])
  clear hq;obtain⟨f,hf⟩:∃ f,f=q/16:=⟨_,rfl⟩;have hf1:2<=f:=by omega
  have HF:=eg q (by omega) (by omega) w
  rw[<-hf] at HF;have HF:=Qh HF;clear hf;have hm1 : min 2 f = 2 := (by omega);have hm2 : max (-4 : Int) 2 = 2 := (by omega)
  go_enter func227,ntmps227
  go_wp2_with fail
  refine Qc (ak (k:Int) hr w) ?_
  go_wp2_with fail
  refine Qc (B5 h15 w) ?_
  go_wp2_with fail
  refine HS.out.mono ?_;rintro e w' ⟨rfl,rfl⟩
  go_wp2_with fail
  refine Qc HF.out ?_;go_wp2
  go_ret
  first|exact⟨ag HV.out.symm,rfl⟩|exact⟨ag (by rw[HV.out];decide),rfl⟩|exact⟨ag (by rw[HV.out];omega),rfl⟩
theorem oZ (k:Nat) (hk:k<4096) (w:World):Calls prog 227 #[.int .i64 5,.int .i64 (k:Int)] w fun e w'=>e= .returned (.int .i64 (fnv 5 k))/\w=w':=by
 have hr:0<=(k:Int)/\(k:Int)<=4095:=by omega
 have h15:(1:Int)<=5/\(5:Int)<=5:=by omega
 obtain⟨q,hq⟩:∃ q,q=sgn (k:Int):=⟨_,rfl⟩;have HS:=dN (k:Int) w;rw[<-hq] at HS;have HS:=Qh HS;have hb:=iq k hk;rw[<-hq] at hb;obtain⟨hb1,hb2⟩:=hb;have HC:=Qh (gI k hk w);rcases(by omega:(q<=0)\/(¬q<=0)) with hc|hc
 ·have HV:Hid (fnv 5 k=0):=by show (if sgn k<=0 then 0 else 256/sgn k)=0;rw[<-hq,if_pos hc]
  clear hq
  go_enter func227,ntmps227
  go_wp2_with fail
  refine Qc (ak (k:Int) hr w) ?_
  go_wp2_with fail
  refine Qc (B5 h15 w) ?_
  go_wp2_with fail
  refine HS.out.mono ?_;rintro e w' ⟨rfl,rfl⟩;go_wp2
  go_ret
  first|exact⟨ag HV.out.symm,rfl⟩|exact⟨ag (by rw[HV.out];decide),rfl⟩|exact⟨ag (by rw[HV.out];omega),rfl⟩
 ·have HV:Hid (fnv 5 k=(256/q)):=by show (if sgn k<=0 then 0 else 256/sgn k)=256/q;rw[<-hq,if_neg hc]
  clear hq
  go_enter func227,ntmps227
  go_wp2_with fail
  refine Qc (ak (k:Int) hr w) ?_
  go_wp2_with fail
  refine Qc (B5 h15 w) ?_
  go_wp2_with fail
  refine HS.out.mono ?_;rintro e w' ⟨rfl,rfl⟩;have hd:Int.tdiv 256 q=256/q:=Int.tdiv_eq_ediv_of_nonneg (by omega)
  have HD:=Qh hd;clear hd;go_wp2
  go_ret
  first|exact⟨ag HV.out.symm,rfl⟩|exact⟨ag (by rw[HV.out];decide),rfl⟩|exact⟨ag (by rw[HV.out];omega),rfl⟩|exact⟨ag (by rw[HV.out];exact HD.out),rfl⟩
theorem qv {kd:Int} (hK:1<=kd/\kd<=5) (k:Nat) (hk:k<4096) (w:World):Calls prog 227 #[.int .i64 kd,.int .i64 (k:Int)] w fun e w'=>e= .returned (.int .i64 (fnv kd k))/\w=w':=by
 rcases(by omega:kd=1\/kd=2\/kd=3\/kd=4\/kd=5) with rfl|rfl|rfl|rfl|rfl
 ·exact oW k hk w
 ·exact oX k hk w
 ·exact oe k hk w
 ·exact oY k hk w
 ·exact oZ k hk w
theorem lJ {kd:Int} (hK:1<=kd/\kd<=5) (w:World):Calls prog 187 #[.int .i64 kd] w (vy 4096 (fl (fnv kd) 4096) w):=by
 have HK:=Qh hK;clear hK;refine zE ?_;intro u1 H;intros
 go_loopw [3,4] (fun vo vk wr=>∃ (j c:Nat) (B:Option Addr),j<=4096/\vk= .int .i64 j/\vo= .slice B j c/\Hid (Hq w [qO w.heap.size B j c (fl (fnv kd) j)] wr)) (fun _ vk _=>4096-(intOf vk).toNat)
 case atStart=>exact⟨0,0,_,Nat.zero_le _,rfl,rfl,H⟩
 case round =>
 clear H;obtain⟨j,c,B,hj,rfl,rfl,H⟩:=hrel;have H:=H.out
 by_cases hlt:j<4096
 ·have hjI:(j:Int)<4096:=by omega
  obtain⟨y,hy⟩:∃ y,y=fnv kd j:=⟨_,rfl⟩;have HF:Hid (∀ w',Calls prog 227 #[.int .i64 kd,.int .i64 (j:Int)] w' fun e w''=>e= .returned (.int .i64 y)/\w'=w''):=by rw[hy];exact fun w'=>qv HK.out j hlt w'
  have HY:=Qh hy;clear hy;refine zN ?_;clear H;intro u1 H;refine zP (B5 HK.out u1) ?_;clear H;intro u2 H;refine zG (HF.out u2) ?_;rintro e w' ⟨rfl,rfl⟩;refine zC ?_;intro C;intros
  go_wp2_with (at_builtin;refine zM ?_)
  clear H C;intro u4 H;replace H:=H.r 1;refine zA (dQ (H.k 1)) True.intro ?_;clear H;intro C1 k1 w4 H;replace H:=H.d 1;have HE:Hid (fl (fnv kd) (j+1)=fl (fnv kd) j++[y]):=by unfold Hid;rw[dd,HY.out]
  rw[<-HE.out] at H;refine zC ?_;intro C;intros;go_wp2
  go_roundw
  case rel=>exact⟨j+1,k1,C1,by omega,by go_num,rfl,H⟩
  case measure=>simp[intOf];omega
 ·obtain rfl:j=4096:=by omega
  refine zR ?_;clear H;intro u61 H
  exact⟨B,c,rfl,(H.o 0),H.O⟩
end
section
attribute [local go_sem] af ah ae
theorem dA {kd:Int} (hK:1<=kd/\kd<=5) {p:Mx×Mx} {s:Int} (hop:okS p=true) (hs:sdB s=true) {x:Value} (w:World) (hx:RS w x p):Calls prog 139 #[.int .i64 kd,x,.int .i64 s] w (bo (dv (fnv kd) p s).1 (dv (fnv kd) p s).2 25 w):=by
 have HNN:=Qh (bt (show az p.1 p.2=true from hop)).1
 have HN25:=Qh (dy (ai hop).1);have HN1:Hid (0<p.1.v.length):=by have:=HN25.out;unfold Hid;omega
 have HN2:Hid (0<p.2.v.length):=by have:=dy (ai hop).2.1;unfold Hid;omega
 have HMP:Hid (dv (fnv kd) p s=((⟨p.1.r,p.1.c,fl (mp1 p s) p.1.v.length⟩,⟨p.1.r,p.1.c,fl (mp2 (fnv kd) p s) p.1.v.length⟩),mpS s p.1.v.length)):=rfl;have HHX:=Qh hx;obtain⟨A1,A2,p1,p2,rfl,-⟩:=hx;have HK:=Qh hK;have HP:=Qh hop;have HS:=Qh hs;clear hK hop hs;refine zE ?_;intro u1 H;refine zW (eC HP.out u1 (RS.below HHX.out H.O)) ?_;clear H;intro w2 FX1 FX2 fxc fxd u2 H;refine zB (iR HP.out u2 (H.rs 1)) ?_;clear H;intro w3 u3 H;refine zP (B5 HK.out u3) ?_;clear H;intro u4 H;refine zP (cz _ HS.out u4) ?_;clear H;intro u5 H;refine zO (lJ HK.out u5) ?_;clear H;intro w6 AV cV u6 H;replace H:=H.nil.nil;obtain⟨ga,rfl,-,-⟩:=OS.pos (qS.a (H.p 5)) HN1.out;obtain⟨gb,rfl,-,-⟩:=OS.pos (qS.b (H.p 5)) HN2.out;replace H:=((((((((H.r 7).r 7).r 7).r 6).r 6).r 5).r 6).r 7);intros
 go_loopw [2,9,12] (fun s2 s9 s12 wr=>∃ (j c a b:Nat) (C A B:Option Addr) (v:List Int),j<=p.1.v.length/\s12= .int .i64 j/\s2= .int .i64 (mpS s j)/\s9= .slice C j c/\Hid (Hq w [qO w.heap.size C j c v,qO w.heap.size A j a (fl (mp1 p s) j),qO w.heap.size B j b (fl (mp2 (fnv kd) p s) j),qB w6.heap.size 82 [.int .i64 p.1.r,.int .i64 p.1.c,.slice A j a,.int .i64 p.1.r,.int .i64 p.1.c,.slice B j b],qO w.heap.size AV 4096 cV (fl (fnv kd) 4096),qS w.heap.size (some ⟨ga,0,none⟩) fxc (some ⟨gb,0,none⟩) fxd p,qB (w.heap.size+1) 82 [.int .i64 0,.int .i64 0,.slice none 0 0,.int .i64 0,.int .i64 0,.slice none 0 0],qB w.heap.size 82 [.int .i64 p.1.r,.int .i64 p.1.c,.slice (some ⟨ga,0,none⟩) p.1.v.length fxc,.int .i64 p.2.r,.int .i64 p.2.c,.slice (some ⟨gb,0,none⟩) p.2.v.length fxd]] wr)) (fun _ _ i _=>p.1.v.length-(intOf i).toNat)
 case atStart=>exact⟨0,0,0,0,_,none,none,[],Nat.zero_le _,rfl,rfl,rfl,H⟩
 case round =>
 clear H;obtain⟨j,c,a,b,C,A,B,v,hj,rfl,rfl,rfl,H⟩:=hrel;have H:=H.out
 by_cases hlt:j<p.1.v.length
 ·obtain⟨σ,hσ⟩:∃ x,x=mpS s j:=⟨_,rfl⟩;obtain⟨a1,ha1⟩:∃ x,x=p.1.v.getD j 0:=⟨_,rfl⟩;obtain⟨a2,ha2⟩:∃ x,x=p.2.v.getD j 0:=⟨_,rfl⟩;have hsv:sv a1 a2=true:=by rw[ha1,ha2];exact fX (dE (ai HP.out).1 j) (dE (ai HP.out).2.1 j)
  obtain⟨jj,hjj⟩:∃ x,x=shJ p j:=⟨_,rfl⟩;have hsh:(a1+a2)%4096=jj:=by rw[hjj,ha1,ha2];rfl
  have hso:sdB σ=true:=by rw[hσ];exact qn HS.out j
  have hnx:mpS s (j+1)=sds (sds σ 2) 4096:=by rw[hσ];rfl
  obtain⟨d1,hd1⟩:∃ x,x=lk1 σ jj:=⟨_,rfl⟩;obtain⟨d2,hd2⟩:∃ x,x=lk2 (fnv kd) σ jj:=⟨_,rfl⟩;have HE1:Hid (fl (mp1 p s) (j+1)=fl (mp1 p s) j++[d1]):=by show _=_;rw[dd,show mp1 p s j=d1 from by rw[hd1,hσ,hjj];unfold mp1;rfl]
  have HE2:Hid (fl (mp2 (fnv kd) p s) (j+1)=fl (mp2 (fnv kd) p s) j++[d2]):=by show _=_;rw[dd,show mp2 (fnv kd) p s j=d2 from by rw[hd2,hσ,hjj];unfold mp2;rfl]
  rw[<-hσ];have j0:(0:Int)<=(j:Int):=by omega
  have j1:(j:Int)<(p.1.v.length:Int):=by omega
  have j2:(j:Int)<(p.2.v.length:Int):=by have:=HNN.out;omega
  have hlt2:j<p.2.v.length:=by have:=HNN.out;omega
  have h25:j<25:=by have:=HN25.out;omega
  have HSV:=Qh hsv;have HSH:=Qh hsh;have HSO:=Qh hso;have HNX:=Qh hnx;have HA1:=Qh ha1;have HA2:=Qh ha2;have HD1:=Qh hd1;have HD2:=Qh hd2;clear hsv hsh hso hnx ha1 ha2 hd1 hd2 hσ hjj;refine zN ?_;clear H;intro u41 H;refine zOO (sn (fnv kd) (fun j _=>pX kd j) (dH HSO.out) _ _ u41 (OS.si (H.o 4))) ?_;clear H;intro w42 TA TB tc td u42 H
  have ez1:ga<u42.heap.size:=(OS.aj (qS.a (H.p 7)) ga rfl).2;have ez2:gb<u42.heap.size:=(OS.aj (qS.b (H.p 7)) gb rfl).2;have E:=H.el;refine zXF (tgF [w42.heap.size,w.heap.size,ga,gb] 19 15 (.cells #[.int .i64 0,.int .i64 0] 213)) ?_;clear H;intro S w43 hne H;refine zD ((And.intro (H.c 0) (H.c 9))) ?_;intro G;have r1:=H.row (show World.cell? _ ⟨ga,j,none⟩=some (.int .i64 a1) from by rw[HA1.out];exact OS.cellAt (qS.a (H.p 7)) hlt)
  have r2:=H.row (show World.cell? _ ⟨gb,j,none⟩=some (.int .i64 a2) from by rw[HA2.out];exact OS.cellAt (qS.b (H.p 7)) hlt2)
  intros;refine f_ (fun w44 (hb:Bw w43 w44)=>AZ (f:=fnv kd) (fun j _=>pX kd j) HSV.out HSH.out TA TB tc td w44 (OS.si (Ow.P1 ((H.b hb).p 1))) (OS.si (Ow.P2 ((H.b hb).p 1)))) ?_;clear H
  rintro w44 K hK H e w45 ⟨rfl,hb⟩;replace H:=H.b hb;rw[<-HD1.out,<-HD2.out];refine fK ?_;clear hK K hb;refine yG ?_;clear H;intro w46 g46 hg46 H;refine yS ?_;clear H;intro w47 H;intros
  repeat (first|(refine lc' ?_;intro K hK;go_big_quiet_op;go_big_quiet_on)|refine lk' ?_)
  refine aI ?_;replace H:=H.H;clear G;refine zC ?_;intro C;intros
  go_wp2_with (at_builtin;refine zM ?_)
  clear H C;intro u49 H;replace H:=H.r 5;refine zA (dQ (H.k 1)) True.intro ?_;clear H;intro A' a' w49 H;replace H:=H.d 1;refine zC ?_;intro C;intros
  go_wp2_with (at_builtin;refine zM ?_)
  clear H C;intro u50 H;replace H:=H.r 6;refine zA (dQ (H.k 1)) True.intro ?_;clear H;intro B' b' w50 H;replace H:=H.d 1;refine zC ?_;intro C;intros
  go_wp2_with (at_builtin;refine zM ?_)
  clear H C;intro u51 H;replace H:=H.r 6;refine zA (dQ (H.k 1)) True.intro ?_;clear H;intro C' c' w51 H;replace H:=H.d 1;rw[<-HE1.out,<-HE2.out] at H;replace H:=(((((((((((H.d 3).d 3).d 3).r 7).r 7).r 7).r 7).r 7).r 6).r 7).r 7);refine zC ?_;intro C;intros;go_wp2
  go_roundw
  case rel=>exact⟨j+1,c',a',b',C',A',B',_,by omega,by go_num,by rw[HNX.out],rfl,H⟩
  case measure=>simp[intOf];omega
 ·have hjn:p.1.v.length=j:=by omega
  refine zS_ ?_;clear H;intro u81 H
  exact(by rw[HMP.out,hjn];exact⟨A,a,B,b,C,j,c,v,by dsimp only;rw[aD,aD];rfl,by dsimp only;rw[aD];exact(H.o 1),by dsimp only;rw[aD];exact(H.o 2),(H.o 0),by have:=HN25.out;omega,H.O⟩)
end
end Go.Proofs.YtjciicheoghcdaaGreatDoor

/- Part of the proof that the law FnExactServiceRun of the given program returns true for every input. -/
import Derived.Test.YtjciicheoghcdaaGreatDoorYc
import Derived.Test.YtjciicheoghcdaaGreatDoorYg
import Derived.Test.YtjciicheoghcdaaGreatDoorYv
import Derived.Test.YtjciicheoghcdaaGreatDoorYy
namespace Go.Proofs.YtjciicheoghcdaaGreatDoor
open Go.RowKit
set_option linter.unusedSimpArgs false
set_option linter.unusedVariables false
set_option maxRecDepth 20000
set_option maxHeartbeats 16000000
section
attribute [local go_sem] af ah ae
theorem ml {m:Mx} (h:mvB m=true) {x:Value} (w:World) (hx:RM w x m):Calls Tryz.prog 86 #[x] w (bD m w):=by
 obtain ⟨A,c,rfl,h1,_⟩:=hx;have hl:=dy h;have HX:=Lib.hid h1;clear h h1;refine zE ?_;intro u1 H;refine zX (tg [w.heap.size]) ?_;clear H;intro S w2 hne H;refine zD (H.c 1) ?_;intro G;refine yE ?_;clear H;intro w3 H;refine yA (SI.below HX.out H.O) True.intro ?_;clear H;intro C1 k1 w4 H;refine yS ?_;clear H;intro w5 H;refine yN ?_;clear H G;intro u6 H;refine zS_ ?_;clear H;intro u7 H
 exact ⟨C1,k1,rfl,(H.o 0),H.O⟩
theorem ou {net:List SL} (hok:bu net=true) {s:Int} {A:Option Addr} {cap:Nat} {F:List Nat} (w:World) (hx:RI (kE smE) w A net.length cap net F) :
  Calls Tryz.prog 39 #[.agg #[.slice A net.length cap,.int .i64 s]] w (vC net s w):=by
 unfold vC;obtain ⟨n,hn⟩:∃ n,n=net.length:=⟨_,rfl⟩;rw [<- hn] at hx ⊢;have h4:n<=4:=by rw [hn];exact (du hok).1
 have HN:=Lib.hid hn;have HOK:=Lib.hid hok;have HX:=Lib.hid hx;clear hn hok hx;refine zE ?_;intro u1 H;replace H:=H.ye (kE smE) 99;intros
 go_loopw [4] (fun k wr=>∃ (j c':Nat) (A':Option Addr) (css:List (List Value)) (F':List Nat),j<=n/\k= .int .i64 j/\Hid (Hq w [qX (kE smE) w.heap.size 99 A' j c' css (net.take j) F',qB (w.heap.size+2) 25 [.slice A' j c',.int .i64 s],qB (w.heap.size+1) 25 [.slice none 0 0,.int .i64 0],qB w.heap.size 25 [.slice A n cap,.int .i64 s]] wr)) (fun k _=>n-(intOf k).toNat)
 case atStart=>exact ⟨0,0,none,[],[],Nat.zero_le _,rfl,H⟩
 case round =>
 clear H;obtain ⟨j,c',A',css,F',hj,rfl,H⟩:=hrel;have H:=H.out;have mw:=H.m
 by_cases hlt:j<n
 ·obtain ⟨l,hlj,hmem⟩:=aH (xs:=net) (j:=j) (by have:=HN.out;omega)
  obtain ⟨b,off,cs,Fx,rfl,hbl,hc,_,Aw,cw,rfl,hrw⟩:=HX.out.cells hlj 2 rfl;have HD0:=Lib.hid (hc 0 (by omega))
  have HD1:=Lib.hid (hc 1 (by omega))
  have HBL:=Lib.hid hbl;have HLJ:=Lib.hid hlj;have HRW:=Lib.hid hrw;have HSL:=Lib.hid ((du HOK.out).2 l hmem);have j0:(0:Int)<=(j:Int):=by omega
  have j1:(j:Int)<(n:Int):=by omega
  clear hc hrw hlj hmem hbl;have d0:wr.cell? ⟨b,off+j*2,none⟩=some (.int .i64 l.1):=(H.O.cell (p:=⟨b,off+j*2,none⟩) HBL.out).trans HD0.out;have zb:b<wr.heap.size:=Nat.lt_of_lt_of_le HBL.out mw;refine zN ?_;clear H;intro u21 H;replace H:=H.ye smE 82;obtain ⟨gL,hgL⟩:∃ g,g=wr.heap.size:=⟨_,rfl⟩;rw [<- hgL] at H ⊢;clear hgL;clear d0 zb mw;intros
  go_loopw [6] (fun k wr=>∃ (i c2:Nat) (A2:Option Addr) (css2:List (List Value)) (F2:List Nat),i<=l.2.length/\k= .int .i64 i/\Hid (Hq w [qX smE w.heap.size 82 A2 i c2 css2 (l.2.take i) F2,qB gL 99 [.int .i64 l.1,.slice A2 i c2],qX (kE smE) w.heap.size 99 A' j c' css (net.take j) F',qB (w.heap.size+2) 25 [.slice A' j c',.int .i64 s],qB (w.heap.size+1) 25 [.slice none 0 0,.int .i64 0],qB w.heap.size 25 [.slice (some ⟨b,off,none⟩) n cap,.int .i64 s]] wr)) (fun k _=>l.2.length-(intOf k).toNat)
  case atStart=>exact ⟨0,0,none,[],[],Nat.zero_le _,rfl,H⟩
  case round =>
  clear H;obtain ⟨i,c2,A2,css2,F2,hi,rfl,H⟩:=hrel;have H:=H.out;have mw:=H.m;have d1:wr.cell? ⟨b,off+j*2+1,none⟩=some (.slice Aw l.2.length cw):=(H.O.cell (p:=⟨b,off+j*2+1,none⟩) HBL.out).trans HD1.out;have zb:b<wr.heap.size:=Nat.lt_of_lt_of_le HBL.out mw;have h25:l.2.length<=3:=kU HSL.out
  by_cases hli:i<l.2.length
  ·obtain ⟨x,hxi,hxm⟩:=aH (xs:=l.2) (j:=i) hli;have hok:=mW HSL.out x hxm;obtain ⟨b2,o2,cs2,Fy,rfl,hb2,hc2,_,Aa,ca,Ab,cb,Fa,Fb,rfl,hm1,hm2,_⟩:=HRW.out.cells hxi 6 rfl;have HM1:=Lib.hid (ai hok).1;have HM2:=Lib.hid (ai hok).2.1;have HR1:=Lib.hid (RM.mk hm1.1 hm1.2.1 hm1.2.2.1);have HR2:=Lib.hid (RM.mk hm2.1 hm2.2.1 hm2.2.2.1);have HXI:=Lib.hid hxi;have i0:(0:Int)<=(i:Int):=by omega
   have i1:(i:Int)<(l.2.length:Int):=by omega
   have e0:wr.cell? ⟨b2,o2+i*6,none⟩=some (.int .i64 x.1.r):=(H.O.cell (p:=⟨b2,o2+i*6,none⟩) hb2).trans (hc2 0 (by omega))
   have e1:wr.cell? ⟨b2,o2+i*6+1,none⟩=some (.int .i64 x.1.c):=(H.O.cell (p:=⟨b2,o2+i*6+1,none⟩) hb2).trans (hc2 1 (by omega))
   have e2:wr.cell? ⟨b2,o2+i*6+2,none⟩=some (.slice Aa x.1.v.length ca):=(H.O.cell (p:=⟨b2,o2+i*6+2,none⟩) hb2).trans (hc2 2 (by omega))
   have e3:wr.cell? ⟨b2,o2+i*6+3,none⟩=some (.int .i64 x.2.r):=(H.O.cell (p:=⟨b2,o2+i*6+3,none⟩) hb2).trans (hc2 3 (by omega))
   have e4:wr.cell? ⟨b2,o2+i*6+4,none⟩=some (.int .i64 x.2.c):=(H.O.cell (p:=⟨b2,o2+i*6+4,none⟩) hb2).trans (hc2 4 (by omega))
   have e5:wr.cell? ⟨b2,o2+i*6+5,none⟩=some (.slice Ab x.2.v.length cb):=(H.O.cell (p:=⟨b2,o2+i*6+5,none⟩) hb2).trans (hc2 5 (by omega))
   have zb2:=Nat.lt_of_lt_of_le hb2 mw;clear hc2 hm1 hm2 hxi hxm hok;refine zN ?_;clear H;intro u41 H;refine zXZ (tg [wr.heap.size,gL]) ?_;clear H;intro S w42 hne H;refine zD ((And.intro (H.c 0) (H.c 2))) ?_;intro G;refine yO (ml HM1.out w42 (RM.below HR1.out H.O)) ?_;clear H;intro w43 P1 cP1 H;refine yO (ml HM2.out w43 (RM.below HR2.out H.O)) ?_;clear H;intro w44 Q1 cQ1 H;refine yM ?_;clear H;intro w45 H;have hP:=(H.o 2);have hQ:=(H.o 1);have hPQ:=fun g (h1:blk P1=some g) (h2:blk Q1=some g)=>H.H.noo 2 1 g h1 h2
   replace H:=(((H.r 1).r 2)).mrg;have hx:smE.P w45 [.int .i64 x.1.r,.int .i64 x.1.c,.slice P1 x.1.v.length cP1,.int .i64 x.2.r,.int .i64 x.2.c,.slice Q1 x.2.v.length cQ1] x (fpI P1 x.1.v.length++fpI Q1 x.2.v.length):=⟨P1,cP1,Q1,cQ1,_,_,rfl,MF.aB hP,MF.aB hQ,rfl⟩;have hf:=Fr.app (ek hP) (ek hQ) (fun g a b=>hPQ g (bz a).2 (bz b).2)
   have hF:∀ i,i∈fpI P1 x.1.v.length++fpI Q1 x.2.v.length->((qO w.heap.size P1 x.1.v.length cP1 x.1.v).and (qO w.heap.size Q1 x.2.v.length cQ1 x.2.v)).F i:=fun i hi=>(List.mem_append.1 hi).imp (fun h=>(bz h).2) (fun h=>(bz h).2)
   clear hP hQ hPQ;replace H:=(H.r 3);refine yX (an4 Cx hx hf hF) ?_;clear H hx hf hF;intro g1 k1 w46 H;intros;refine zCr ?_;intro C;intros
   repeat (first | (refine lc' ?_;intro K hK;go_big_quiet_op;go_big_quiet_on) | refine lk' ?_)
   refine aV rfl (by rfl) (by rfl) (fun K hK=> ?_)
   unfold Oper.gives
   go_simp
   refine hK _ _ ?_;replace H:=H.H;refine aI ?_;clear C G;rw [<- aW HXI.out] at H;replace H:=((H.d 1).d 1);refine zC ?_;intro C;intros;go_wp2
   go_roundw
   case rel=>exact ⟨i+1,k1,some ⟨g1,0,none⟩,_,_,by omega,by go_num,(Lib.hid hq)⟩
   case measure=>simp [intOf];omega
  ·have HLI:Hid (i=l.2.length):=by unfold Hid;omega
   rw [List.take_of_length_le (by omega)] at H
   refine zC ?_;intro C;intros
   go_wp2_with (at_builtin;refine zM ?_)
   clear H C;intro u61 H;obtain ⟨F3,hri,hf,hF⟩:=OX.rf (H.x 1);have hx:(kE smE).P u61 [.int .i64 l.1,.slice A2 i c2] l F3:=⟨A2,c2,by rw [HLI.out],HLI.out ▸ hri⟩
   replace H:=((H.r 1).r 3);refine zAx (an4 zY hx hf hF) ?_;clear H hri hx hf hF;intro g1 k1 w61 H;rw [<- aW HLJ.out] at H;replace H:=((H.d 1).d 1);refine zC ?_;intro C;intros;go_wp2
   go_roundw
   case rel=>exact ⟨j+1,k1,some ⟨g1,0,none⟩,_,_,by omega,by go_num,(Lib.hid hq)⟩
   case measure=>simp [intOf];omega
 ·obtain rfl:j=n:=by omega
  rw [List.take_of_length_le (by have:=HN.out;omega)] at H
  refine zS_ ?_;clear H;intro u81 H
  exact ⟨A',c',css,F',rfl,(H.x 0),H.O⟩
end
section
section
variable {α:Type} {E:Elt α} {w:World}
theorem dJ.focus:∀ {css:List (List Value)} {xs:List α} {F:List Nat},dJ E w css xs F->∀ {i:Nat} {x:α},xs[i]?=some x->∃ cs F1 F2 F3,css[i]?=some cs/\F=F1++(F2++F3)/\E.P w cs x F2 /\
  ∀ (w':World) (cs':List Value) (x':α),(∀ g,g∈F1++F3->w'.heap[g]?=w.heap[g]?)->E.P w' cs' x' F2->dJ E w' (css.set i cs') (xs.set i x') F
 | [],[],_,_,i,x,hx=>by cases hx
 | cs::_,y::_,_,⟨Fa,Fb,e,h1,h2⟩,0,x,hx=>by
  have:y=x:=by simpa using hx
  subst this
  exact ⟨cs,[],Fa,Fb,rfl,e,h1,fun w' cs' x' hk hp=>⟨Fa,Fb,e,hp,h2.au hk⟩⟩
 | c::_,y::_,_,⟨Fa,Fb,e,h1,h2⟩,i+1,x,hx=>by
  obtain ⟨cs,F1,F2,F3,e1,e2,e3,e4⟩:=h2.focus (i:=i) (x:=x) (by simpa using hx)
  exact ⟨cs,Fa++F1,F2,F3,by simpa using e1,by rw [e,e2];simp,e3,fun w' cs' x' hk hp=>⟨Fa,Fb,e,E.au _ _ _ _ _ h1 fun g hg=>hk g (by simp [hg]),e4 w' cs' x' (fun g hg=>hk g ((List.mem_append.1 hg).elim (fun h=>by simp [h]) (fun h=>by simp [h]))) hp⟩⟩
theorem RI.focus {A:Option Addr} {n cap:Nat} {xs:List α} {F:List Nat} (h:RI E w A n cap xs F) (hf:F.Nodup) {i:Nat} {x:α} (hx:xs[i]?=some x):∃ b off cs F2,A=some ⟨b,off,none⟩/\b∈F/\b∉F2/\F2.Nodup/\(∀ g,g∈F2->g∈F)/\E.P w cs x F2/\(∀ j,j<E.s->w.cell? ⟨b,off+(i*E.s+j),none⟩=cs[j]?) /\
  ∀ (w':World) (cs':List Value) (x':α),b<w'.heap.size->(∀ g,g∈F->g≠b->g∉F2->w'.heap[g]?=w.heap[g]?)->(∀ o,(o<off+i*E.s\/off+i*E.s+E.s<=o)->w'.cell? ⟨b,o,none⟩=w.cell? ⟨b,o,none⟩)->(∀ j,j<E.s->w'.cell? ⟨b,off+(i*E.s+j),none⟩=cs'[j]?)->E.P w' cs' x' F2->RI E w' A n cap (xs.set i x') F:=by
 obtain ⟨h1,h2,h3,h4⟩:=h;rcases h4 with ⟨h4,_⟩ | ⟨b,off,css,F',e,hb,rfl,he,hc⟩
 ·have:=(List.getElem?_eq_some_iff.1 hx).1
  omega
 ·obtain ⟨cs,F1,F2,F3,e1,e2,e3,e4⟩:=he.focus hx;have hnd:=List.nodup_cons.1 hf;rw [e2] at hnd;have hn2:=hnd.2;rw [List.nodup_append] at hn2;obtain ⟨_,hn23,hn1⟩:=hn2;rw [List.nodup_append] at hn23;obtain ⟨hn2,_,hn3⟩:=hn23;refine ⟨b,off,cs,F2,e,List.mem_cons_self ..,fun hb2=>hnd.1 (by simp [hb2]),hn2,fun g hg=>List.mem_cons_of_mem _ (by rw [e2];simp [hg]),e3,fun j hj=>hc i cs e1 j hj,?_⟩
  intro w' cs' x' hbw hk hr hc' hp;have hkeep:∀ g,g∈F1++F3->w'.heap[g]?=w.heap[g]?:=by
   intro g hg;have hgF:g∈F':=by rw [e2];exact (List.mem_append.1 hg).elim (fun h=>by simp [h]) (fun h=>by simp [h])
   refine hk g (List.mem_cons_of_mem _ hgF) (fun e=>hnd.1 (by rw [<- e,<- e2];exact hgF)) fun h2=> ?_
   rcases List.mem_append.1 hg with hg | hg
   ·exact hn1 g hg g (by simp [h2]) rfl
   ·exact hn3 g h2 g hg rfl
  refine ⟨by rw [List.length_set];exact h1,h2,h3,.inr ⟨b,off,css.set i cs',F',e,hbw,rfl,e4 w' cs' x' hkeep hp,fun m ds hm j hj=> ?_⟩⟩
  rw [List.getElem?_set] at hm
  by_cases him:i=m
  ·subst him;rw [if_pos rfl] at hm
   split at hm
   ·injection hm with hm;subst hm
    exact hc' j hj
   ·cases hm
  ·rw [if_neg him] at hm;rw [<- hc m ds hm j hj];refine hr _ ?_;rcases Nat.lt_or_ge m i with h | h
   ·left
    have:(m+1)*E.s<=i*E.s:=Nat.mul_le_mul_right _ h;rw [Nat.succ_mul] at this
    omega
   ·right
    have:(i+1)*E.s<=m*E.s:=Nat.mul_le_mul_right _ (by omega)
    rw [Nat.succ_mul] at this
    omega
end
def mkA {α:Type} (f:α->Int->α) (c:α->Nat):List α->Int->List α
 | [],_=>[]
 | x::xs,k=>f x k::mkA f c xs (k+(c x:Int))
def ctA {α:Type} (c:α->Nat):List α->Nat
 | []=>0
 | x::xs=>c x+ctA c xs
section
variable {α:Type} {f:α->Int->α} {c:α->Nat}
theorem dY:∀ (xs:List α) (k:Int),(mkA f c xs k).length=xs.length
 | [],_=>rfl
 | x::xs,k=>by simp [mkA,dY xs]
theorem qm:∀ {xs:List α} {k:Int} {j:Nat} {x:α},xs[j]?=some x->(mkA f c xs k)[j]?=some (f x (k+(ctA c (xs.take j):Int)))
 | [],_,j,x,h=>by cases h
 | y::xs,k,0,x,h=>by
  have:y=x:=by simpa using h
  subst this
  simp [mkA,ctA]
 | y::xs,k,j+1,x,h=>by
  have:=qm (xs:=xs) (k:=k+(c y:Int)) (j:=j) (x:=x) (by simpa using h)
  simp only [mkA,List.getElem?_cons_succ,this,List.take_succ_cons,ctA]
  congr 2
  omega
theorem iF:∀ {xs:List α} {j:Nat} {x:α},xs[j]?=some x->ctA c (xs.take (j+1))=ctA c (xs.take j)+c x
 | [],j,x,h=>by cases h
 | y::xs,0,x,h=>by
  have:y=x:=by simpa using h
  subst this
  simp [ctA]
 | y::xs,j+1,x,h=>by
  have:=iF (xs:=xs) (j:=j) (x:=x) (by simpa using h)
  simp only [List.take_succ_cons,ctA,this]
  omega
theorem nd:∀ (xs:List α) (j:Nat),ctA c (xs.take j)<=ctA c xs
 | [],j=>by simp [ctA]
 | x::xs,0=>by simp [ctA]
 | x::xs,j+1=>by
  have:=nd xs j;simp only [List.take_succ_cons,ctA]
  omega
def mkJ (f:α->Int->α) (c:α->Nat) (xs:List α) (k:Int) (j:Nat):List α:=(mkA f c xs k).take j++xs.drop j
theorem rV (xs:List α) (k:Int):mkJ f c xs k 0=xs:=by simp [mkJ]
theorem uh (xs:List α) (k:Int):mkJ f c xs k xs.length=mkA f c xs k:=by unfold mkJ;rw [List.take_of_length_le (by rw [dY];exact Nat.le_refl _)];simp
theorem wD {xs:List α} {k:Int} {j:Nat} {x:α} (h:xs[j]?=some x):(mkJ f c xs k j)[j]?=some x:=by
 unfold mkJ;have hj:=(List.getElem?_eq_some_iff.1 h).1;rw [List.getElem?_append_right (by rw [List.length_take,dY];omega),List.length_take,dY,Nat.min_eq_left (by omega),List.getElem?_drop]
 simpa using h
theorem rU {xs:List α} {k:Int} {j:Nat} {x:α} (h:xs[j]?=some x):(mkJ f c xs k j).set j (f x (k+(ctA c (xs.take j):Int)))=mkJ f c xs k (j+1):=by
 unfold mkJ;have hj:=(List.getElem?_eq_some_iff.1 h).1;rw [aW (qm h),List.set_append_right _ _ (by rw [List.length_take,dY];omega),List.length_take,dY,Nat.min_eq_left (by omega),Nat.sub_self,List.drop_eq_getElem_cons hj,List.set_cons_zero]
 simp
end
def mkV (m:Mx) (k:Int):Mx:=⟨k,k+1,marks (k+2) m.v.length⟩
def mkP (p:Mx×Mx) (k:Int):Mx×Mx:=(mkV p.1 k,mkV p.2 (k+2+(p.1.v.length:Int)))
def ctP (p:Mx×Mx):Nat:=4+p.1.v.length+p.2.v.length
def mkL (l:Int×List (Mx×Mx)) (k:Int):Int×List (Mx×Mx):=(k,mkA mkP ctP l.2 (k+1))
def ctL (l:Int×List (Mx×Mx)):Nat:=1+ctA ctP l.2
theorem pR {α:Type} {c:α->Nat} {B:Nat}:∀ {xs:List α},(∀ x,x∈xs->c x<=B)->ctA c xs<=xs.length*B
 | [],_=>by simp [ctA]
 | x::xs,h=>by
  have h1:=h x (List.mem_cons_self ..);have h2:=pR (xs:=xs) fun y hy=>h y (List.mem_cons_of_mem _ hy)
  simp only [ctA,List.length_cons,Nat.succ_mul]
  omega
theorem tQ {net:List (Int×List (Mx×Mx))} {a b d:Nat} (h1:net.length<=a) (h2:∀ l,l∈net->l.2.length<=b/\∀ p,p∈l.2->p.1.v.length<=d/\p.2.v.length<=d):ctA ctL net<=a*(1+b*(4+d+d)):=by
 refine Nat.le_trans (pR (B:=1+b*(4+d+d)) fun l hl=> ?_) (Nat.mul_le_mul_right _ h1)
 obtain ⟨h3,h4⟩:=h2 l hl;have h5:=pR (c:=ctP) (B:=4+d+d) (xs:=l.2) fun p hp=>by
  have:=h4 p hp;unfold ctP
  omega
 have h6:=Nat.mul_le_mul_right (4+d+d) h3;unfold ctL
 omega
end
end Go.Proofs.YtjciicheoghcdaaGreatDoor

/- Part of the proof: the law FnServiceRun is true for every input. -/
import Derived.Handy
import Derived.Test.YtjciicheoghcdaaGreatDoorVe
import Derived.Test.YtjciicheoghcdaaGreatDoorVf
import Derived.Test.YtjciicheoghcdaaGreatDoorVg
import Derived.Test.YtjciicheoghcdaaGreatDoorVi
import Derived.Test.YtjciicheoghcdaaGreatDoorVj
import Derived.Test.YtjciicheoghcdaaGreatDoorVl
import Derived.Test.YtjciicheoghcdaaGreatDoorVm
import Derived.Test.YtjciicheoghcdaaGreatDoorVn
import Derived.Test.YtjciicheoghcdaaGreatDoorVp
namespace Go.Proofs.YtjciicheoghcdaaGreatDoor
open Go.RowKit Go.Proofs.Tryz
set_option linter.all false
set_option maxRecDepth 20000
set_option maxHeartbeats 16000000
section
attribute [local go_sem] af ah ae
def NV (n:Nd):Value:= .agg #[.int .i64 n.a,.int .i64 n.b,.int .i64 n.c,.int .i64 n.d]
structure nB (n:Nd) (K:Int):Prop where
 a0:0<=n.a
 a1:n.a<=K
 b0:0<=n.b
 b1:n.b<=K
 c0:0<=n.c
 c1:n.c<=K
 d0:0<=n.d
 d1:n.d<=K
theorem nB.add {x y:Nd} {K L M:Int} (h:nB x K) (k:nB y L) (hm:K+L<=M):nB (x.add y) M:=by
 obtain⟨_,_,_,_,_,_,_,_⟩:=h;obtain⟨_,_,_,_,_,_,_,_⟩:=k
 constructor <;> simp only[Nd.add] <;> omega
theorem nB.le {x:Nd} {K L:Int} (h:nB x K) (hl:K<=L):nB x L:=⟨h.a0,Int.le_trans h.a1 hl,h.b0,Int.le_trans h.b1 hl,h.c0,Int.le_trans h.c1 hl,h.d0,Int.le_trans h.d1 hl⟩
theorem nB.z:nB Nd.z 0:=by constructor <;> simp[Nd.z]
theorem nB.lk {n:Int} (h0:0<=n) (h1:n<=100):nB (lkN n) 100:=by constructor <;> simp only[lkN] <;> omega
def scN (n:Int):Nd:=⟨n,0,n,2*n+n⟩
attribute [local go_sem] NV lkN Nd.add cpN scN
def fb (n:Nd) (w:World) (e:Ending) (w':World):Prop:=e= .returned (NV n)/\Below w.heap.size w w'
theorem dh {r c:Int} (hr:side r=true) (hc:side c=true):1<=r*c/\r*c<=25:=by
 obtain⟨_,_⟩:=bI hr;obtain⟨_,_⟩:=bI hc
 constructor
 ·have:=Int.mul_le_mul (show (1:Int)<=r by omega) (show (1:Int)<=c by omega) (by omega) (by omega);omega
 ·have:=Int.mul_le_mul (show r<=5 by omega) (show c<=5 by omega) (by omega) (by omega);omega
theorem nB.cp {r i c:Int} (hr:side r=true) (hi:side i=true) (hc:side c=true):nB (cpN r i c) 75:=by
 have h1:=dh hr hi;have h2:=dh hi hc;have h3:=dh hr hc
 constructor <;> simp only[cpN] <;> omega
theorem jG {x y:Nd} (hx:nB x 1000000) (hy:nB y 1000000) (w:World):Calls prog 174 #[NV x,NV y] w (fb (x.add y) w):=by
 unfold NV;obtain⟨x1,x2,x3,x4,x5,x6,x7,x8⟩:=hx;obtain⟨y1,y2,y3,y4,y5,y6,y7,y8⟩:=hy;refine zE ?_;intro u1 H;refine zS_ ?_;clear H;intro u2 H
 exact⟨rfl,H.O⟩
theorem fN (n:Int) (w:World):Calls prog 326 #[.int .i64 n] w (fb (lkN n) w):=by
 refine zE ?_;intro u1 H;refine zS_ ?_;clear H;intro u2 H
 exact⟨rfl,H.O⟩
theorem bO {r i c:Int} (hr:side r=true) (hi:side i=true) (hc:side c=true) (w:World):Calls prog 324 #[.int .i64 r,.int .i64 i,.int .i64 c] w (fb (cpN r i c) w):=by
 obtain⟨p1,p2⟩:=dh hr hi;obtain⟨q1,q2⟩:=dh hi hc;obtain⟨t1,t2⟩:=dh hr hc;refine zE ?_;intro u1 H;refine zX (tg [w.heap.size+1]) ?_;clear H;intro S w2 hne H;refine zD (H.c 0) ?_;intro G;refine yB (fN _ w2) ?_;clear H;intro w3 H;refine yB (jG (x:=⟨0,1,0,r*i+i*c⟩) (y:=lkN (r*c)) ⟨by simp,by simp,by simp,by simp,by simp,by simp,by show (0:Int)<=r*i+i*c;omega,by show r*i+i*c<=(1000000:Int);omega⟩ ⟨by simp[lkN],by simp[lkN],by simp[lkN],by simp[lkN],by show (0:Int)<=r*c;omega,by show r*c<=(1000000:Int);omega,by show (0:Int)<=r*c;omega,by show r*c<=(1000000:Int);omega⟩ w3) ?_;clear H;intro w4 H
 refine yS ?_;clear H;intro w5 H;refine yN ?_;clear H G;intro u6 H;refine zS_ ?_;clear H;intro u7 H
 exact⟨by simp[NV,cpN,lkN,Nd.add],H.O⟩
theorem mB {n:Int} (h0:0<=n) (h1:n<=100) (w:World):Calls prog 335 #[.int .i64 n] w (fb (scN n) w):=by
 refine zE ?_;intro u1 H;refine zB (fN _ u1) ?_;clear H;intro w2 u2 H;refine zB (jG (x:=⟨n,0,0,2*n⟩) (y:=lkN n) ⟨h0,by show n<=(1000000:Int);omega,by simp,by simp,by simp,by simp,by show (0:Int)<=2*n;omega,by show 2*n<=(1000000:Int);omega⟩ ((nB.lk h0 h1).le (by omega)) u2) ?_;clear H;intro w3 u3 H
 refine zS_ ?_;clear H;intro u4 H
 exact⟨by simp[NV,scN],H.O⟩
theorem qi {r c:Int} (hr:side r=true) (hc:side c=true) (w:World):Calls prog 329 #[.agg #[],.int .i64 r,.int .i64 c] w (fb (lkN (r*c)) w):=by
 obtain⟨p1,p2⟩:=dh hr hc;refine zE ?_;intro u1 H;refine zB (fN _ u1) ?_;clear H;intro w2 u2 H;refine zS_ ?_;clear H;intro u3 H
 exact⟨rfl,H.O⟩
theorem oS {a b r c:Int} {x2 x3 x4 x5:Value} (ha:side a=true) (hr:side r=true) (hc:side c=true) (w:World):Calls prog 321 #[.agg #[.int .i64 a,.int .i64 b,x2,x3,x4,x5],.int .i64 r,.int .i64 c] w (fb (cpN a r c) w):=by
 refine zE ?_;intro u1 H;refine zB (bO ha hr hc u1) ?_;clear H;intro w2 u2 H;refine zS_ ?_;clear H;intro u3 H
 exact⟨rfl,H.O⟩
theorem bY {x y z:Nd} {K L:Int} (hz:Hid (z=x.add y)) (hx:nB x K) (hy:nB y L) (hk:K<=1000000) (hl:L<=1000000) (w:World):Calls prog 174 #[NV x,NV y] w (fb z w):=by
 rw[hz.out];exact jG (hx.le hk) (hy.le hl) w
theorem nB.of {x y z:Nd} {K L M:Int} (hz:Hid (z=x.add y)) (h:nB x K) (k:nB y L) (hm:K+L<=M):nB z M:=by rw[hz.out];exact h.add k hm
theorem nB.sc {n:Int} (h0:0<=n) (h1:n<=26):nB (scN n) 100:=by constructor <;> simp only[scN] <;> omega
theorem AA {l:PL} (hl:l.1=3) {r c:Int}:(((((((Nd.z.add (cpN r c c)).add (cpN r c c)).add (cpN r c c)).add (cpN r c r)).add (lkN (r*r+r))).add (scN (r*r))).add (cpN r r c))=ndL l (r,c):=by
 unfold ndL;rw[if_neg (by omega),if_neg (by omega)]
 simp only[Nd.add,Nd.z,cpN,lkN,scN,Nd.mk.injEq];rw[Int.mul_comm c r]
 generalize r*c=p
 generalize r*r=q
 generalize c*c=u
 omega
theorem rE {l:PL} (hl:l.1=3) {A:Option Addr} {cap:Nat} {r c:Int} (hr:side r=true) (hc:side c=true) (w:World):Calls prog 332 #[.agg #[.slice A 3 cap],.int .i64 r,.int .i64 c] w (fb (ndL l (r,c)) w):=by
 have HL:=Qh hl;clear hl;obtain⟨p1,p2⟩:=dh hr hr;obtain⟨p3,p4⟩:=dh hr hc;obtain⟨q1,q2⟩:=bI hr;have b0:Hid (nB Nd.z 0):=nB.z;have HR:=Qh hr;have HC:=Qh hc;clear hr hc;obtain⟨N1,h⟩:∃ N,N=Nd.z.add (cpN r c c):=⟨_,rfl⟩;have hN1:=Qh h;clear h;have b1:Hid (nB N1 150):=nB.of hN1 b0.out (nB.cp HR.out HC.out HC.out) (by omega)
 obtain⟨N2,h⟩:∃ N,N=N1.add (cpN r c c):=⟨_,rfl⟩;have hN2:=Qh h;clear h;have b2:Hid (nB N2 300):=nB.of hN2 b1.out (nB.cp HR.out HC.out HC.out) (by omega)
 obtain⟨N3,h⟩:∃ N,N=N2.add (cpN r c c):=⟨_,rfl⟩;have hN3:=Qh h;clear h;have b3:Hid (nB N3 450):=nB.of hN3 b2.out (nB.cp HR.out HC.out HC.out) (by omega)
 obtain⟨N4,h⟩:∃ N,N=N3.add (cpN r c r):=⟨_,rfl⟩;have hN4:=Qh h;clear h;have b4:Hid (nB N4 600):=nB.of hN4 b3.out (nB.cp HR.out HC.out HR.out) (by omega)
 obtain⟨N5,h⟩:∃ N,N=N4.add (lkN (r*r+r)):=⟨_,rfl⟩;have hN5:=Qh h;clear h;have b5:Hid (nB N5 750):=nB.of hN5 b4.out (nB.lk (n:=r*r+r) (by omega) (by omega)) (by omega)
 obtain⟨N6,h⟩:∃ N,N=N5.add (scN (r*r)):=⟨_,rfl⟩;have hN6:=Qh h;clear h;have b6:Hid (nB N6 900):=nB.of hN6 b5.out (nB.sc (n:=r*r) (by omega) (by omega)) (by omega)
 obtain⟨N7,h⟩:∃ N,N=N6.add (cpN r r c):=⟨_,rfl⟩;have hN7:=Qh h;clear h;have b7:Hid (nB N7 1050):=nB.of hN7 b6.out (nB.cp HR.out HR.out HC.out) (by omega)
 go_in;have H:=Hq.start w
 go_wp2;refine wp_loop_rounds 4 ?_;rw[rounds_succ];refine zM ?_;clear H;intro u1 H;refine zN ?_;clear H;intro u2 H;refine zXZ (tg [w.heap.size+2]) ?_;clear H;intro S w3 hne H;refine zD (H.c 0) ?_;intro G;refine yB (bO HR.out HC.out HC.out w3) ?_;clear H;intro w4 H;refine yB (bY hN1 b0.out (nB.cp HR.out HC.out HC.out) (by omega) (by omega) w4) ?_;clear H;intro w5 H
 refine nZ ?_;clear H;intro w6 H;refine zC ?_;intro C;intros
 go_wp2_with fail
 rw[rounds_succ];refine zM ?_;clear H C;intro u7 H;refine zN ?_;clear H;intro u8 H;refine zXZ (tg [w.heap.size+2]) ?_;clear H;intro S w9 hne H;refine zD (H.c 0) ?_;intro G;refine yB (bO HR.out HC.out HC.out w9) ?_;clear H;intro w10 H;refine yB (bY hN2 b1.out (nB.cp HR.out HC.out HC.out) (by omega) (by omega) w10) ?_;clear H;intro w11 H
 refine nZ ?_;clear H;intro w12 H;refine zC ?_;intro C;intros
 go_wp2_with fail
 rw[rounds_succ];refine zM ?_;clear H C;intro u13 H;refine zN ?_;clear H;intro u14 H;refine zXZ (tg [w.heap.size+2]) ?_;clear H;intro S w15 hne H;refine zD (H.c 0) ?_;intro G;refine yB (bO HR.out HC.out HC.out w15) ?_;clear H;intro w16 H;refine yB (bY hN3 b2.out (nB.cp HR.out HC.out HC.out) (by omega) (by omega) w16) ?_;clear H;intro w17 H
 refine nZ ?_;clear H;intro w18 H;refine zC ?_;intro C;intros
 go_wp2_with fail
 rw[rounds_succ];refine zM ?_;clear H C;intro u19 H;refine zN ?_;clear H;intro u20 H;refine zXZ (tg [w.heap.size+2]) ?_;clear H;intro S w21 hne H;refine zD (H.c 0) ?_;intro G;refine yB (bO HR.out HC.out HR.out w21) ?_;clear H;intro w22 H;refine yB (bY hN4 b3.out (nB.cp HR.out HC.out HR.out) (by omega) (by omega) w22) ?_;clear H;intro w23 H
 refine yZ ?_;clear H G;intro w24 u24 H;refine zXZ (tg [w.heap.size+2]) ?_;clear H;intro S w25 hne H;refine zD (H.c 0) ?_;intro G;refine yB (fN _ w25) ?_;clear H;intro w26 H;refine yB (bY hN5 b4.out (nB.lk (n:=r*r+r) (by omega) (by omega)) (by omega) (by omega) w26) ?_;clear H;intro w27 H
 refine yZ ?_;clear H G;intro w28 u28 H;refine zXZ (tg [w.heap.size+2]) ?_;clear H;intro S w29 hne H;refine zD (H.c 0) ?_;intro G;refine yB (mB (n:=r*r) (by omega) (by omega) w29) ?_;clear H;intro w30 H
 refine yB (bY hN6 b5.out (nB.sc (n:=r*r) (by omega) (by omega)) (by omega) (by omega) w30) ?_;clear H;intro w31 H
 refine yZ ?_;clear H G;intro w32 u32 H;refine zXZ (tg [w.heap.size+2]) ?_;clear H;intro S w33 hne H;refine zD (H.c 0) ?_;intro G;refine yB (bO HR.out HR.out HC.out w33) ?_;clear H;intro w34 H;refine yB (bY hN7 b6.out (nB.cp HR.out HR.out HC.out) (by omega) (by omega) w34) ?_;clear H;intro w35 H
 refine yZ ?_;clear H G;intro w36 u36 H;refine zS_ ?_;clear H;intro u37 H
 exact⟨by rw[<-AA HL.out,<-hN1.out,<-hN2.out,<-hN3.out,<-hN4.out,<-hN5.out,<-hN6.out,<-hN7.out];rfl,H.O⟩
end
section
section
variable {G G':Nat->Prop} {u w w':World} {base n c g b:Nat} {A:Option Addr} {xs:List Int} {t:TypeId} {cs:Array Value}
theorem OS.cellAt (h:OS w base (some ⟨g,0,none⟩) n c xs) {i:Nat} (hi:i<n):w.cell? ⟨g,i,none⟩=some (.int .i64 (xs.getD i 0)):=by
 obtain⟨b,off,e,_,hc⟩:=h.si.2 (by omega)
 injection e with e;injection e with e1 e2;subst e1 e2;have:=hc i hi
 rwa [Nat.zero_add] at this
theorem OS.Dq {f f':Nat->Int} (h:OS w base (some ⟨g,0,none⟩) n c (fl f n)) {i:Nat} (hi:i<n) (v:Int) (hf:∀ k,k<n->f' k=if k=i then v else f k):OS (w.setCell ⟨g,i,none⟩ (.int .i64 v)) base (some ⟨g,0,none⟩) n c (fl f' n):=by
 have h2:=(World.ownsRow.stored h i (.int .i64 v)).1;rw[<-List.map_set] at h2;have e:(fl f n).set i v=fl f' n:=by
  apply List.ext_getElem
  ·simp[aD]
  ·intro k hk _;have hk':k<n:=by simpa [aD] using hk
   rw[List.getElem_set];simp only[fl,List.getElem_map,List.getElem_range];rw[hf k hk']
   by_cases hik:i=k
   ·subst hik;simp
   ·simp[hik,Ne.symm hik]
 rw[e] at h2
 exact h2
theorem OS.far (h:OS w base A n c xs) {p:Addr} (hp:blk A≠some p.block) (v:Value):OS (w.setCell p v) base A n c xs :=
 h.au (by simp[World.setCell]) fun j hj _=>Below.heap_setCell w p v j (fun e=>hp (by rw[<-e];exact hj))
end
structure F2 (G:Nat->Prop) (u:World) (base g h n cg ch:Nat) (f1 f2:Nat->Int) (w:World):Prop where
 one:OS w base (some ⟨g,0,none⟩) n cg (fl f1 n)
 two:OS w base (some ⟨h,0,none⟩) n ch (fl f2 n)
 ne:g≠h
 up:UpL G u w
 hg:G g
 hh:G h
section
variable {G:Nat->Prop} {u w w' w0:World} {base g h n cg ch b i o:Nat} {f1 f2 f1' f2':Nat->Int} {t:TypeId} {cs:Array Value}
theorem F2.os (H:F2 G u base g h n cg ch f1 f2 w) {A:Option Addr} {m c:Nat} {xs:List Int} {bs:Nat} (hA:OS u bs A m c xs) (hn:∀ i,blk A=some i->¬G i):OS w bs A m c xs:=hA.up H.up hn
theorem F2.below (H:F2 G u base g h n cg ch f1 f2 w) (hb:Below w.heap.size w w'):F2 G u base g h n cg ch f1 f2 w':=⟨H.one.below hb,H.two.below hb,H.ne,H.up.below hb,H.hg,H.hh⟩
theorem F2.put (H:F2 G u base g h n cg ch f1 f2 w) (hi:i<n) (x y:Int) (h1:∀ k,k<n->f1' k=if k=i then x else f1 k) (h2:∀ k,k<n->f2' k=if k=i then y else f2 k):F2 G u base g h n cg ch f1' f2' ((w.setCell ⟨g,i,none⟩ (.int .i64 x)).setCell ⟨h,i,none⟩ (.int .i64 y)) :=
 ⟨(H.one.Dq hi x h1).far (fun e=>H.ne (by injection e)) _,(H.two.far (fun e=>H.ne (by injection e with e;exact e.symm)) _).Dq hi y h2,H.ne,(H.up.Bc _ _ (fun _=>H.hg)).Bc _ _ (fun _=>H.hh),H.hg,H.hh⟩
theorem F2.bR (H:F2 G u base g h n cg ch f1 f2 w) {A:Option Addr} (k:bJ A w w') (hA:∀ i,blk A=some i->u.heap.size<=i) (h1:g<u.heap.size) (h2:h<u.heap.size):F2 G u base g h n cg ch f1 f2 w' :=
 ⟨H.one.bR k (fun x e1 e2=>by have:=hA x e2;injection e1 with e1;subst e1;dsimp only at this;omega),H.two.bR k (fun x e1 e2=>by have:=hA x e2;injection e1 with e1;subst e1;dsimp only at this;omega),H.ne,H.up.bR k (fun i hi e=>absurd hi (by have:=hA i e;omega)),H.hg,H.hh⟩
theorem F2.blk (H:F2 G u base g h n cg ch f1 f2 w) (hb:Blk u b t cs) (hn:¬G b):Blk w b t cs:=hb.up H.up hn
theorem F2.over (H:F2 G u base g h n cg ch f1 f2 w) (hb:Below base w0 u) (hG:∀ i,i<u.heap.size->G i->base<=i) (hB:base<=u.heap.size):Below base w0 w:=H.up.over hb hG hB
end
theorem BK {u:World} (L:List Nat) (hL:∀ i,i∈L->i<u.heap.size):∃ S:World->Prop,Hid (∀ w',Below u.heap.size u w'->S w')/\(∀ w' (p:Addr) v,p.block∉L->S w'->S (w'.setCell p v))/\(∀ w' o,S w'->S (w'.alloc o)) /\
  (∀ w' w'' G,UpL G w' w''->(∀ i,i∈L->¬G i)->S w'->S w'')/\Hid (∀ x:Wd S,∀ i,i∈L->∀ o,x.w.cell? ⟨i,o,none⟩=u.cell? ⟨i,o,none⟩):=by
 refine⟨fun w'=>∀ i,i∈L->i<w'.heap.size/\w'.heap[i]?=u.heap[i]?,fun w' hb i hi=>⟨Nat.lt_of_lt_of_le (hL i hi) hb.size,hb.block i (hL i hi)⟩,fun w' p v hp h i hi=>?_,fun w' o h i hi=>?_,fun w' w'' G hu hG h i hi=>?_,fun x i hi o=>?_⟩
 ·obtain⟨h1,h2⟩:=h i hi
  exact⟨by simpa [World.setCell] using h1,(Below.heap_setCell w' p v i (fun e=>hp (e ▸ hi))).trans h2⟩
 ·obtain⟨h1,h2⟩:=h i hi
  exact⟨by simp;omega,(Below.heap_alloc w' o i h1).trans h2⟩
 ·obtain⟨h1,h2⟩:=h i hi
  exact⟨Nat.lt_of_lt_of_le h1 hu.size,(hu.block i h1 (hG i hi)).trans h2⟩
 ·obtain⟨_,h2⟩:=x.h i hi
  exact World.cell?_of_block (w:=u) h2
end
section
attribute [local go_sem] af ah ae
def LV (w:World) (l:PL) (v:Value):Prop:=∃ A c F,RI mxE w A l.2.length c l.2 F/\LOv w l.1 A l.2.length c l.2 v
theorem LOv.below {w w':World} {k:Int} {A:Option Addr} {n cap:Nat} {ms:List Mx} {v:Value} (h:LOv w k A n cap ms v) (hb:Below w.heap.size w w'):LOv w' k A n cap ms v:=by
 rcases h with h|⟨h0,h|h|h⟩
 ·exact .inl h
 ·obtain⟨h1,A0,p0,F0,A1,p1,F1,m0,m1,e0,e1,f0,f1,hv⟩:=h
  exact .inr ⟨h0,.inl ⟨h1,A0,p0,F0,A1,p1,F1,m0,m1,e0,e1,f0.au (fun g hg=>hb.block g (f0.lt g hg)),f1.au (fun g hg=>hb.block g (f1.lt g hg)),hv⟩⟩
 ·exact .inr ⟨h0,.inr (.inl h)⟩
 ·exact .inr ⟨h0,.inr (.inr h)⟩
theorem LOv.iface {w:World} {k:Int} {A:Option Addr} {n cap:Nat} {ms:List Mx} {v:Value} (h:LOv w k A n cap ms v) (hl:aL k ms=true):∃ T x,v= .iface T x:=by
 rcases h with h|⟨_,h|h|h⟩
 ·rw[hl] at h;cases h.1
 ·obtain⟨_,_,_,_,_,_,_,_,_,_,_,_,_,rfl⟩:=h
  exact⟨_,_,rfl⟩
 ·exact⟨_,_,h.2⟩
 ·exact⟨_,_,h.2⟩
theorem ud {l:PL} (h:aL l.1 l.2=true):l.2.length<=3:=by
 rcases eM h with⟨_,a,b,e,_⟩|⟨_,e⟩|⟨_,a,b,c,e,_⟩ <;> rw[e] <;> simp
theorem LV.below {w w':World} {l:PL} {v:Value} (h:LV w l v) (hb:Below w.heap.size w w'):LV w' l v:=by
 obtain⟨A,c,F,h1,h2⟩:=h
 exact⟨A,c,F,h1.below hb,h2.below hb⟩
def LR (w:World) (net:List PL) (j:Nat) (vs:List Value):Prop:=vs.length=j/\∀ i l v,i<j->net[i]?=some l->vs[i]?=some v->LV w l v
theorem LR.below {w w':World} {net:List PL} {j:Nat} {vs:List Value} (h:LR w net j vs) (hb:Below w.heap.size w w'):LR w' net j vs:=⟨h.1,fun i l v hi hl hv=>(h.2 i l v hi hl hv).below hb⟩
theorem LR.push {w:World} {net:List PL} {j:Nat} {vs:List Value} {l:PL} {v:Value} (h:LR w net j vs) (hl:net[j]?=some l) (hv:LV w l v):LR w net (j+1) (vs++[v]):=by
 refine⟨by rw[List.length_append,h.1];rfl,fun i l' v' hi hl' hv'=>?_⟩
 by_cases e:i=j
 ·subst e;rw[hl] at hl';injection hl' with e1;subst e1;rw[List.getElem?_append_right (by rw[h.1];omega),h.1,Nat.sub_self] at hv'
  injection hv' with e2;subst e2
  exact hv
 ·rw[List.getElem?_append_left (by rw[h.1];omega)] at hv'
  exact h.2 i l' v' (by omega) hl' hv'
theorem Ao:(prog.info? 110).map (fun i=>(i.zero,i.size,i.bytes))=some (some .nilIface,1,16):=by kernel_rfl
theorem ze (n:Nat) (hn:n<=1048576) (w:World):(Instr.makeSlice 105 (.int .i64 (n:Int)) (.int .i64 (n:Int))).run prog w= .ok (.slice (some ⟨w.heap.size,0,none⟩) n n) (w.alloc (.cells (madeCells #[.nilIface] (n*1)) 110)):=by
 obtain⟨i,hi,hz,h1,h8⟩:=info_parts Ao;have h:=run_make (P:=prog) w 105 110 i _ underlying105 hi hz .i64 .i64 (n:Int) (n:Int) (by omega) (Int.le_refl _) (by rw[h8];omega) (by omega)
 rw[h,h1];simp only[Int.toNat_natCast]
 rfl
def Cr (net:List PL) (w:World) (e:Ending) (w':World):Prop:=∃ g vs,e= .returned (.tuple #[.slice (some ⟨g,0,none⟩) net.length net.length,.bool true])/\VO w' w.heap.size 110 1 (some ⟨g,0,none⟩) net.length net.length vs/\LR w net net.length vs/\Below w.heap.size w w'
theorem By (n:Nat):(List.replicate n ([Value.nilIface])).flatten=List.replicate n Value.nilIface:=by
 induction n with
 | zero=>rfl
 | succ n ih=>rw[List.replicate_succ,List.flatten_cons,ih];rfl
theorem hM {net:List PL} (hv:tb net) {A:Option Addr} {cap:Nat} {F:List Nat} (w:World) (hx:RI (kE mxE) w A net.length cap net F) (hms:∀ l,l∈net->∀ m,m∈l.2->mS m) :
  Calls prog 62 #[.slice A net.length cap] w (Cr net w):=by
 obtain⟨n,hn⟩:∃ n,n=net.length:=⟨_,rfl⟩;have h4:n<=4:=by rw[hn];exact hv.1
 rw[<-hn] at hx ⊢;have t4:(n:Int)<=4:=by omega
 have hmk:=fun W:World=>ze n (by omega) W
 obtain⟨OB,hO⟩:∃ OB,OB=(Obj.cells (madeCells #[.nilIface] (n*1)) 110):=⟨_,rfl⟩;have H0:Hid (VO (w.alloc OB) w.heap.size 110 1 (some ⟨w.heap.size,0,none⟩) n n ([]++List.replicate (n-0) Value.nilIface)):=by
  have h:=VO.made w 110 #[.nilIface] (by decide) n (by unfold maxLen;omega)
  rw[<-By,hO]
  exact h
 have B0:Hid (Below w.heap.size w (w.alloc OB)):=Qb.alloc Ql _;rw[<-hO] at hmk;have HV:=Qh hv;have HX:=Qh hx;have HMS:=Qh hms;have HN:=Qh hn;clear hO hv hx hms hn
 go_enter func62,ntmps62
 go_wp2
 go_loopw [17] (fun i wr=>∃ (j:Nat) (vs:List Value),j<=n/\i= .int .i64 j/\Hid (VO wr w.heap.size 110 1 (some ⟨w.heap.size,0,none⟩) n n (vs++List.replicate (n-j) Value.nilIface))/\Hid (LR w net j vs)/\Hid (Below w.heap.size w wr)) (fun i _=>n-(intOf i).toNat)
 case atStart=>exact⟨0,[],Nat.zero_le _,rfl,H0,⟨rfl,fun i l v hi=>absurd hi (by omega)⟩,B0⟩
 case round =>
 clear H0 B0 hmk;obtain⟨j,vs,hj,rfl,hvo,hlr,hob⟩:=hrel
 by_cases hlt:j<n
 ·obtain⟨l,hlj,hmem⟩:=aH (xs:=net) (j:=j) (by have:=HN.out;omega)
  have HLJ:=Qh hlj;have HMEM:=Qh hmem;clear hlj hmem;obtain⟨b,off,cs,Fx,rfl,hbl,hc,_,Aw,cw,rfl,hrw⟩:=HX.out.cells HLJ.out 2 rfl;have d0:wr.cell? ⟨b,off+j*2,none⟩=some (.int .i64 l.1):=(hob.out.cell (p:=⟨b,off+j*2,none⟩) hbl).trans (hc 0 (by omega))
  have d1:wr.cell? ⟨b,off+j*2+1,none⟩=some (.slice Aw l.2.length cw):=(hob.out.cell (p:=⟨b,off+j*2+1,none⟩) hbl).trans (hc 1 (by omega))
  have zb:b<wr.heap.size:=Nat.lt_of_lt_of_le hbl hob.out.size;have k0:(0:Int)<=(j:Int):=by omega
  have k1:(j:Int)<(n:Int):=by omega
  have HRW:=Qh hrw;clear hc hrw;have HB1:=Qh ((Below.refl wr.heap.size wr).alloc Ql (.cells #[.int .i64 l.1,.slice Aw l.2.length cw] 80));have hl25:l.2.length<=1048576:=by have:=ud (HV.out.2 l HMEM.out);omega
  go_wp2_with fail
  refine(lj l.1 Aw l.2.length cw l.2 _ w _ HRW.out (hob.out.trans (HB1.out.mono hob.out.size)) (HMS.out l HMEM.out) hl25).mono ?_;rintro e w5 ⟨v,rfl,hlv,hb⟩;rw[HV.out.2 l HMEM.out];obtain⟨Tv,xv,rfl⟩:=hlv.iface (HV.out.2 l HMEM.out);obtain⟨v,hvv⟩:∃ v,v=Value.iface Tv xv:=⟨_,rfl⟩;rw[<-hvv] at hlv;have hb2:Below wr.heap.size wr w5:=HB1.out.trans (hb.mono HB1.out.size);have hLV:LV w l v:=⟨Aw,cw,_,HRW.out,hlv⟩;have hvo5:=hvo.out.below hb2;have hlr5:=hlr.out;have hln:=hlr5.1;have hrep:List.replicate (n-j) Value.nilIface= .nilIface::List.replicate (n-(j+1)) .nilIface:=by rw[show n-j=(n-(j+1))+1 by omega];rfl
  rw[hrep] at hvo5;have cg:w5.cell? ⟨w.heap.size,j,none⟩=some .nilIface:=by
   rw[hvo5.cell j (by omega),List.getElem?_append_right (by omega),hln,Nat.sub_self];rfl
  have fg:=hvo5.frozen j;have zg:=(hvo5.aj _ rfl).2;have hst:=hvo5.store j v;rw[List.set_append_right _ _ (by omega),hln,Nat.sub_self,List.set_cons_zero] at hst
  have HST:Hid (VO (w5.setCell ⟨w.heap.size,j,none⟩ v) w.heap.size 110 1 (some ⟨w.heap.size,0,none⟩) n n ((vs++[v])++List.replicate (n-(j+1)) Value.nilIface)):=by rw[List.append_assoc];exact hst
  have HBN:Hid (Below w.heap.size w (w5.setCell ⟨w.heap.size,j,none⟩ v)):=(hob.out.trans (hb2.mono hob.out.size)).setCell Ql _;have HLP:=Qh (hlr5.push HLJ.out hLV);clear hst hvo5 hlr5 hLV hlv hb hb2;subst hvv;clear hrep hln HB1 HRW;go_wp2
  go_roundw
  case rel=>exact⟨j+1,vs++[.iface Tv xv],by omega,by go_num,HST,HLP,HBN⟩
  case measure=>simp[intOf];omega
 ·obtain rfl:j=n:=by omega
  rw[Nat.sub_self,List.replicate_zero,List.append_nil] at hvo;go_wp2
  go_ret2
  exact⟨w.heap.size,vs,by rw[<-HN.out];rfl,by rw[<-HN.out];exact hvo.out,by rw[<-HN.out];exact hlr.out,hob.out⟩
end
section
attribute [local go_sem] af ah ae
theorem LV.cases {w:World} {l:PL} {v:Value} (h:LV w l v) (hl:aL l.1 l.2=true) :
  (∃ a b A0 p0 A1 p1,l=(1,[a,b])/\(mvB a=true/\mvB b=true/\b.c=1/\b.r=a.r)/\RM w (MV a.r a.c A0 a.v.length p0) a/\RM w (MV b.r b.c A1 b.v.length p1) b/\v= .iface 178 (.agg #[.int .i64 a.r,.int .i64 a.c,.slice A0 a.v.length p0,.int .i64 b.r,.int .i64 b.c,.slice A1 b.v.length p1])) \/
  (l=(2,[])/\v= .iface 180 (.agg #[])) \/
  (∃ a b c g off cap F,l=(3,[a,b,c])/\(mvB a=true/\mvB b=true/\mvB c=true/\a.r=a.c/\b.r=a.c/\b.c=a.c/\c.r=a.c/\c.c=a.c)/\RI mxE w (some ⟨g,off,none⟩) 3 cap [a,b,c] F/\(g<w.heap.size/\w.cell? ⟨g,off,none⟩=some (.int .i64 a.r))/\v= .iface 183 (.agg #[.slice (some ⟨g,off,none⟩) 3 cap])):=by
 obtain⟨A,c,F,hr,h⟩:=h;obtain⟨k,ms⟩:=l
 dsimp only at hl hr h
 rcases h with h|⟨_,h|h|h⟩
 ·rw[hl] at h;cases h.1
 ·obtain⟨rfl,A0,p0,F0,A1,p1,F1,m0,m1,e0,e1,f0,f1,hv⟩:=h;rcases eM (l:=(1,ms)) hl with⟨_,a,b,e,h1,h2,h3,h4⟩|⟨e,_⟩|⟨e,_⟩
  ·dsimp only at e
   subst e;injection e0 with e0;injection e1 with e1;subst e0;subst e1
   exact .inl ⟨a,b,A0,p0,A1,p1,rfl,⟨h1,h2,h3,h4⟩,RM.mk f0.1 f0.2.1 f0.2.2.1,RM.mk f1.1 f1.2.1 f1.2.2.1,hv⟩
  ·cases e
  ·cases e
 ·obtain⟨rfl,hv⟩:=h;rcases eM (l:=(2,ms)) hl with⟨e,_⟩|⟨_,e⟩|⟨e,_⟩
  ·cases e
  ·dsimp only at e
   subst e
   exact .inr (.inl ⟨rfl,hv⟩)
  ·cases e
 ·obtain⟨rfl,hv⟩:=h;rcases eM (l:=(3,ms)) hl with⟨e,_⟩|⟨e,_⟩|⟨_,a,b,c',e,h1⟩
  ·cases e
  ·cases e
  ·dsimp only at e
   subst e;obtain⟨g,off,cs,F',rfl,hg,hc,_,A1,p1,rfl,_⟩:=hr.cells (i:=0) (x:=a) rfl 3 rfl
   exact .inr (.inr ⟨a,b,c',g,off,c,F,rfl,h1,hr,⟨hg,by have:=hc 0 (by omega);simpa using this⟩,hv⟩)
def okR:Option (Int×Int)->Int->Int->Bool->Prop
 | some rc,x,y,ok=>ok=true/\x=rc.1/\y=rc.2
 | none,_,_,ok=>ok=false
def NSd (b:Bool) (w:World) (e:Ending) (w':World):Prop:=∃ x y:Int,e= .returned (.tuple #[.int .i64 x,.int .i64 y,.bool b])/\Below w.heap.size w w'
theorem eo {net:List PL} (hv:tb net) {A:Option Addr} {cap:Nat} {F:List Nat} {r c:Int} (hr:side r=true) (hc:side c=true) (w:World) (hx:RI (kE mxE) w A net.length cap net F) (hms:∀ l,l∈net->∀ m,m∈l.2->mS m) :
  Calls prog 61 #[.slice A net.length cap,.int .i64 r,.int .i64 c] w (NSd (bE net (some (r,c))).isSome w):=by
 have HV:=Qh hv;have HX:=Qh hx;have HMS:=Qh hms;clear hv hx hms
 go_enter func61,ntmps61
 go_wp2_with fail
 refine Qc (dj hr w) ?_
 go_wp2_with fail
 refine Qc (dj hc w) ?_
 go_wp2_with fail
 refine(hM HV.out w HX.out HMS.out).mono ?_;rintro e w1 ⟨g,vs,rfl,hvo,hlr,hb⟩;obtain⟨n,hn⟩:∃ n,n=net.length:=⟨_,rfl⟩;rw[<-hn] at hvo hlr ⊢;have HVO:=Qh hvo;have HLR:=Qh hlr;have HB:=Qh hb;have h4:n<=4:=by rw[hn];exact HV.out.1
 have HN:=Qh hn;have H0:Hid (okR (bE (net.take 0) (some (r,c))) r c true):=⟨rfl,rfl,rfl⟩;clear hvo hlr hb hn HX;go_wp2
 go_loopw [1,2,10,28] (fun x y o i wr=>∃ (j:Nat) (a b:Int) (ok:Bool),j<=n/\x= .int .i64 a/\y= .int .i64 b/\o= .bool ok/\i= .int .i64 j/\Hid (okR (bE (net.take j) (some (r,c))) a b ok)/\Hid (Below w1.heap.size w1 wr)) (fun _ _ _ i _=>n-(intOf i).toNat)
 case atStart=>exact⟨0,r,c,true,Nat.zero_le _,rfl,rfl,rfl,rfl,H0,Below.refl _ _⟩
 case round =>
 clear H0;obtain⟨j,x,y,ok,hj,rfl,rfl,rfl,rfl,hok,hob⟩:=hrel
 by_cases hlt:j<n
 ·obtain⟨l,hlj,hmem⟩:=aH (xs:=net) (j:=j) (by have:=HN.out;omega)
  have HLJ:=Qh hlj;have hlen:=HLR.out.1;obtain⟨v,hvj,_⟩:=aH (xs:=vs) (j:=j) (by omega)
  have hlv:=HLR.out.2 j l v hlt hlj hvj;have hla:=HV.out.2 l hmem;have cv:=(hob.out.cell (p:=⟨g,j,none⟩) (HVO.out.aj _ rfl).2).trans ((HVO.out.cell j (by omega)).trans hvj)
  have zg:=Nat.lt_of_lt_of_le (HVO.out.aj _ rfl).2 hob.out.size;have hwr:Below w.heap.size w wr:=HB.out.trans (hob.out.mono HB.out.size);have zow:=hwr.size;clear hlj hmem hvj hlen
  cases ok
  ·have HS1:Hid (okR (bE (net.take (j+1)) (some (r,c))) x y false):=by
    rw[eh HLJ.out];have h:=hok.out
    cases e:bE (net.take j) (some (r,c)) with
    | none=>rfl
    | some rc=>rw[e] at h;cases h.1
   clear hok;rcases hlv.cases hla with⟨_,_,_,_,_,_,_,_,_,_,rfl⟩|⟨_,rfl⟩|⟨_,_,_,_,_,_,_,_,_,_,_,rfl⟩
   all_goals
    clear hlv hla HLJ;go_wp2
    go_roundw
    case rel=>exact⟨j+1,x,y,false,by omega,rfl,rfl,rfl,by go_num,HS1,hob⟩
    case measure=>simp[intOf];omega
  ·have hs:bE (net.take j) (some (r,c))=some (x,y):=by
    have h:=hok.out
    cases e:bE (net.take j) (some (r,c)) with
    | none=>rw[e] at h;cases h
    | some rc=>rw[e] at h;obtain⟨_,rfl,rfl⟩:=h;rfl
   clear hok;have HS1:Hid (bE (net.take (j+1)) (some (r,c))=dr l (x,y)):=by rw[Hid,eh HLJ.out,hs];rfl
   clear hs HLJ;rcases hlv.cases hla with⟨a,b,A0,p0,A1,p1,rfl,hm,_,_,rfl⟩|⟨rfl,rfl⟩|⟨a,b,c',gm,om,cm,Fm,rfl,hm,_,hgc,rfl⟩
   ·have HS2:Hid (okR (bE (net.take (j+1)) (some (r,c))) a.r y (a.c == x)):=by rw[Hid,HS1.out];unfold dr;rw[if_pos rfl];simp only[List.getD_cons_zero];by_cases e:a.c=x <;> simp[okR,e]
    clear hlv hla HS1 hm
    go_wp2_with fail
    refine(jq _ _ _ _ _ _ _ _ wr).mono ?_;rintro e w2 ⟨rfl,hb⟩;have HO2:Hid (Below w1.heap.size w1 w2):=hob.out.trans (hb.mono hob.out.size);clear hb;go_wp2
    go_roundw
    case rel=>exact⟨j+1,a.r,y,(a.c == x),by omega,rfl,rfl,rfl,by go_num,HS2,HO2⟩
    case measure=>simp[intOf];omega
   ·have HS2:Hid (okR (bE (net.take (j+1)) (some (r,c))) x y true):=by rw[Hid,HS1.out];unfold dr;rw[if_neg (by decide),if_pos rfl];simp[okR]
    clear hlv hla HS1
    go_wp2_with fail
    refine(kj _ _ wr).mono ?_;rintro e w2 ⟨rfl,hb⟩;have HO2:Hid (Below w1.heap.size w1 w2):=hob.out.trans (hb.mono hob.out.size);clear hb;go_wp2
    go_roundw
    case rel=>exact⟨j+1,x,y,true,by omega,rfl,rfl,rfl,by go_num,HS2,HO2⟩
    case measure=>simp[intOf];omega
   ·have HS2:Hid (okR (bE (net.take (j+1)) (some (r,c))) x y (a.r == y)):=by rw[Hid,HS1.out];unfold dr;rw[if_neg (by simp),if_neg (by simp)];simp only[List.getD_cons_zero];by_cases e:a.r=y <;> simp[okR,e]
    clear hlv hla HS1 hm
    go_wp2_with fail
    refine(DL _ _ _ wr (Nat.lt_of_lt_of_le hgc.1 zow) ((hwr.cell (p:=⟨gm,om,none⟩) hgc.1).trans hgc.2)).mono ?_;rintro e w2 ⟨rfl,hb⟩;have HO2:Hid (Below w1.heap.size w1 w2):=hob.out.trans (hb.mono hob.out.size);clear hb;go_wp2
    go_roundw
    case rel=>exact⟨j+1,x,y,(a.r == y),by omega,rfl,rfl,rfl,by go_num,HS2,HO2⟩
    case measure=>simp[intOf];omega
 ·obtain rfl:j=n:=by omega
  have hs:=hok.out;rw[List.take_of_length_le (by have:=HN.out;omega)] at hs
  have hwr:Below w.heap.size w wr:=HB.out.trans (hob.out.mono HB.out.size);obtain⟨hss⟩:Nonempty (Hid (ok=(bE net (some (r,c))).isSome)):=by
   refine⟨?_⟩
   cases e:bE net (some (r,c)) with
   | none=>rw[e] at hs;exact hs
   | some rc=>rw[e] at hs;exact hs.1
  clear hs hok
  cases ok
  ·go_wp2
   exact bodyPost_ret (v:= .tuple #[.int .i64 0,.int .i64 0,.bool false]) (by simp[results,results61,go_sem]) rfl ⟨0,0,by rw[<-hss.out],hwr⟩
  ·go_wp2
   exact bodyPost_ret (v:= .tuple #[.int .i64 x,.int .i64 y,.bool true]) (by simp[results,results61,go_sem]) rfl ⟨x,y,by rw[<-hss.out],hwr⟩
attribute [local go_sem] NV lkN Nd.add cpN scN
theorem wF {l:PL} (hl:aL l.1 l.2=true) {x y:Int} (hx:side x=true) (hy:side y=true):nB (ndL l (x,y)) 1000:=by
 obtain⟨p1,p2⟩:=dh hx hy;obtain⟨p3,p4⟩:=dh hx hx;obtain⟨p5,p6⟩:=dh hy hy;obtain⟨p7,p8⟩:=bI hx;rcases eM hl with⟨h1,a,b,e,h2,_⟩|⟨h1,e⟩|⟨h1,a,b,c,e,_⟩
 ·have:ndL l (x,y)=cpN a.r x y:=by unfold ndL;rw[if_pos h1,e];rfl
  rw[this]
  exact(nB.cp (aA h2).1 hx hy).le (by omega)
 ·have:ndL l (x,y)=lkN (x*y):=by unfold ndL;rw[if_neg (by omega),if_pos h1]
  rw[this]
  exact(nB.lk (by omega) (by omega)).le (by omega)
 ·unfold ndL;rw[if_neg (by omega),if_neg (by omega)]
  constructor <;> dsimp only <;> omega
theorem rC {net:List PL} (hv:tb net) {A:Option Addr} {cap:Nat} {F:List Nat} {r c:Int} (hr:side r=true) (hc:side c=true) (hs:(bE net (some (r,c))).isSome=true) (w:World) (hx:RI (kE mxE) w A net.length cap net F) (hms:∀ l,l∈net->∀ m,m∈l.2->mS m) :
  Calls prog 128 #[.slice A net.length cap,.int .i64 r,.int .i64 c] w (fb (ndN net (Nd.z,some (r,c))).1 w):=by
 have HV:=Qh hv;have HX:=Qh hx;have HMS:=Qh hms;have HS:=Qh hs;have HR:=Qh hr;have HC:=Qh hc;clear hv hx hms hs hr hc
 go_enter func128,ntmps128
 go_wp2_with fail
 obtain⟨uw1,hu⟩:∃ u,u=(w.alloc (.cells #[.int .i64 0,.int .i64 0,.int .i64 0,.int .i64 0] 92)):=⟨_,rfl⟩;rw[<-hu];have B1:Blk uw1 (w.heap.size) 92 #[.int .i64 0,.int .i64 0,.int .i64 0,.int .i64 0]:=Blk.cast hu (Blk.iA (by first|omega|(simp;done)|(simp;omega)))
 have O:Below w.heap.size w uw1:=Below.cast hu (Qb.alloc (by first|omega|(simp;done)|(simp;omega)) _)
 have mw:=O.size;clear hu;refine(eo HV.out HR.out HC.out uw1 (HX.out.below O) HMS.out).mono ?_;rintro e w2 ⟨x0,y0,rfl,hb⟩;replace B1:=B1.aa hb;replace O:=O.trans (hb.mono mw);replace mw:=O.size;rw[HS.out];clear hb;obtain⟨z1,c1_0,f1_0,c1_1,f1_1,c1_2,f1_2,c1_3,f1_3⟩:=B1.f4
 go_wp2_with fail
 refine(hM HV.out w2 (HX.out.below O) HMS.out).mono ?_;rintro e w3 ⟨g,vs,rfl,hvo,hlr,hb⟩;have HB3:=Qh hb;replace B1:=B1.aa hb;replace O:=O.trans (hb.mono mw);replace mw:=O.size;clear z1 c1_0 f1_0 c1_1 f1_1 c1_2 f1_2 c1_3 f1_3;clear hb;obtain⟨z1,c1_0,f1_0,c1_1,f1_1,c1_2,f1_2,c1_3,f1_3⟩:=B1.f4;have HB1:=Qh B1;have HOB:=Qh O;go_wp2;obtain⟨uw4,hu⟩:∃ u,u=(w3.alloc (.cells #[.int .i64 0,.int .i64 0,.int .i64 0,.int .i64 0] 92)):=⟨_,rfl⟩;rw[<-hu];replace B1:=Blk.cast hu (B1.alloc _);have B2:Blk uw4 (w3.heap.size) 92 #[.int .i64 0,.int .i64 0,.int .i64 0,.int .i64 0]:=Blk.cast hu (Blk.iA (by first|omega|(simp;done)|(simp;omega)))
 have xb2:w.heap.size<=w3.heap.size:=by omega
 have y1_2:w.heap.size<w3.heap.size:=by omega
 replace O:=Below.cast hu (O.alloc (by first|omega|(simp;done)|(simp;omega)) _)
 replace mw:=O.size;clear z1 c1_0 f1_0 c1_1 f1_1 c1_2 f1_2 c1_3 f1_3;have HB0:Hid (Below w3.heap.size w3 uw4):=Below.cast hu (Qb.alloc Ql _);clear hu;obtain⟨n,hn⟩:∃ n,n=net.length:=⟨_,rfl⟩;rw[<-hn] at hvo hlr ⊢;have HVO:=Qh hvo;have HLR:=Qh hlr;have h4:n<=4:=by rw[hn];exact HV.out.1
 have HN:=Qh hn;have hgA:w.heap.size<w3.heap.size:=HB1.out.lt;have hg:g<w3.heap.size:=(hvo.aj _ rfl).2;have H0:Hid (ndN (net.take 0) (Nd.z,some (r,c))=(Nd.z,some (r,c))):=rfl;have HB2:=Qh B2;clear hvo hlr hn HX B1 B2 O mw
 go_loopw [1,2,33] (fun x y i wr=>∃ (j:Nat) (a b:Int) (Z:Nd),j<=n/\x= .int .i64 a/\y= .int .i64 b/\i= .int .i64 j/\Hid (ndN (net.take j) (Nd.z,some (r,c))=(Z,some (a,b))/\side a=true/\side b=true/\nB Z (1000*j))/\Hid (Blk wr w3.heap.size 92 #[.int .i64 Z.a,.int .i64 Z.b,.int .i64 Z.c,.int .i64 Z.d])/\Hid (Below w3.heap.size w3 wr)) (fun _ _ i _=>n-(intOf i).toNat)
 case atStart=>exact⟨0,r,c,Nd.z,Nat.zero_le _,rfl,rfl,rfl,⟨H0,HR.out,HC.out,nB.z⟩,HB2,HB0⟩
 case round =>
 clear H0 HB0 HB2;obtain⟨j,x,y,Z,hj,rfl,rfl,rfl,hz,BA,O⟩:=hrel;obtain⟨hz1,sx,sy,hz2⟩:=hz.out;have BA:=BA.out;have O:=O.out;have mw:=O.size
 by_cases hlt:j<n
 ·obtain⟨l,hlj,hmem⟩:=aH (xs:=net) (j:=j) (by have:=HN.out;omega)
  have hlen:=HLR.out.1;obtain⟨v,hvj,_⟩:=aH (xs:=vs) (j:=j) (by omega)
  have hlv:=HLR.out.2 j l v hlt hlj hvj;have hla:=HV.out.2 l hmem;have cv:=(O.cell (p:=⟨g,j,none⟩) hg).trans ((HVO.out.cell j (by omega)).trans hvj)
  have zg:=Nat.lt_of_lt_of_le hg O.size;have hnd:=wF hla sx sy;obtain⟨Z1,hZ1⟩:∃ Z1,Z1=Z.add (ndL l (x,y)):=⟨_,rfl⟩;have hzz:=rW hlj (Nd.z,some (r,c));rw[hz1] at hzz
  dsimp only at hzz
  rw[<-hZ1] at hzz;have hq:∃ x' y',dr l (x,y)=some (x',y'):=by
   cases e:dr l (x,y) with
   | none =>
    have h1:bE (net.take (j+1)) (some (r,c))=none:=by rw[<-qo _ (Nd.z,some (r,c)),hzz];exact e
    have h2:=HS.out;rw[gJ h1] at h2
    cases h2
   | some rc=>exact⟨rc.1,rc.2,rfl⟩
  obtain⟨x',y',hq⟩:=hq;obtain⟨sx',sy'⟩:=uy (rc:=(x,y)) hla sx sy hq;have hz3:ndN (net.take (j+1)) (Nd.z,some (r,c))=(Z1,some (x',y')):=by rw[hzz];exact congrArg _ hq
  have HZ:Hid (ndN (net.take (j+1)) (Nd.z,some (r,c))=(Z1,some (x',y'))/\side x'=true/\side y'=true/\nB Z1 (1000*(j+1:Nat))):=⟨hz3,sx',sy',by rw[hZ1];exact hz2.add hnd (by omega)⟩
  have HZ1:=Qh hZ1;have HZ2:=Qh hz2;have HND:=Qh hnd;have SX:=Qh sx;have SY:=Qh sy;have HQ:=Qh hq;clear hlj hmem hvj hlen hz hz1 sx sy hz2 hnd hZ1 hzz hq sx' sy' hz3;rcases hlv.cases hla with⟨a,b,A0,p0,A1,p1,rfl,hm,_,_,rfl⟩|⟨rfl,rfl⟩|⟨a,b,c',gm,om,cm,Fm,rfl,hm,_,hgc,rfl⟩
  ·obtain⟨z9,c9_0,f9_0,c9_1,f9_1,c9_2,f9_2,c9_3,f9_3⟩:=BA.f4;have hxy:a.r=x'/\y=y':=by have h:=HQ.out;unfold dr at h;rw[if_pos rfl] at h;simp only[List.getD_cons_zero] at h;split at h <;> simp at h;obtain⟨h1,h2⟩:=h;exact⟨h1,h2⟩
   obtain⟨rfl,rfl⟩:=hxy;have HZA:Hid (Z1=Z.add (cpN a.r x y)):=HZ1.out;have HNB:Hid (nB (cpN a.r x y) 1000):=HND.out;have HM:=Qh hm;clear hm;clear HZ1 HND HQ hlv hla
   go_wp2_with fail
   clear z9 c9_0 f9_0 c9_1 f9_1 c9_2 f9_2 c9_3 f9_3;obtain⟨S,KP,KQ,KA,G9⟩:=uf BA;obtain⟨g9_0,g9_1,g9_2,g9_3⟩:=Cs.f4 G9;refine eH true S (by kernel_rfl) (by kernel_rfl) (fun _=>by kernel_rfl) (KP.out _ Qb.drew) ?_
   intro hne;have hb:=(Below.refl wr.heap.size wr).drew;obtain⟨w11,hd⟩:∃ u,u=wr.drew:=⟨_,rfl⟩;rw[<-hd] at hb ⊢
   (try simp only[Nat.add_assoc,Nat.reduceAdd])
   clear hd;have X:=Qh hb;replace BA:=BA.aa hb;replace O:=O.trans (hb.mono mw);replace mw:=O.size;clear hb
   repeat (first|(refine aF (by rfl) (by rfl) ?_;intro K hK;go_big_quiet_op;go_big_quiet_on)|(refine aG (by rfl) ?_))
   refine bj (by rfl) (by rfl) (fun K hK=>?_)
   unfold Oper.gives
   go_simp
   go_invoke;go_simp
   refine(oS (aA HM.out.1).1 SX.out SY.out w11).mono ?_;rintro e w12 ⟨rfl,hb⟩;replace X:=Qh (X.out.trans (hb.mono X.out.size));refine⟨_,rfl,hK _ _ ⟨⟨_,KP.out _ X.out⟩,rfl⟩ ?_⟩;clear hK K;replace BA:=BA.aa hb;replace O:=O.trans (hb.mono mw);replace mw:=O.size;clear hb
   repeat (first|(refine aF (by rfl) (by rfl) ?_;intro K hK;go_big_quiet_op;go_big_quiet_on)|(refine aG (by rfl) ?_))
   refine bj (by rfl) (by rfl) (fun K hK=>?_)
   unfold Oper.gives
   go_simp
   refine(bY HZA HZ2.out HNB.out (by omega) (by omega) w12).mono ?_
   rintro e w13 ⟨rfl,hb⟩;replace X:=Qh (X.out.trans (hb.mono X.out.size));refine⟨_,rfl,hK _ _ ⟨⟨_,KP.out _ X.out⟩,rfl⟩ ?_⟩;clear hK K;replace BA:=BA.aa hb;replace O:=O.trans (hb.mono mw);replace mw:=O.size;clear hb
   repeat (first|(refine aF (by rfl) (by rfl) ?_;intro K hK;go_big_quiet_op;go_big_quiet_on)|(refine aG (by rfl) ?_))
   obtain⟨z9,c9_0,f9_0,c9_1,f9_1,c9_2,f9_2,c9_3,f9_3⟩:=BA.f4;refine aV rfl (by rfl) (by rfl) (fun K hK=>?_)
   unfold Oper.gives
   go_simp
   refine hK _ _ ?_;clear hK K;clear z9 c9_0 f9_0 c9_1 f9_1 c9_2 f9_2 c9_3 f9_3
   repeat (first|(refine aF (by rfl) (by rfl) ?_;intro K hK;go_big_quiet_op;go_big_quiet_on)|(refine aG (by rfl) ?_))
   refine aI ?_;clear hne KP KQ KA X g9_0 g9_1 g9_2 g9_3 G9;obtain⟨z9,c9_0,f9_0,c9_1,f9_1,c9_2,f9_2,c9_3,f9_3⟩:=BA.f4
   go_wp2_with fail
   obtain⟨uw14,hu⟩:∃ u,u=((((w13.setCell ⟨w3.heap.size,0,none⟩ (.int .i64 Z1.a)).setCell ⟨w3.heap.size,1,none⟩ (.int .i64 Z1.b)).setCell ⟨w3.heap.size,2,none⟩ (.int .i64 Z1.c)).setCell ⟨w3.heap.size,3,none⟩ (.int .i64 Z1.d)):=⟨_,rfl⟩;rw[<-hu];replace BA:Blk uw14 (w3.heap.size) 92 #[.int .i64 Z1.a,.int .i64 Z1.b,.int .i64 Z1.c,.int .i64 Z1.d]:=Blk.cast hu ((((BA.dc 0 _).dc 1 _).dc 2 _).dc 3 _);have q1:w3.heap.size<=w3.heap.size:=by omega
   replace O:=Below.cast hu ((((O.setCell q1 _).setCell q1 _).setCell q1 _).setCell q1 _);replace mw:=O.size;clear z9 c9_0 f9_0 c9_1 f9_1 c9_2 f9_2 c9_3 f9_3;clear hu;clear q1;refine(jq _ _ _ _ _ _ _ _ uw14).mono ?_;rintro e w15 ⟨rfl,hb⟩;replace BA:=BA.aa hb;replace O:=O.trans (hb.mono mw);replace mw:=O.size;clear hb;obtain⟨z9,c9_0,f9_0,c9_1,f9_1,c9_2,f9_2,c9_3,f9_3⟩:=BA.f4;clear z9 c9_0 f9_0 c9_1 f9_1 c9_2 f9_2 c9_3 f9_3;go_wp2
   go_roundw
   case rel=>exact⟨j+1,_,_,Z1,by omega,rfl,rfl,by go_num,HZ,BA,O⟩
   case measure=>simp[intOf];omega
  ·obtain⟨z9,c9_0,f9_0,c9_1,f9_1,c9_2,f9_2,c9_3,f9_3⟩:=BA.f4;have hxy:x=x'/\y=y':=by have h:=HQ.out;unfold dr at h;rw[if_neg (by decide),if_pos rfl] at h;simp at h;obtain⟨h1,h2⟩:=h;exact⟨h1,h2⟩
   obtain⟨rfl,rfl⟩:=hxy;have HZA:Hid (Z1=Z.add (lkN (x*y))):=HZ1.out;have HNB:Hid (nB (lkN (x*y)) 1000):=HND.out;clear HZ1 HND HQ hlv hla
   go_wp2_with fail
   clear z9 c9_0 f9_0 c9_1 f9_1 c9_2 f9_2 c9_3 f9_3;obtain⟨S,KP,KQ,KA,G9⟩:=uf BA;obtain⟨g9_0,g9_1,g9_2,g9_3⟩:=Cs.f4 G9;refine eH true S (by kernel_rfl) (by kernel_rfl) (fun _=>by kernel_rfl) (KP.out _ Qb.drew) ?_
   intro hne;have hb:=(Below.refl wr.heap.size wr).drew;obtain⟨w11,hd⟩:∃ u,u=wr.drew:=⟨_,rfl⟩;rw[<-hd] at hb ⊢
   (try simp only[Nat.add_assoc,Nat.reduceAdd])
   clear hd;have X:=Qh hb;replace BA:=BA.aa hb;replace O:=O.trans (hb.mono mw);replace mw:=O.size;clear hb
   repeat (first|(refine aF (by rfl) (by rfl) ?_;intro K hK;go_big_quiet_op;go_big_quiet_on)|(refine aG (by rfl) ?_))
   refine bj (by rfl) (by rfl) (fun K hK=>?_)
   unfold Oper.gives
   go_simp
   go_invoke;go_simp
   refine(qi SX.out SY.out w11).mono ?_;rintro e w12 ⟨rfl,hb⟩;replace X:=Qh (X.out.trans (hb.mono X.out.size));refine⟨_,rfl,hK _ _ ⟨⟨_,KP.out _ X.out⟩,rfl⟩ ?_⟩;clear hK K;replace BA:=BA.aa hb;replace O:=O.trans (hb.mono mw);replace mw:=O.size;clear hb
   repeat (first|(refine aF (by rfl) (by rfl) ?_;intro K hK;go_big_quiet_op;go_big_quiet_on)|(refine aG (by rfl) ?_))
   refine bj (by rfl) (by rfl) (fun K hK=>?_)
   unfold Oper.gives
   go_simp
   refine(bY HZA HZ2.out HNB.out (by omega) (by omega) w12).mono ?_
   rintro e w13 ⟨rfl,hb⟩;replace X:=Qh (X.out.trans (hb.mono X.out.size));refine⟨_,rfl,hK _ _ ⟨⟨_,KP.out _ X.out⟩,rfl⟩ ?_⟩;clear hK K;replace BA:=BA.aa hb;replace O:=O.trans (hb.mono mw);replace mw:=O.size;clear hb
   repeat (first|(refine aF (by rfl) (by rfl) ?_;intro K hK;go_big_quiet_op;go_big_quiet_on)|(refine aG (by rfl) ?_))
   obtain⟨z9,c9_0,f9_0,c9_1,f9_1,c9_2,f9_2,c9_3,f9_3⟩:=BA.f4;refine aV rfl (by rfl) (by rfl) (fun K hK=>?_)
   unfold Oper.gives
   go_simp
   refine hK _ _ ?_;clear hK K;clear z9 c9_0 f9_0 c9_1 f9_1 c9_2 f9_2 c9_3 f9_3
   repeat (first|(refine aF (by rfl) (by rfl) ?_;intro K hK;go_big_quiet_op;go_big_quiet_on)|(refine aG (by rfl) ?_))
   refine aI ?_;clear hne KP KQ KA X g9_0 g9_1 g9_2 g9_3 G9;obtain⟨z9,c9_0,f9_0,c9_1,f9_1,c9_2,f9_2,c9_3,f9_3⟩:=BA.f4
   go_wp2_with fail
   obtain⟨uw14,hu⟩:∃ u,u=((((w13.setCell ⟨w3.heap.size,0,none⟩ (.int .i64 Z1.a)).setCell ⟨w3.heap.size,1,none⟩ (.int .i64 Z1.b)).setCell ⟨w3.heap.size,2,none⟩ (.int .i64 Z1.c)).setCell ⟨w3.heap.size,3,none⟩ (.int .i64 Z1.d)):=⟨_,rfl⟩;rw[<-hu];replace BA:Blk uw14 (w3.heap.size) 92 #[.int .i64 Z1.a,.int .i64 Z1.b,.int .i64 Z1.c,.int .i64 Z1.d]:=Blk.cast hu ((((BA.dc 0 _).dc 1 _).dc 2 _).dc 3 _);have q1:w3.heap.size<=w3.heap.size:=by omega
   replace O:=Below.cast hu ((((O.setCell q1 _).setCell q1 _).setCell q1 _).setCell q1 _);replace mw:=O.size;clear z9 c9_0 f9_0 c9_1 f9_1 c9_2 f9_2 c9_3 f9_3;clear hu;clear q1;refine(kj _ _ uw14).mono ?_;rintro e w15 ⟨rfl,hb⟩;replace BA:=BA.aa hb;replace O:=O.trans (hb.mono mw);replace mw:=O.size;clear hb;obtain⟨z9,c9_0,f9_0,c9_1,f9_1,c9_2,f9_2,c9_3,f9_3⟩:=BA.f4;clear z9 c9_0 f9_0 c9_1 f9_1 c9_2 f9_2 c9_3 f9_3;go_wp2
   go_roundw
   case rel=>exact⟨j+1,_,_,Z1,by omega,rfl,rfl,by go_num,HZ,BA,O⟩
   case measure=>simp[intOf];omega
  ·obtain⟨z9,c9_0,f9_0,c9_1,f9_1,c9_2,f9_2,c9_3,f9_3⟩:=BA.f4;have hxy:x=x'/\y=y':=by have h:=HQ.out;unfold dr at h;rw[if_neg (by simp),if_neg (by simp)] at h;split at h <;> simp at h;obtain⟨h1,h2⟩:=h;exact⟨h1,h2⟩
   obtain⟨rfl,rfl⟩:=hxy;have HZA:Hid (Z1=Z.add (ndL (3,[a,b,c']) (x,y))):=HZ1.out;have HNB:Hid (nB (ndL (3,[a,b,c']) (x,y)) 1000):=HND.out;have HM:=Qh hm;clear hm;clear HZ1 HND HQ hlv hla
   go_wp2_with fail
   clear z9 c9_0 f9_0 c9_1 f9_1 c9_2 f9_2 c9_3 f9_3;obtain⟨S,KP,KQ,KA,G9⟩:=uf BA;obtain⟨g9_0,g9_1,g9_2,g9_3⟩:=Cs.f4 G9;refine eH true S (by kernel_rfl) (by kernel_rfl) (fun _=>by kernel_rfl) (KP.out _ Qb.drew) ?_
   intro hne;have hb:=(Below.refl wr.heap.size wr).drew;obtain⟨w11,hd⟩:∃ u,u=wr.drew:=⟨_,rfl⟩;rw[<-hd] at hb ⊢
   (try simp only[Nat.add_assoc,Nat.reduceAdd])
   clear hd;have X:=Qh hb;replace BA:=BA.aa hb;replace O:=O.trans (hb.mono mw);replace mw:=O.size;clear hb
   repeat (first|(refine aF (by rfl) (by rfl) ?_;intro K hK;go_big_quiet_op;go_big_quiet_on)|(refine aG (by rfl) ?_))
   refine bj (by rfl) (by rfl) (fun K hK=>?_)
   unfold Oper.gives
   go_simp
   go_invoke;go_simp
   refine(rE (l:=(3,[a,b,c'])) rfl SX.out SY.out w11).mono ?_;rintro e w12 ⟨rfl,hb⟩;replace X:=Qh (X.out.trans (hb.mono X.out.size));refine⟨_,rfl,hK _ _ ⟨⟨_,KP.out _ X.out⟩,rfl⟩ ?_⟩;clear hK K;replace BA:=BA.aa hb;replace O:=O.trans (hb.mono mw);replace mw:=O.size;clear hb
   repeat (first|(refine aF (by rfl) (by rfl) ?_;intro K hK;go_big_quiet_op;go_big_quiet_on)|(refine aG (by rfl) ?_))
   refine bj (by rfl) (by rfl) (fun K hK=>?_)
   unfold Oper.gives
   go_simp
   refine(bY HZA HZ2.out HNB.out (by omega) (by omega) w12).mono ?_
   rintro e w13 ⟨rfl,hb⟩;replace X:=Qh (X.out.trans (hb.mono X.out.size));refine⟨_,rfl,hK _ _ ⟨⟨_,KP.out _ X.out⟩,rfl⟩ ?_⟩;clear hK K;replace BA:=BA.aa hb;replace O:=O.trans (hb.mono mw);replace mw:=O.size;clear hb
   repeat (first|(refine aF (by rfl) (by rfl) ?_;intro K hK;go_big_quiet_op;go_big_quiet_on)|(refine aG (by rfl) ?_))
   obtain⟨z9,c9_0,f9_0,c9_1,f9_1,c9_2,f9_2,c9_3,f9_3⟩:=BA.f4;refine aV rfl (by rfl) (by rfl) (fun K hK=>?_)
   unfold Oper.gives
   go_simp
   refine hK _ _ ?_;clear hK K;clear z9 c9_0 f9_0 c9_1 f9_1 c9_2 f9_2 c9_3 f9_3
   repeat (first|(refine aF (by rfl) (by rfl) ?_;intro K hK;go_big_quiet_op;go_big_quiet_on)|(refine aG (by rfl) ?_))
   refine aI ?_;clear hne KP KQ KA X g9_0 g9_1 g9_2 g9_3 G9;obtain⟨z9,c9_0,f9_0,c9_1,f9_1,c9_2,f9_2,c9_3,f9_3⟩:=BA.f4
   go_wp2_with fail
   obtain⟨uw14,hu⟩:∃ u,u=((((w13.setCell ⟨w3.heap.size,0,none⟩ (.int .i64 Z1.a)).setCell ⟨w3.heap.size,1,none⟩ (.int .i64 Z1.b)).setCell ⟨w3.heap.size,2,none⟩ (.int .i64 Z1.c)).setCell ⟨w3.heap.size,3,none⟩ (.int .i64 Z1.d)):=⟨_,rfl⟩;rw[<-hu];replace BA:Blk uw14 (w3.heap.size) 92 #[.int .i64 Z1.a,.int .i64 Z1.b,.int .i64 Z1.c,.int .i64 Z1.d]:=Blk.cast hu ((((BA.dc 0 _).dc 1 _).dc 2 _).dc 3 _);have q1:w3.heap.size<=w3.heap.size:=by omega
   replace O:=Below.cast hu ((((O.setCell q1 _).setCell q1 _).setCell q1 _).setCell q1 _);replace mw:=O.size;clear z9 c9_0 f9_0 c9_1 f9_1 c9_2 f9_2 c9_3 f9_3;clear hu;clear q1;refine(DL _ _ _ uw14 (Nat.lt_of_lt_of_le hgc.1 (HB3.out.trans (O.mono HB3.out.size)).size) (((HB3.out.trans (O.mono HB3.out.size)).cell (p:=⟨gm,om,none⟩) hgc.1).trans hgc.2)).mono ?_;rintro e w15 ⟨rfl,hb⟩;replace BA:=BA.aa hb;replace O:=O.trans (hb.mono mw);replace mw:=O.size;clear hb;obtain⟨z9,c9_0,f9_0,c9_1,f9_1,c9_2,f9_2,c9_3,f9_3⟩:=BA.f4;clear z9 c9_0 f9_0 c9_1 f9_1 c9_2 f9_2 c9_3 f9_3;go_wp2
   go_roundw
   case rel=>exact⟨j+1,_,_,Z1,by omega,rfl,rfl,by go_num,HZ,BA,O⟩
   case measure=>simp[intOf];omega
 ·obtain rfl:j=n:=by omega
  rw[List.take_of_length_le (by have:=HN.out;omega)] at hz1
  have B1:=HB1.out.aa O;replace O:=HOB.out.trans (O.mono HOB.out.size);have mw:=O.size;have HZ1:=Qh hz1;clear hz sx sy hz2 hz1;obtain⟨z1,c1_0,f1_0,c1_1,f1_1,c1_2,f1_2,c1_3,f1_3⟩:=B1.f4;obtain⟨z9,c9_0,f9_0,c9_1,f9_1,c9_2,f9_2,c9_3,f9_3⟩:=BA.f4;go_wp2;have q1:w.heap.size<=w.heap.size:=by omega
  exact bodyPost_ret (v:=NV Z) (by simp[results,results128,go_sem,z1,c1_0,f1_0,c1_1,f1_1,c1_2,f1_2,c1_3,f1_3,z9,c9_0,f9_0,c9_1,f9_1,c9_2,f9_2,c9_3,f9_3,(by omega:¬w.heap.size=w3.heap.size),(by omega:¬w3.heap.size=w.heap.size)]) rfl ⟨by rw[HZ1.out],((((O.setCell q1 _).setCell q1 _).setCell q1 _).setCell q1 _)⟩
end
section
attribute [local go_sem] af ah ae
theorem RI.cast {α:Type} {E:Elt α} {u w:World} {A:Option Addr} {n cap:Nat} {xs:List α} {F:List Nat} (hu:u=w) (h:RI E w A n cap xs F):RI E u A n cap xs F:=hu ▸ h
theorem sD {l:SL} (h:aL l.1 (l.2.map aq)=true) {z:(Mx×Mx)×Int} {r c:Int} (hz:OKD z r c) {rc':Int×Int} (e:dr (df l) (r,c)=some rc') :
  (∃ a b,l=(1,[a,b])/\(okS a=true/\okS b=true/\a.1.c=z.1.1.r/\b.1.r=a.1.r/\b.1.c=1)/\jm l z=ec a b z.1 z.2)\/(l=(2,[])/\jm l z=dv (fnv 2) z.1 z.2) \/
  (∃ p q t,l=(3,[p,q,t])/\(okS p=true/\okS q=true/\okS t=true/\p.1.r=z.1.1.c/\p.1.c=z.1.1.c/\q.1.r=z.1.1.c/\q.1.c=z.1.1.c/\t.1.r=z.1.1.c/\t.1.c=z.1.1.c)/\jm l z=nR p q t z.1 z.2):=by
 obtain⟨h1,h2,h3,h4⟩:=hz;obtain⟨kk,ms⟩:=l;unfold dr df at e;rcases mV (l:=(kk,ms)) h with⟨k,a,b,hl,oa,ob,hb1,hb2⟩|⟨k,hl⟩|⟨k,p,q,t,hl,oa,ob,oc,x1,x2,x3,x4,x5⟩ <;> dsimp only at k hl <;> subst k <;> subst hl <;> dsimp only at e
 ·rw[if_pos rfl] at e;simp only[List.map_cons,List.getD_cons_zero] at e
  split at e
  ·rename_i hc
   rw[(aN oa).2.2] at hc
   exact .inl ⟨a,b,rfl,⟨oa,ob,by rw[hc,h2],hb2,hb1⟩,by unfold jm;rw[if_pos rfl];rfl⟩
  ·cases e
 ·exact .inr (.inl ⟨rfl,by unfold jm;rw[if_neg (by decide),if_pos rfl]⟩)
 ·rw[if_neg (by decide),if_neg (by decide)] at e
  simp only[List.map_cons,List.getD_cons_zero] at e
  split at e
  ·rename_i hc
   rw[(aN oa).2.1] at hc
   exact .inr (.inr ⟨p,q,t,rfl,⟨oa,ob,oc,by rw[hc,h3],by rw[<-x1,hc,h3],by rw[x2,<-x1,hc,h3],by rw[x3,<-x1,hc,h3],by rw[x4,<-x1,hc,h3],by rw[x5,<-x1,hc,h3]⟩,by unfold jm;rw[if_neg (by simp),if_neg (by simp)];rfl⟩)
  ·cases e
theorem eN {net:List SL} (h:bu net=true):tb (bh net):=by
 rw[eL h];unfold bu at h;simp only[Bool.and_eq_true,decide_eq_true_eq,List.all_eq_true] at h;refine⟨by rw[List.length_map];exact h.1,fun l hl=>?_⟩
 obtain⟨l',h1,rfl⟩:=List.mem_map.1 hl
 exact h.2 l' h1
theorem du {net:List SL} (h:bu net=true):net.length<=4/\∀ l,l∈net->aL l.1 (l.2.map aq)=true:=by
 unfold bu at h
 simpa only[Bool.and_eq_true,decide_eq_true_eq,List.all_eq_true] using h
theorem dU {net:List SL}:∀ l,l∈bh net->∀ m,m∈l.2->mS m:=by
 intro l hl m hm
 by_cases h:bu net=true
 ·rw[eL h] at hl;obtain⟨l',_,rfl⟩:=List.mem_map.1 hl
  exact jJ m hm
 ·rw[rL (by simpa using h)] at hl;cases hl
def pM (p:Mx×Mx) (s:Int) (w:World) (e:Ending) (w':World):Prop:=∃ A c B d C n k v,e= .returned (.tuple #[SMV p.1.r p.1.c A p.1.v.length c p.2.r p.2.c B p.2.v.length d,.slice C n k,.int .i64 s])/\OS w' w.heap.size A p.1.v.length c p.1.v/\OS w' w.heap.size B p.2.v.length d p.2.v/\OS w' w.heap.size C n k v/\Below w.heap.size w w'
def Cu (w:World) (e:Ending) (w':World):Prop:=e= .returned (.tuple #[SMV 0 0 none 0 0 0 0 none 0 0,.slice none 0 0,.int .i64 0])/\Below w.heap.size w w'
theorem nx {net:List SL} (hok:bu net=true) (hns:gG (kS smS) net) {A:Option Addr} {cap:Nat} {F:List Nat} {x:Mx×Mx} {s:Int} (hox:okS x=true) (hsd:sdB s=true) (hfit:(bE (bh net) (some (x.1.r,x.1.c))).isSome=false) (w:World) (hx:RI (kE smE) w A net.length cap net F) {vx:Value} (hvx:RS w vx x) :
  Calls prog 126 #[.slice A net.length cap,vx,.int .i64 s] w (Cu w):=by
 obtain⟨XA,XB,xa,xb,rfl,q1,q2,q3,q4,q5,q6⟩:=hvx;have hX:=RS.mk q1 q2 q3 q4 q5 q6;clear q1 q2 q3 q4 q5 q6;obtain⟨hR,hC⟩:=aA (ai hox).1;have hNV:=eN hok;have HXX:=Qh hX;have HOK:=Qh hok;have HNS:=Qh hns;have HOX:=Qh hox;have HSD:=Qh hsd;have HFIT:=Qh hfit;have HNT:=Qh hx;have HR:=Qh hR;have HC:=Qh hC;have HNV:=Qh hNV;clear hX hok hns hox hsd hfit hx hR hC hNV;refine zE ?_;intro u1 H;refine zG (FV _ _ _ net _ u1 (HNT.out.below H.O) HNS.out) ?_;rintro e w2 ⟨AJ,nj,cj,FJ,rfl,hrj,hfr,hb⟩;replace H:=H.rf hb hrj hfr;rw[HOK.out];obtain rfl:=hrj.len;clear hrj hfr hb;refine zN ?_;clear H;intro u3 H;refine zB (gC HOX.out u3 (RS.below HXX.out H.O)) ?_;clear H;intro w4 u4 H;refine zP (aU (dH HSD.out) u4) ?_;clear H;intro u5 H;refine zG ((show Calls prog 61 #[_,_,_] u5 (NSd false u5) from by rw[<-HFIT.out];exact eo HNV.out HR.out HC.out u5 (H.f 0).1 dU)) ?_
 rintro e w6 ⟨x0,y0,rfl,hb⟩;replace H:=H.b hb;refine zS_ ?_;clear H;intro u7 H
 exact⟨rfl,H.O⟩
theorem oM {net:List SL} (hok:bu net=true) (hns:gG (kS smS) net) {A:Option Addr} {cap:Nat} {F:List Nat} {x:Mx×Mx} {s:Int} (hox:okS x=true) (hsd:sdB s=true) (hfit:(bE (bh net) (some (x.1.r,x.1.c))).isSome=true) (w:World) (hx:RI (kE smE) w A net.length cap net F) {vx:Value} (hvx:RS w vx x) :
  Calls prog 126 #[.slice A net.length cap,vx,.int .i64 s] w (pM (fD net (x,s)).1 (fD net (x,s)).2 w):=by
 obtain⟨XA,XB,xa,xb,rfl,q1,q2,q3,q4,q5,q6⟩:=hvx;have hX:=RS.mk q1 q2 q3 q4 q5 q6;clear q1 q2 q3 q4 q5 q6;obtain⟨hR,hC⟩:=aA (ai hox).1;have hNV:=eN hok;have HXX:=Qh hX;have HOK:=Qh hok;have HNS:=Qh hns;have HOX:=Qh hox;have HSD:=Qh hsd;have HFIT:=Qh hfit;have HNT:=Qh hx;have HR:=Qh hR;have HC:=Qh hC;have HNV:=Qh hNV;clear hX hok hns hox hsd hfit hx hR hC hNV;refine zE ?_;intro u1 H;refine zG (FV _ _ _ net _ u1 (HNT.out.below H.O) HNS.out) ?_;rintro e w2 ⟨AJ,nj,cj,FJ,rfl,hrj,hfr,hb⟩;replace H:=H.rf hb hrj hfr;rw[HOK.out];obtain rfl:=hrj.len;clear hrj hfr hb;refine zN ?_;clear H;intro u3 H;refine zB (gC HOX.out u3 (RS.below HXX.out H.O)) ?_;clear H;intro w4 u4 H;refine zP (aU (dH HSD.out) u4) ?_;clear H;intro u5 H;refine zG ((show Calls prog 61 #[_,_,_] u5 (NSd true u5) from by rw[<-HFIT.out];exact eo HNV.out HR.out HC.out u5 (H.f 0).1 dU)) ?_
 rintro e w6 ⟨x0,y0,rfl,hb⟩;replace H:=H.b hb;refine zN ?_;clear H;intro u7 H;replace H:=H.nil;obtain⟨gS,hgS⟩:∃ x,x=w6.heap.size:=⟨_,rfl⟩;rw[<-hgS] at H ⊢;clear hgS;refine zW (mO (q:=x) 63 #[] (fun v=>#[v]) (fun _=>rfl) u7 (RS.below HXX.out H.O) (fun _ _=>by kernel_rfl) (fun W v _ hv=>ep (ai HOX.out).1 W hv) (fun W v _ hv=>ep (ai HOX.out).2.1 W hv)) ?_;clear H;intro w8 P Q c1 d1 u8 H
 replace H:=(((((((H.d 4).d 5).r 4).r 1).r 2).r 3).r 4);obtain⟨n,hn⟩:∃ n,n=net.length:=⟨_,rfl⟩;rw[<-hn];have HN:=Qh hn;have h4:n<=4:=by rw[hn];exact(du HOK.out).1
 obtain⟨gM,hgM⟩:∃ x,x=w8.heap.size:=⟨_,rfl⟩;rw[<-hgM] at H ⊢;clear hn hgM;have H0:Hid (fD (net.take 0) (x,s)=(x,s)/\bE ((bh net).take 0) (some (x.1.r,x.1.c))=some (x.1.r,x.1.c)/\OKD (x,s) x.1.r x.1.c):=⟨rfl,rfl,HOX.out,rfl,rfl,HSD.out⟩;intros
 go_loopw [57] (fun i wr=>∃ (j:Nat) (z:(Mx×Mx)×Int) (rr cc:Int) (PA:Option Addr) (pa:Nat) (PB:Option Addr) (pb:Nat) (Ca:Option Addr) (m k:Nat) (v:List Int),j<=n/\i= .int .i64 j/\m<=500*j/\Hid (fD (net.take j) (x,s)=z/\bE ((bh net).take j) (some (x.1.r,x.1.c))=some (rr,cc)/\OKD z rr cc)/\Hid (Hq w [qB gS 199 [.int .i64 z.2,.slice Ca m k],qO w.heap.size Ca m k v,qS w.heap.size PA pa PB pb z.1,qB gM 82 [.int .i64 z.1.1.r,.int .i64 z.1.1.c,.slice PA z.1.1.v.length pa,.int .i64 z.1.2.r,.int .i64 z.1.2.c,.slice PB z.1.2.v.length pb],qB (w.heap.size+1) 82 [.int .i64 0,.int .i64 0,.slice none 0 0,.int .i64 0,.int .i64 0,.slice none 0 0]] wr)) (fun i _=>n-(intOf i).toNat)
 case atStart=>exact⟨0,(x,s),_,_,P,c1,Q,d1,none,0,0,[],Nat.zero_le _,rfl,by omega,H0,H⟩
 case round =>
 clear H0 H;obtain⟨j,z,rr,cc,PA,pa,PB,pb,Ca,m,k,v,hj,rfl,hm,hz,H⟩:=hrel;have H:=H.out;have mw:=H.m
 by_cases hlt:j<n
 ·obtain⟨l,hlj,hmem⟩:=aH (xs:=net) (j:=j) (by have:=HN.out;omega)
  obtain⟨hz1,hz2,hz3⟩:=hz.out;have hlb:=(du HOK.out).2 l hmem;have hjl:(bh net)[j]?=some (df l):=by rw[eL HOK.out];exact jb hlj
  have hq:∃ r' c',dr (df l) (rr,cc)=some (r',c'):=by
   cases e:dr (df l) (rr,cc) with
   | none =>
    have h1:bE ((bh net).take (j+1)) (some (x.1.r,x.1.c))=none:=by rw[eh hjl,hz2];exact e
    have h2:=HFIT.out;rw[gJ h1] at h2
    cases h2
   | some rc=>exact⟨rc.1,rc.2,rfl⟩
  obtain⟨r',c',hq⟩:=hq;have HZ:Hid (fD (net.take (j+1)) (x,s)=jm l z/\bE ((bh net).take (j+1)) (some (x.1.r,x.1.c))=some (r',c')/\OKD (jm l z) r' c'):=⟨by rw[pF hlj,hz1],by rw[eh hjl,hz2];exact hq,qk hlb hz3 hq⟩
  obtain⟨zz,hzz⟩:∃ zz,zz=jm l z:=⟨_,rfl⟩;rw[<-hzz] at HZ;have hfit:=sD hlb hz3 hq;rw[<-hzz] at hfit;have HOKD:=Qh hz3;have HLJ:=Qh hlj;have HFT:=Qh hfit;obtain⟨b,off,cs,Fx,rfl,hbl,hc,_,Aw,cw,rfl,hrw⟩:=HNT.out.cells hlj 2 rfl;have d0:wr.cell? ⟨b,off+j*2,none⟩=some (.int .i64 l.1):=(H.O.cell (p:=⟨b,off+j*2,none⟩) hbl).trans (hc 0 (by omega))
  have d1:wr.cell? ⟨b,off+j*2+1,none⟩=some (.slice Aw l.2.length cw):=(H.O.cell (p:=⟨b,off+j*2+1,none⟩) hbl).trans (hc 1 (by omega))
  have zb:b<wr.heap.size:=Nat.lt_of_lt_of_le hbl mw;have HRW:=Qh hrw;have k0:(0:Int)<=(j:Int):=by omega
  have k1:(j:Int)<(n:Int):=by omega
  clear hc hrw hlj hmem hz hz1 hz2 hz3 hlb hjl hq hzz hfit;rcases HFT.out with⟨a,bq,rfl,hf,hL⟩|⟨rfl,hL⟩|⟨a,bq,cq,rfl,hf,hL⟩
  ·have HL:=Qh hL;obtain⟨ab,ao,_,_,rfl,hab,_⟩:=HRW.out.at (i:=0) (x:=a) rfl;obtain⟨EA1,ea1,EA2,ea2,he0,hr0⟩:=sm_at HRW.out (i:=0) (p:=a) rfl rfl;obtain⟨EB1,eb1,EB2,eb2,he1,hr1⟩:=sm_at HRW.out (i:=1) (p:=bq) rfl rfl;simp only[Nat.zero_mul,Nat.add_zero,Nat.one_mul] at he0 he1;have HE0:=Qh he0;have HE1:=Qh he1;have HF:=Qh hf;have HR0:=Qh hr0;have HR1:=Qh hr1;have HD:Hid (ec a bq z.1 z.2=zz):=hL.symm;clear hL hf hr0 hr1 he0 he1 HL;refine zN ?_;clear H;intro u41 H;have zab:=Nat.lt_of_lt_of_le hab H.m;intros;refine H.BM [wr.heap.size,gM,ab] (fun t=>t == 3) true ?_;clear H;intro S w42 hne H
   refine zD ((And.intro (H.c 0) (H.c 4))) ?_;intro G;obtain⟨e00,e01,e02,e03,e04,e05⟩:=SMc.below HE0.out hab H.O;replace e00:=H.row e00;replace e01:=H.row e01;replace e02:=H.row e02;replace e03:=H.row e03;replace e04:=H.row e04;replace e05:=H.row e05;obtain⟨e10,e11,e12,e13,e14,e15⟩:=SMc.below HE1.out hab H.O;replace e10:=H.row e10;replace e11:=H.row e11;replace e12:=H.row e12;replace e13:=H.row e13;replace e14:=H.row e14;replace e15:=H.row e15;have cg:w42.cell? ⟨gS,0,none⟩=some (.int .i64 z.2):=(H.k 1).cell 0;refine yL ?_;intros;refine y_ ((show Calls prog 171 #[_,_,_,_] w42 (bo zz.1 zz.2 75 w42) from by rw[<-HD.out];exact mA HF.out.1 HF.out.2.1 HOKD.out.1 HF.out.2.2.1 HF.out.2.2.2.1 HF.out.2.2.2.2 HOKD.out.2.2.2 w42 (RS.below HR0.out H.O) (RS.below HR1.out H.O) (H.rs 3))) ?_
   rintro K hK e w43 ⟨A1,c1,B1',d1,D,m',e',y',rfl,h1,h2,h3,hmN,hb⟩;replace H:=H.so hb h1 h2 h3;clear cg h1 h2 h3;refine yK ?_;clear hK K;replace H:=((H.r 3).r 3);intros;refine y_ (nI w43 (H.k 0) ((H.o 1).mono (Nat.zero_le _)) (OS.si (Ow.P2 (H.p 2))) (by omega) (by omega)) ?_
   rintro K hK e w44 ⟨rfl,C1,k1,hq⟩;replace H:=H.stp hq (all_cons H.H.nst (all_cons H.H.nst (all_cons (H.H.nel hab) all_nil)));refine yK ?_;clear hK K hq;replace H:=(H.r 2).pP;refine nZ ?_;clear H;intro w45 H;replace H:=(((((((H.d 3).d 3).r 4).r 4).r 2).r 4).r 4);refine zC ?_;intro C;intros;go_wp2
   go_roundw
   case rel=>exact⟨j+1,zz,_,_,A1,c1,B1',d1,C1,m+m',k1,_,by omega,by go_num,by omega,HZ,H⟩
   case measure=>simp[intOf];omega
  ·have HL:=Qh hL;have HD:Hid (dv (fnv 2) z.1 z.2=zz):=hL.symm;clear hL HL;refine zC ?_;intro C;intros;go_wp2_with fail;refine zM ?_;clear H C;intro u41 H;replace H:=((H.r 2).r 2);refine zG ((show Calls prog 172 #[_,_,_] u41 (jC zz.1 zz.2 25 gS Ca m u41) from by rw[<-HD.out];exact nD (by omega) HOKD.out.1 HOKD.out.2.2.2 u41 (H.k 0) ((H.o 1).mono (Nat.zero_le _)) (by omega) (H.rs 3))) ?_
   rintro e w99 ⟨A1,c1,B1',d1,C1,n1,k1,v1,rfl,hn1,hq⟩;replace H:=H.stp hq;clear hq;replace H:=((H.d 3).d 3);refine zC ?_;intro C;intros;go_wp2
   go_roundw
   case rel=>exact⟨j+1,zz,_,_,A1,c1,B1',d1,C1,n1,k1,v1,by omega,by go_num,by omega,HZ,(Qh hq)⟩
   case measure=>simp[intOf];omega
  ·have HL:=Qh hL;obtain⟨ab,ao,rfl,hab,hR3⟩:=Dx HRW.out;have HF:=Qh hf;have HR3:=Qh hR3;have HD:Hid (nR a bq cq z.1 z.2=zz):=hL.symm;clear hL hf hR3 HL;refine zC ?_;intro C;intros;go_wp2_with fail;refine zM ?_;clear H C;intro u41 H;refine zN ?_;clear H;intro u42 H;refine zG ((show Calls prog 173 #[_,_,_] u42 (bo zz.1 zz.2 500 u42) from by rw[<-HD.out];exact oN (cap:=cw) HF.out.1 HF.out.2.1 HF.out.2.2.1 HOKD.out.1 HF.out.2.2.2.1 HF.out.2.2.2.2.1 HF.out.2.2.2.2.2.1 HF.out.2.2.2.2.2.2.1 HF.out.2.2.2.2.2.2.2.1 HF.out.2.2.2.2.2.2.2.2 HOKD.out.2.2.2 u42 (Nat.lt_of_lt_of_le hab H.m) (R3.below HR3.out hab H.O) (H.rs 3))) ?_
   rintro e w43 ⟨A1,c1,B1',d1,D,m',e',y',rfl,h1,h2,h3,hmN,hb⟩;replace H:=H.so hb h1 h2 h3;clear h1 h2 h3 hb;refine zN ?_;clear H;intro u44 H;replace H:=((H.r 3).r 3);refine zG (nI u44 (H.k 0) ((H.o 1).mono (Nat.zero_le _)) (OS.si (Ow.P2 (H.p 2))) (by omega) (by omega)) ?_
   rintro e w45 ⟨rfl,C1,k1,hq⟩;replace H:=H.stp hq;clear hq;replace H:=(H.r 2).pP;replace H:=(((((((H.d 3).d 3).r 4).r 4).r 2).r 4).r 4);refine zC ?_;intro C;intros;go_wp2
   go_roundw
   case rel=>exact⟨j+1,zz,_,_,A1,c1,B1',d1,C1,m+m',k1,_,by omega,by go_num,by omega,HZ,(Qh hq)⟩
   case measure=>simp[intOf];omega
 ·obtain rfl:j=n:=by omega
  obtain⟨hz1,_⟩:=hz.out;rw[List.take_of_length_le (by have:=HN.out;omega)] at hz1
  have HZZ:=Qh hz1;clear hz hz1;refine zN ?_;clear H;intro u61 H;refine zX (tg [gS,gM]) ?_;clear H;intro S w62 hne H;refine zD ((And.intro (H.c 0) (H.c 3))) ?_;intro G;refine yS ?_;clear H;intro w63 H;refine yN ?_;clear H G;intro u64 H;refine zS_ ?_;clear H;intro u65 H
  exact(by rw[HZZ.out];exact⟨PA,pa,PB,pb,Ca,m,k,v,rfl,qS.a (H.p 2),qS.b (H.p 2),(H.o 1),H.O⟩)
end
end Go.Proofs.YtjciicheoghcdaaGreatDoor

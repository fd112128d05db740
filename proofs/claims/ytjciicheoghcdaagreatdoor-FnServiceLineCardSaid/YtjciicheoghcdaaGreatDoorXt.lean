/- Part of the proof that the law FnServiceLine of the given program returns true for every input. -/
import Derived.Test.YtjciicheoghcdaaGreatDoorXd
import Derived.Test.YtjciicheoghcdaaGreatDoorXe
import Derived.Test.YtjciicheoghcdaaGreatDoorXg
import Derived.Test.YtjciicheoghcdaaGreatDoorXi
import Derived.Test.YtjciicheoghcdaaGreatDoorXk
import Derived.Test.YtjciicheoghcdaaGreatDoorXl
import Derived.Test.YtjciicheoghcdaaGreatDoorXo
import Derived.Test.YtjciicheoghcdaaGreatDoorXs
namespace Go.Proofs.YtjciicheoghcdaaGreatDoor
open Go.RowKit
set_option linter.unusedSimpArgs false
set_option linter.unusedVariables false
set_option maxRecDepth 20000
set_option maxHeartbeats 16000000
abbrev PL:=Int×List Mx
abbrev SL:=Int×List (Mx×Mx)
def dr (l:PL) (rc:Int×Int):Option (Int×Int):=if l.1=1 then (if (l.2.getD 0 Mx.z).c=rc.1 then some ((l.2.getD 0 Mx.z).r,rc.2) else none) else if l.1=2 then some rc else if (l.2.getD 0 Mx.z).r=rc.2 then some rc else none
def bE (net:List PL) (o:Option (Int×Int)):Option (Int×Int):=net.foldl (fun o l=>o.bind (dr l)) o
theorem lP:∀ net,bE net none=none
 | []=>rfl
 | _::ls=>lP ls
theorem eh {net:List PL} {j:Nat} {l:PL} (h:net[j]?=some l) (o:Option (Int×Int)):bE (net.take (j+1)) o=(bE (net.take j) o).bind (dr l):=by
 rw [aW h]
 simp [bE,List.foldl_append]
theorem gJ {net:List PL} {j:Nat} {o:Option (Int×Int)} (h:bE (net.take j) o=none):bE net o=none:=by
 rw [<- List.take_append_drop j net];unfold bE at h ⊢;rw [List.foldl_append,h]
 exact lP _
def tb (net:List PL):Prop:=net.length<=4/\∀ l,l∈net->aL l.1 l.2=true
theorem eM {l:PL} (h:aL l.1 l.2=true):(l.1=1/\∃ a b,l.2=[a,b]/\mvB a=true/\mvB b=true/\b.c=1/\b.r=a.r)\/(l.1=2/\l.2=[])\/(l.1=3/\∃ a b c,l.2=[a,b,c]/\mvB a=true/\mvB b=true/\mvB c=true/\a.r=a.c/\b.r=a.c/\b.c=a.c/\c.r=a.c/\c.c=a.c):=by
 obtain ⟨k,ms⟩:=l;unfold aL at h
 dsimp only at h ⊢
 split at h
 ·rename_i h1
  left
  refine ⟨h1,?_⟩
  match ms,h with
  | [a,b],h =>
   simp only [dfB,Bool.and_eq_true,List.getD_cons_zero,List.getD_cons_succ,decide_eq_true_eq] at h
   exact ⟨a,b,rfl,by simp_all,by simp_all,by simp_all,by simp_all⟩
  | [],h=>simp at h
  | [a],h=>simp at h
  | _::_::_::_,h=>simp at h
 ·split at h
  ·rename_i h1
   right;left
   refine ⟨h1,?_⟩
   match ms,h with
   | [],_=>rfl
   | _::_,h=>simp at h
  ·split at h
   ·rename_i h1
    right;right
    refine ⟨h1,?_⟩
    match ms,h with
    | [a,b,c],h =>
     simp [jN,bS] at h
     refine ⟨a,b,c,rfl,?_⟩
     simp_all
    | [],h=>simp at h
    | [a],h=>simp at h
    | [a,b],h=>simp at h
    | _::_::_::_::_,h=>simp at h
   ·cases h
theorem uy {l:PL} (h:aL l.1 l.2=true) {rc rc':Int×Int} (h1:side rc.1=true) (h2:side rc.2=true) (e:dr l rc=some rc'):side rc'.1=true/\side rc'.2=true:=by
 unfold dr at e;rcases eM h with ⟨k,a,b,hl,va,_⟩ | ⟨k,hl⟩ | ⟨k,a,b,c,hl,va,_⟩
 ·rw [if_pos k,hl] at e
  split at e
  ·injection e with e;subst e
   exact ⟨(aA va).1,h2⟩
  ·cases e
 ·rw [if_neg (by omega),if_pos k] at e
  injection e with e;subst e
  exact ⟨h1,h2⟩
 ·rw [if_neg (by omega),if_neg (by omega)] at e
  split at e
  ·injection e with e;subst e
   exact ⟨h1,h2⟩
  ·cases e
def SMz:Mx×Mx:=(Mx.z,Mx.z)
def jm (l:SL) (z:(Mx×Mx)×Int):(Mx×Mx)×Int:=if l.1=1 then ec (l.2.getD 0 SMz) (l.2.getD 1 SMz) z.1 z.2 else if l.1=2 then dv (fnv 2) z.1 z.2 else nR (l.2.getD 0 SMz) (l.2.getD 1 SMz) (l.2.getD 2 SMz) z.1 z.2
def fD (net:List SL) (z:(Mx×Mx)×Int):(Mx×Mx)×Int:=net.foldl (fun z l=>jm l z) z
theorem pF {net:List SL} {j:Nat} {l:SL} (h:net[j]?=some l) (z:(Mx×Mx)×Int):fD (net.take (j+1)) z=jm l (fD (net.take j) z):=by
 rw [aW h]
 simp [fD,List.foldl_append]
theorem ky {p:Mx×Mx} (h:mvB (aq p)=true):okS p=true:=by
 cases hk:okS p
 ·have e:aq p=Mx.z:=ib hk;rw [e] at h
  exact absurd h (by decide)
 ·rfl
theorem mV {l:SL} (h:aL l.1 (l.2.map aq)=true):(l.1=1/\∃ a b,l.2=[a,b]/\okS a=true/\okS b=true/\b.1.c=1/\b.1.r=a.1.r)\/(l.1=2/\l.2=[])\/(l.1=3/\∃ a b c,l.2=[a,b,c]/\okS a=true/\okS b=true/\okS c=true/\a.1.r=a.1.c/\b.1.r=a.1.c/\b.1.c=a.1.c/\c.1.r=a.1.c/\c.1.c=a.1.c):=by
 obtain ⟨k,ms⟩:=l;rcases eM (l:=(k,ms.map aq)) h with ⟨hk,a,b,hl,va,vb,h1,h2⟩ | ⟨hk,hl⟩ | ⟨hk,a,b,c,hl,va,vb,vc,h1,h2,h3,h4,h5⟩
 ·left
  match ms,hl with
  | [p,q],hl =>
   simp only [List.map_cons,List.map_nil,List.cons.injEq,and_true] at hl;obtain ⟨rfl,rfl⟩:=hl;have a:=ky va;have b:=ky vb
   exact ⟨hk,p,q,rfl,a,b,(aN b).2.2.symm.trans h1,(aN b).2.1.symm.trans (h2.trans (aN a).2.1)⟩
  | [],hl=>cases hl
  | [_],hl=>simp at hl
  | _::_::_::_,hl=>simp at hl
 ·right;left
  exact ⟨hk,List.map_eq_nil_iff.1 hl⟩
 ·right;right
  match ms,hl with
  | [p,q,r],hl =>
   simp only [List.map_cons,List.map_nil,List.cons.injEq,and_true] at hl;obtain ⟨rfl,rfl,rfl⟩:=hl;have a:=ky va;have b:=ky vb;have c:=ky vc;rw [(aN a).2.1,(aN a).2.2] at h1;rw [(aN b).2.1,(aN a).2.2] at h2;rw [(aN b).2.2,(aN a).2.2] at h3;rw [(aN c).2.1,(aN a).2.2] at h4;rw [(aN c).2.2,(aN a).2.2] at h5
   exact ⟨hk,p,q,r,rfl,a,b,c,h1,h2,h3,h4,h5⟩
  | [],hl=>cases hl
  | [_],hl=>simp at hl
  | [_,_],hl=>simp at hl
  | _::_::_::_::_,hl=>simp at hl
theorem qk {l:SL} (h:aL l.1 (l.2.map aq)=true) {z:(Mx×Mx)×Int} {r c:Int} (hz:OKD z r c) {rc':Int×Int} (e:dr (df l) (r,c)=some rc'):OKD (jm l z) rc'.1 rc'.2:=by
 obtain ⟨h1,h2,h3,h4⟩:=hz;unfold dr df at e;unfold jm;rcases mV h with ⟨k,a,b,hl,oa,ob,hb1,hb2⟩ | ⟨k,hl⟩ | ⟨k,p,q,t,hl,oa,ob,oc,x1,x2,x3,x4,x5⟩
 ·rw [if_pos k,hl]
  dsimp only at e
  rw [if_pos k,hl] at e;simp only [List.map_cons,List.getD_cons_zero] at e
  split at e
  ·rename_i hc
   injection e with e;subst e;rw [(aN oa).2.2] at hc;obtain ⟨d1,d2,d3,d4⟩:=uI oa ob h1 (by rw [hc,h2]) hb2 h4
   exact ⟨d1,d2.trans (aN oa).2.1.symm,d3.trans h3,d4⟩
  ·cases e
 ·dsimp only at e
  rw [if_neg (by omega),if_pos k] at e ⊢
  injection e with e;subst e;obtain ⟨d1,d2,d3,d4⟩:=ja (fnv 2) h1 h4
  exact ⟨d1,d2.trans h2,d3.trans h3,d4⟩
 ·dsimp only at e
  rw [if_neg (by omega),if_neg (by omega)] at e ⊢
  rw [hl] at e ⊢;simp only [List.map_cons,List.getD_cons_zero] at e
  split at e
  ·rename_i hc
   injection e with e;subst e;rw [(aN oa).2.1] at hc;have V:=AD (AB p q t z.1 z.2) oa ob oc h1 (by rw [hc,h3]) (by rw [<- x1,hc,h3]) (by rw [x2,<- x1,hc,h3]) (by rw [x3,<- x1,hc,h3]) (by rw [x4,<- x1,hc,h3]) (by rw [x5,<- x1,hc,h3]) h4
   obtain ⟨d1,d2,d3,d4⟩:=V.o
   exact ⟨d1,d2.trans h2,d3.trans h3,d4⟩
  ·cases e
theorem yi {net:List SL}:∀ (h:∀ l,l∈net->aL l.1 (l.2.map aq)=true) {z:(Mx×Mx)×Int} {rc rc':Int×Int} (hz:OKD z rc.1 rc.2) (e:bE (net.map df) (some rc)=some rc'),OKD (fD net z) rc'.1 rc'.2:=by
 induction net with
 | nil=>intro h z rc rc' hz e;injection e with e;subst e;exact hz
 | cons l ls ih =>
  intro h z rc rc' hz e;have e':bE (ls.map df) (dr (df l) rc)=some rc':=e
  cases hs:dr (df l) rc with
  | none=>rw [hs,lP] at e';cases e'
  | some r1 =>
   rw [hs] at e'
   exact ih (fun x hx=>h x (List.mem_cons_of_mem _ hx)) (qk (h l (List.mem_cons_self ..)) hz hs) e'
structure Nd where
 a:Int
 b:Int
 c:Int
 d:Int
def Nd.z:Nd:=⟨0,0,0,0⟩
def Nd.add (x y:Nd):Nd:=⟨x.a+y.a,x.b+y.b,x.c+y.c,x.d+y.d⟩
def lkN (n:Int):Nd:=⟨0,0,n,n⟩
def cpN (r i c:Int):Nd:=⟨0,1,r*c,r*i+i*c+r*c⟩
def ndL (l:PL) (rc:Int×Int):Nd:=if l.1=1 then cpN (l.2.getD 0 Mx.z).r rc.1 rc.2 else if l.1=2 then lkN (rc.1*rc.2) else
 ⟨rc.1*rc.1,5,4*(rc.1*rc.2)+3*(rc.1*rc.1)+rc.1,10*(rc.1*rc.2)+3*(rc.2*rc.2)+6*(rc.1*rc.1)+rc.1⟩
def ndN (net:List PL) (z:Nd×Option (Int×Int)):Nd×Option (Int×Int):=net.foldl (fun z l=>(z.1.add (match z.2 with | some rc=>ndL l rc | none=>Nd.z),z.2.bind (dr l))) z
theorem rW {net:List PL} {j:Nat} {l:PL} (h:net[j]?=some l) (z:Nd×Option (Int×Int)):ndN (net.take (j+1)) z=((ndN (net.take j) z).1.add (match (ndN (net.take j) z).2 with | some rc=>ndL l rc | none=>Nd.z),(ndN (net.take j) z).2.bind (dr l)):=by
 rw [aW h]
 simp [ndN,List.foldl_append]
theorem qo:∀ (net:List PL) (z:Nd×Option (Int×Int)),(ndN net z).2=bE net z.2
 | [],_=>rfl
 | _::ls,z=>qo ls _
section
attribute [local go_sem] af ah ae
def NV (n:Nd):Value:= .agg #[.int .i64 n.a,.int .i64 n.b,.int .i64 n.c,.int .i64 n.d]
structure nB (n:Nd) (K:Int):Prop where
 a0:0<=n.a
 a1:n.a<=K
 b0:0<=n.b
 b1:n.b<=K
 c0:0<=n.c
 c1:n.c<=K
 d0:0<=n.d
 d1:n.d<=K
theorem nB.add {x y:Nd} {K L M:Int} (h:nB x K) (k:nB y L) (hm:K+L<=M):nB (x.add y) M:=by
 obtain ⟨_,_,_,_,_,_,_,_⟩:=h;obtain ⟨_,_,_,_,_,_,_,_⟩:=k
 constructor <;> simp only [Nd.add] <;> omega
theorem nB.le {x:Nd} {K L:Int} (h:nB x K) (hl:K<=L):nB x L:=⟨h.a0,Int.le_trans h.a1 hl,h.b0,Int.le_trans h.b1 hl,h.c0,Int.le_trans h.c1 hl,h.d0,Int.le_trans h.d1 hl⟩
theorem nB.z:nB Nd.z 0:=by constructor <;> simp [Nd.z]
theorem nB.lk {n:Int} (h0:0<=n) (h1:n<=100):nB (lkN n) 100:=by constructor <;> simp only [lkN] <;> omega
def scN (n:Int):Nd:=⟨n,0,n,2*n+n⟩
attribute [local go_sem] NV lkN Nd.add cpN scN
def fb (n:Nd) (w:World) (e:Ending) (w':World):Prop:=e= .returned (NV n)/\Below w.heap.size w w'
theorem dh {r c:Int} (hr:side r=true) (hc:side c=true):1<=r*c/\r*c<=25:=by
 obtain ⟨_,_⟩:=bI hr;obtain ⟨_,_⟩:=bI hc
 constructor
 ·have:=Int.mul_le_mul (show (1:Int)<=r by omega) (show (1:Int)<=c by omega) (by omega) (by omega);omega
 ·have:=Int.mul_le_mul (show r<=5 by omega) (show c<=5 by omega) (by omega) (by omega);omega
theorem nB.cp {r i c:Int} (hr:side r=true) (hi:side i=true) (hc:side c=true):nB (cpN r i c) 75:=by
 have h1:=dh hr hi;have h2:=dh hi hc;have h3:=dh hr hc
 constructor <;> simp only [cpN] <;> omega
theorem jG {x y:Nd} (hx:nB x 1000000) (hy:nB y 1000000) (w:World):Calls Tryz.prog 174 #[NV x,NV y] w (fb (x.add y) w):=by
 unfold NV;obtain ⟨x1,x2,x3,x4,x5,x6,x7,x8⟩:=hx;obtain ⟨y1,y2,y3,y4,y5,y6,y7,y8⟩:=hy;refine zE ?_;intro u1 H;refine zS_ ?_;clear H;intro u2 H
 exact ⟨rfl,H.O⟩
theorem fN (n:Int) (w:World):Calls Tryz.prog 326 #[.int .i64 n] w (fb (lkN n) w):=by
 refine zE ?_;intro u1 H;refine zS_ ?_;clear H;intro u2 H
 exact ⟨rfl,H.O⟩
theorem bO {r i c:Int} (hr:side r=true) (hi:side i=true) (hc:side c=true) (w:World):Calls Tryz.prog 324 #[.int .i64 r,.int .i64 i,.int .i64 c] w (fb (cpN r i c) w):=by
 obtain ⟨p1,p2⟩:=dh hr hi;obtain ⟨q1,q2⟩:=dh hi hc;obtain ⟨t1,t2⟩:=dh hr hc;refine zE ?_;intro u1 H;refine zX (tg [w.heap.size+1]) ?_;clear H;intro S w2 hne H;refine zD (H.c 0) ?_;intro G;refine yB (fN _ w2) ?_;clear H;intro w3 H;refine yB (jG (x:=⟨0,1,0,r*i+i*c⟩) (y:=lkN (r*c)) ⟨by simp,by simp,by simp,by simp,by simp,by simp,by show (0:Int)<=r*i+i*c;omega,by show r*i+i*c<=(1000000:Int);omega⟩ ⟨by simp [lkN],by simp [lkN],by simp [lkN],by simp [lkN],by show (0:Int)<=r*c;omega,by show r*c<=(1000000:Int);omega,by show (0:Int)<=r*c;omega,by show r*c<=(1000000:Int);omega⟩ w3) ?_;clear H;intro w4 H
 refine yS ?_;clear H;intro w5 H;refine yN ?_;clear H G;intro u6 H;refine zS_ ?_;clear H;intro u7 H
 exact ⟨by simp [NV,cpN,lkN,Nd.add],H.O⟩
theorem mB {n:Int} (h0:0<=n) (h1:n<=100) (w:World):Calls Tryz.prog 335 #[.int .i64 n] w (fb (scN n) w):=by
 refine zE ?_;intro u1 H;refine zB (fN _ u1) ?_;clear H;intro w2 u2 H;refine zB (jG (x:=⟨n,0,0,2*n⟩) (y:=lkN n) ⟨h0,by show n<=(1000000:Int);omega,by simp,by simp,by simp,by simp,by show (0:Int)<=2*n;omega,by show 2*n<=(1000000:Int);omega⟩ ((nB.lk h0 h1).le (by omega)) u2) ?_;clear H;intro w3 u3 H
 refine zS_ ?_;clear H;intro u4 H
 exact ⟨by simp [NV,scN],H.O⟩
theorem qi {r c:Int} (hr:side r=true) (hc:side c=true) (w:World):Calls Tryz.prog 329 #[.agg #[],.int .i64 r,.int .i64 c] w (fb (lkN (r*c)) w):=by
 obtain ⟨p1,p2⟩:=dh hr hc;refine zE ?_;intro u1 H;refine zB (fN _ u1) ?_;clear H;intro w2 u2 H;refine zS_ ?_;clear H;intro u3 H
 exact ⟨rfl,H.O⟩
theorem oS {a b r c:Int} {x2 x3 x4 x5:Value} (ha:side a=true) (hr:side r=true) (hc:side c=true) (w:World):Calls Tryz.prog 321 #[.agg #[.int .i64 a,.int .i64 b,x2,x3,x4,x5],.int .i64 r,.int .i64 c] w (fb (cpN a r c) w):=by
 refine zE ?_;intro u1 H;refine zB (bO ha hr hc u1) ?_;clear H;intro w2 u2 H;refine zS_ ?_;clear H;intro u3 H
 exact ⟨rfl,H.O⟩
theorem bY {x y z:Nd} {K L:Int} (hz:Hid (z=x.add y)) (hx:nB x K) (hy:nB y L) (hk:K<=1000000) (hl:L<=1000000) (w:World):Calls Tryz.prog 174 #[NV x,NV y] w (fb z w):=by
 rw [hz.out];exact jG (hx.le hk) (hy.le hl) w
theorem nB.of {x y z:Nd} {K L M:Int} (hz:Hid (z=x.add y)) (h:nB x K) (k:nB y L) (hm:K+L<=M):nB z M:=by rw [hz.out];exact h.add k hm
theorem nB.sc {n:Int} (h0:0<=n) (h1:n<=26):nB (scN n) 100:=by constructor <;> simp only [scN] <;> omega
theorem AA {l:PL} (hl:l.1=3) {r c:Int}:(((((((Nd.z.add (cpN r c c)).add (cpN r c c)).add (cpN r c c)).add (cpN r c r)).add (lkN (r*r+r))).add (scN (r*r))).add (cpN r r c))=ndL l (r,c):=by
 unfold ndL;rw [if_neg (by omega),if_neg (by omega)]
 simp only [Nd.add,Nd.z,cpN,lkN,scN,Nd.mk.injEq];rw [Int.mul_comm c r]
 generalize r*c=p
 generalize r*r=q
 generalize c*c=u
 omega
theorem rE {l:PL} (hl:l.1=3) {A:Option Addr} {cap:Nat} {r c:Int} (hr:side r=true) (hc:side c=true) (w:World):Calls Tryz.prog 332 #[.agg #[.slice A 3 cap],.int .i64 r,.int .i64 c] w (fb (ndL l (r,c)) w):=by
 have HL:=Lib.hid hl;clear hl;obtain ⟨p1,p2⟩:=dh hr hr;obtain ⟨p3,p4⟩:=dh hr hc;obtain ⟨q1,q2⟩:=bI hr;have b0:Hid (nB Nd.z 0):=nB.z;have HR:=Lib.hid hr;have HC:=Lib.hid hc;clear hr hc;obtain ⟨N1,h⟩:∃ N,N=Nd.z.add (cpN r c c):=⟨_,rfl⟩;have hN1:=Lib.hid h;clear h;have b1:Hid (nB N1 150):=nB.of hN1 b0.out (nB.cp HR.out HC.out HC.out) (by omega)
 obtain ⟨N2,h⟩:∃ N,N=N1.add (cpN r c c):=⟨_,rfl⟩;have hN2:=Lib.hid h;clear h;have b2:Hid (nB N2 300):=nB.of hN2 b1.out (nB.cp HR.out HC.out HC.out) (by omega)
 obtain ⟨N3,h⟩:∃ N,N=N2.add (cpN r c c):=⟨_,rfl⟩;have hN3:=Lib.hid h;clear h;have b3:Hid (nB N3 450):=nB.of hN3 b2.out (nB.cp HR.out HC.out HC.out) (by omega)
 obtain ⟨N4,h⟩:∃ N,N=N3.add (cpN r c r):=⟨_,rfl⟩;have hN4:=Lib.hid h;clear h;have b4:Hid (nB N4 600):=nB.of hN4 b3.out (nB.cp HR.out HC.out HR.out) (by omega)
 obtain ⟨N5,h⟩:∃ N,N=N4.add (lkN (r*r+r)):=⟨_,rfl⟩;have hN5:=Lib.hid h;clear h;have b5:Hid (nB N5 750):=nB.of hN5 b4.out (nB.lk (n:=r*r+r) (by omega) (by omega)) (by omega)
 obtain ⟨N6,h⟩:∃ N,N=N5.add (scN (r*r)):=⟨_,rfl⟩;have hN6:=Lib.hid h;clear h;have b6:Hid (nB N6 900):=nB.of hN6 b5.out (nB.sc (n:=r*r) (by omega) (by omega)) (by omega)
 obtain ⟨N7,h⟩:∃ N,N=N6.add (cpN r r c):=⟨_,rfl⟩;have hN7:=Lib.hid h;clear h;have b7:Hid (nB N7 1050):=nB.of hN7 b6.out (nB.cp HR.out HR.out HC.out) (by omega)
 go_in;have H:=Hq.start w
 go_wp2;refine wp_loop_rounds 4 ?_;rw [rounds_succ];refine zM ?_;clear H;intro u1 H;refine zN ?_;clear H;intro u2 H;refine zXZ (tg [w.heap.size+2]) ?_;clear H;intro S w3 hne H;refine zD (H.c 0) ?_;intro G;refine yB (bO HR.out HC.out HC.out w3) ?_;clear H;intro w4 H;refine yB (bY hN1 b0.out (nB.cp HR.out HC.out HC.out) (by omega) (by omega) w4) ?_;clear H;intro w5 H
 refine nZ ?_;clear H;intro w6 H;refine zC ?_;intro C;intros
 go_wp2_with fail
 rw [rounds_succ];refine zM ?_;clear H C;intro u7 H;refine zN ?_;clear H;intro u8 H;refine zXZ (tg [w.heap.size+2]) ?_;clear H;intro S w9 hne H;refine zD (H.c 0) ?_;intro G;refine yB (bO HR.out HC.out HC.out w9) ?_;clear H;intro w10 H;refine yB (bY hN2 b1.out (nB.cp HR.out HC.out HC.out) (by omega) (by omega) w10) ?_;clear H;intro w11 H
 refine nZ ?_;clear H;intro w12 H;refine zC ?_;intro C;intros
 go_wp2_with fail
 rw [rounds_succ];refine zM ?_;clear H C;intro u13 H;refine zN ?_;clear H;intro u14 H;refine zXZ (tg [w.heap.size+2]) ?_;clear H;intro S w15 hne H;refine zD (H.c 0) ?_;intro G;refine yB (bO HR.out HC.out HC.out w15) ?_;clear H;intro w16 H;refine yB (bY hN3 b2.out (nB.cp HR.out HC.out HC.out) (by omega) (by omega) w16) ?_;clear H;intro w17 H
 refine nZ ?_;clear H;intro w18 H;refine zC ?_;intro C;intros
 go_wp2_with fail
 rw [rounds_succ];refine zM ?_;clear H C;intro u19 H;refine zN ?_;clear H;intro u20 H;refine zXZ (tg [w.heap.size+2]) ?_;clear H;intro S w21 hne H;refine zD (H.c 0) ?_;intro G;refine yB (bO HR.out HC.out HR.out w21) ?_;clear H;intro w22 H;refine yB (bY hN4 b3.out (nB.cp HR.out HC.out HR.out) (by omega) (by omega) w22) ?_;clear H;intro w23 H
 refine yZ ?_;clear H G;intro w24 u24 H;refine zXZ (tg [w.heap.size+2]) ?_;clear H;intro S w25 hne H;refine zD (H.c 0) ?_;intro G;refine yB (fN _ w25) ?_;clear H;intro w26 H;refine yB (bY hN5 b4.out (nB.lk (n:=r*r+r) (by omega) (by omega)) (by omega) (by omega) w26) ?_;clear H;intro w27 H
 refine yZ ?_;clear H G;intro w28 u28 H;refine zXZ (tg [w.heap.size+2]) ?_;clear H;intro S w29 hne H;refine zD (H.c 0) ?_;intro G;refine yB (mB (n:=r*r) (by omega) (by omega) w29) ?_;clear H;intro w30 H
 refine yB (bY hN6 b5.out (nB.sc (n:=r*r) (by omega) (by omega)) (by omega) (by omega) w30) ?_;clear H;intro w31 H
 refine yZ ?_;clear H G;intro w32 u32 H;refine zXZ (tg [w.heap.size+2]) ?_;clear H;intro S w33 hne H;refine zD (H.c 0) ?_;intro G;refine yB (bO HR.out HR.out HC.out w33) ?_;clear H;intro w34 H;refine yB (bY hN7 b6.out (nB.cp HR.out HR.out HC.out) (by omega) (by omega) w34) ?_;clear H;intro w35 H
 refine yZ ?_;clear H G;intro w36 u36 H;refine zS_ ?_;clear H;intro u37 H
 exact ⟨by rw [<- AA HL.out,<- hN1.out,<- hN2.out,<- hN3.out,<- hN4.out,<- hN5.out,<- hN6.out,<- hN7.out];rfl,H.O⟩
end
section
section
variable {G G':Nat->Prop} {u w w':World} {base n c g b:Nat} {A:Option Addr} {xs:List Int} {t:TypeId} {cs:Array Value}
theorem OS.cellAt (h:OS w base (some ⟨g,0,none⟩) n c xs) {i:Nat} (hi:i<n):w.cell? ⟨g,i,none⟩=some (.int .i64 (xs.getD i 0)):=by
 obtain ⟨b,off,e,_,hc⟩:=h.si.2 (by omega)
 injection e with e;injection e with e1 e2;subst e1 e2;have:=hc i hi
 rwa [Nat.zero_add] at this
theorem OS.Dq {f f':Nat->Int} (h:OS w base (some ⟨g,0,none⟩) n c (fl f n)) {i:Nat} (hi:i<n) (v:Int) (hf:∀ k,k<n->f' k=if k=i then v else f k):OS (w.setCell ⟨g,i,none⟩ (.int .i64 v)) base (some ⟨g,0,none⟩) n c (fl f' n):=by
 have h2:=(World.ownsRow.stored h i (.int .i64 v)).1;rw [<- List.map_set] at h2;have e:(fl f n).set i v=fl f' n:=by
  apply List.ext_getElem
  ·simp [aD]
  ·intro k hk _;have hk':k<n:=by simpa [aD] using hk
   rw [List.getElem_set];simp only [fl,List.getElem_map,List.getElem_range];rw [hf k hk']
   by_cases hik:i=k
   ·subst hik;simp
   ·simp [hik,Ne.symm hik]
 rw [e] at h2
 exact h2
theorem OS.far (h:OS w base A n c xs) {p:Addr} (hp:blk A≠some p.block) (v:Value):OS (w.setCell p v) base A n c xs :=
 h.au (by simp [World.setCell]) fun j hj _=>Below.heap_setCell w p v j (fun e=>hp (by rw [<- e];exact hj))
end
structure F2 (G:Nat->Prop) (u:World) (base g h n cg ch:Nat) (f1 f2:Nat->Int) (w:World):Prop where
 one:OS w base (some ⟨g,0,none⟩) n cg (fl f1 n)
 two:OS w base (some ⟨h,0,none⟩) n ch (fl f2 n)
 ne:g≠h
 up:UpL G u w
 hg:G g
 hh:G h
section
variable {G:Nat->Prop} {u w w' w0:World} {base g h n cg ch b i o:Nat} {f1 f2 f1' f2':Nat->Int} {t:TypeId} {cs:Array Value}
theorem F2.os (H:F2 G u base g h n cg ch f1 f2 w) {A:Option Addr} {m c:Nat} {xs:List Int} {bs:Nat} (hA:OS u bs A m c xs) (hn:∀ i,blk A=some i->¬ G i):OS w bs A m c xs:=hA.up H.up hn
theorem F2.below (H:F2 G u base g h n cg ch f1 f2 w) (hb:Below w.heap.size w w'):F2 G u base g h n cg ch f1 f2 w':=⟨H.one.below hb,H.two.below hb,H.ne,H.up.below hb,H.hg,H.hh⟩
theorem F2.put (H:F2 G u base g h n cg ch f1 f2 w) (hi:i<n) (x y:Int) (h1:∀ k,k<n->f1' k=if k=i then x else f1 k) (h2:∀ k,k<n->f2' k=if k=i then y else f2 k):F2 G u base g h n cg ch f1' f2' ((w.setCell ⟨g,i,none⟩ (.int .i64 x)).setCell ⟨h,i,none⟩ (.int .i64 y)) :=
 ⟨(H.one.Dq hi x h1).far (fun e=>H.ne (by injection e)) _,(H.two.far (fun e=>H.ne (by injection e with e;exact e.symm)) _).Dq hi y h2,H.ne,(H.up.Bc _ _ (fun _=>H.hg)).Bc _ _ (fun _=>H.hh),H.hg,H.hh⟩
theorem F2.bR (H:F2 G u base g h n cg ch f1 f2 w) {A:Option Addr} (k:bJ A w w') (hA:∀ i,blk A=some i->u.heap.size<=i) (h1:g<u.heap.size) (h2:h<u.heap.size):F2 G u base g h n cg ch f1 f2 w' :=
 ⟨H.one.bR k (fun x e1 e2=>by have:=hA x e2;injection e1 with e1;subst e1;dsimp only at this;omega),H.two.bR k (fun x e1 e2=>by have:=hA x e2;injection e1 with e1;subst e1;dsimp only at this;omega),H.ne,H.up.bR k (fun i hi e=>absurd hi (by have:=hA i e;omega)),H.hg,H.hh⟩
theorem F2.blk (H:F2 G u base g h n cg ch f1 f2 w) (hb:Blk u b t cs) (hn:¬ G b):Blk w b t cs:=hb.up H.up hn
theorem F2.over (H:F2 G u base g h n cg ch f1 f2 w) (hb:Below base w0 u) (hG:∀ i,i<u.heap.size->G i->base<=i) (hB:base<=u.heap.size):Below base w0 w:=H.up.over hb hG hB
end
theorem BK {u:World} (L:List Nat) (hL:∀ i,i∈L->i<u.heap.size):∃ S:World->Prop,Hid (∀ w',Below u.heap.size u w'->S w')/\(∀ w' (p:Addr) v,p.block∉L->S w'->S (w'.setCell p v))/\(∀ w' o,S w'->S (w'.alloc o)) /\
  (∀ w' w'' G,UpL G w' w''->(∀ i,i∈L->¬ G i)->S w'->S w'')/\Hid (∀ x:Wd S,∀ i,i∈L->∀ o,x.w.cell? ⟨i,o,none⟩=u.cell? ⟨i,o,none⟩):=by
 refine ⟨fun w'=>∀ i,i∈L->i<w'.heap.size/\w'.heap[i]?=u.heap[i]?,fun w' hb i hi=>⟨Nat.lt_of_lt_of_le (hL i hi) hb.size,hb.block i (hL i hi)⟩,fun w' p v hp h i hi=> ?_,fun w' o h i hi=> ?_,fun w' w'' G hu hG h i hi=> ?_,fun x i hi o=> ?_⟩
 ·obtain ⟨h1,h2⟩:=h i hi
  exact ⟨by simpa [World.setCell] using h1,(Below.heap_setCell w' p v i (fun e=>hp (e ▸ hi))).trans h2⟩
 ·obtain ⟨h1,h2⟩:=h i hi
  exact ⟨by simp;omega,(Below.heap_alloc w' o i h1).trans h2⟩
 ·obtain ⟨h1,h2⟩:=h i hi
  exact ⟨Nat.lt_of_lt_of_le h1 hu.size,(hu.block i h1 (hG i hi)).trans h2⟩
 ·obtain ⟨_,h2⟩:=x.h i hi
  exact World.cell?_of_block (w:=u) h2
end
section
attribute [local go_sem] af ah ae
def LV (w:World) (l:PL) (v:Value):Prop:=∃ A c F,RI mxE w A l.2.length c l.2 F/\LOv w l.1 A l.2.length c l.2 v
theorem LOv.below {w w':World} {k:Int} {A:Option Addr} {n cap:Nat} {ms:List Mx} {v:Value} (h:LOv w k A n cap ms v) (hb:Below w.heap.size w w'):LOv w' k A n cap ms v:=by
 rcases h with h | ⟨h0,h | h | h⟩
 ·exact .inl h
 ·obtain ⟨h1,A0,p0,F0,A1,p1,F1,m0,m1,e0,e1,f0,f1,hv⟩:=h
  exact .inr ⟨h0,.inl ⟨h1,A0,p0,F0,A1,p1,F1,m0,m1,e0,e1,f0.au (fun g hg=>hb.block g (f0.lt g hg)),f1.au (fun g hg=>hb.block g (f1.lt g hg)),hv⟩⟩
 ·exact .inr ⟨h0,.inr (.inl h)⟩
 ·exact .inr ⟨h0,.inr (.inr h)⟩
theorem LOv.iface {w:World} {k:Int} {A:Option Addr} {n cap:Nat} {ms:List Mx} {v:Value} (h:LOv w k A n cap ms v) (hl:aL k ms=true):∃ T x,v= .iface T x:=by
 rcases h with h | ⟨_,h | h | h⟩
 ·rw [hl] at h;cases h.1
 ·obtain ⟨_,_,_,_,_,_,_,_,_,_,_,_,_,rfl⟩:=h
  exact ⟨_,_,rfl⟩
 ·exact ⟨_,_,h.2⟩
 ·exact ⟨_,_,h.2⟩
theorem ud {l:PL} (h:aL l.1 l.2=true):l.2.length<=3:=by
 rcases eM h with ⟨_,a,b,e,_⟩ | ⟨_,e⟩ | ⟨_,a,b,c,e,_⟩ <;> rw [e] <;> simp
theorem LV.below {w w':World} {l:PL} {v:Value} (h:LV w l v) (hb:Below w.heap.size w w'):LV w' l v:=by
 obtain ⟨A,c,F,h1,h2⟩:=h
 exact ⟨A,c,F,h1.below hb,h2.below hb⟩
def LR (w:World) (net:List PL) (j:Nat) (vs:List Value):Prop:=vs.length=j/\∀ i l v,i<j->net[i]?=some l->vs[i]?=some v->LV w l v
theorem LR.below {w w':World} {net:List PL} {j:Nat} {vs:List Value} (h:LR w net j vs) (hb:Below w.heap.size w w'):LR w' net j vs:=⟨h.1,fun i l v hi hl hv=>(h.2 i l v hi hl hv).below hb⟩
theorem LR.push {w:World} {net:List PL} {j:Nat} {vs:List Value} {l:PL} {v:Value} (h:LR w net j vs) (hl:net[j]?=some l) (hv:LV w l v):LR w net (j+1) (vs++[v]):=by
 refine ⟨by rw [List.length_append,h.1];rfl,fun i l' v' hi hl' hv'=> ?_⟩
 by_cases e:i=j
 ·subst e;rw [hl] at hl';injection hl' with e1;subst e1;rw [List.getElem?_append_right (by rw [h.1];omega),h.1,Nat.sub_self] at hv'
  injection hv' with e2;subst e2
  exact hv
 ·rw [List.getElem?_append_left (by rw [h.1];omega)] at hv'
  exact h.2 i l' v' (by omega) hl' hv'
theorem Ao:(Tryz.prog.info? 110).map (fun i=>(i.zero,i.size,i.bytes))=some (some .nilIface,1,16):=by kernel_rfl
theorem ze (n:Nat) (hn:n<=1048576) (w:World):(Instr.makeSlice 105 (.int .i64 (n:Int)) (.int .i64 (n:Int))).run Tryz.prog w= .ok (.slice (some ⟨w.heap.size,0,none⟩) n n) (w.alloc (.cells (madeCells #[.nilIface] (n*1)) 110)):=by
 obtain ⟨i,hi,hz,h1,h8⟩:=info_parts Ao;have h:=run_make (P:=Tryz.prog) w 105 110 i _ Tryz.underlying105 hi hz .i64 .i64 (n:Int) (n:Int) (by omega) (Int.le_refl _) (by rw [h8];omega) (by omega)
 rw [h,h1];simp only [Int.toNat_natCast]
 rfl
def Cr (net:List PL) (w:World) (e:Ending) (w':World):Prop:=∃ g vs,e= .returned (.tuple #[.slice (some ⟨g,0,none⟩) net.length net.length,.bool true])/\VO w' w.heap.size 110 1 (some ⟨g,0,none⟩) net.length net.length vs/\LR w net net.length vs/\Below w.heap.size w w'
theorem By (n:Nat):(List.replicate n ([Value.nilIface])).flatten=List.replicate n Value.nilIface:=by
 induction n with
 | zero=>rfl
 | succ n ih=>rw [List.replicate_succ,List.flatten_cons,ih];rfl
theorem hM {net:List PL} (hv:tb net) {A:Option Addr} {cap:Nat} {F:List Nat} (w:World) (hx:RI (kE mxE) w A net.length cap net F) (hms:∀ l,l∈net->∀ m,m∈l.2->mS m) :
  Calls Tryz.prog 62 #[.slice A net.length cap] w (Cr net w):=by
 obtain ⟨n,hn⟩:∃ n,n=net.length:=⟨_,rfl⟩;have h4:n<=4:=by rw [hn];exact hv.1
 rw [<- hn] at hx ⊢;have t4:(n:Int)<=4:=by omega
 have hmk:=fun W:World=>ze n (by omega) W
 obtain ⟨OB,hO⟩:∃ OB,OB=(Obj.cells (madeCells #[.nilIface] (n*1)) 110):=⟨_,rfl⟩;have H0:Hid (VO (w.alloc OB) w.heap.size 110 1 (some ⟨w.heap.size,0,none⟩) n n ([]++List.replicate (n-0) Value.nilIface)):=by
  have h:=VO.made w 110 #[.nilIface] (by decide) n (by unfold maxLen;omega)
  rw [<- By,hO]
  exact h
 have B0:Hid (Below w.heap.size w (w.alloc OB)):=(Below.refl _ _).alloc (Nat.le_refl _) _;rw [<- hO] at hmk;have HV:=Lib.hid hv;have HX:=Lib.hid hx;have HMS:=Lib.hid hms;have HN:=Lib.hid hn;clear hO hv hx hms hn
 go_enter Tryz.func62,Tryz.ntmps62
 go_wp2
 go_loopw [17] (fun i wr=>∃ (j:Nat) (vs:List Value),j<=n/\i= .int .i64 j/\Hid (VO wr w.heap.size 110 1 (some ⟨w.heap.size,0,none⟩) n n (vs++List.replicate (n-j) Value.nilIface))/\Hid (LR w net j vs)/\Hid (Below w.heap.size w wr)) (fun i _=>n-(intOf i).toNat)
 case atStart=>exact ⟨0,[],Nat.zero_le _,rfl,H0,⟨rfl,fun i l v hi=>absurd hi (by omega)⟩,B0⟩
 case round =>
 clear H0 B0 hmk;obtain ⟨j,vs,hj,rfl,hvo,hlr,hob⟩:=hrel
 by_cases hlt:j<n
 ·obtain ⟨l,hlj,hmem⟩:=aH (xs:=net) (j:=j) (by have:=HN.out;omega)
  have HLJ:=Lib.hid hlj;have HMEM:=Lib.hid hmem;clear hlj hmem;obtain ⟨b,off,cs,Fx,rfl,hbl,hc,_,Aw,cw,rfl,hrw⟩:=HX.out.cells HLJ.out 2 rfl;have d0:wr.cell? ⟨b,off+j*2,none⟩=some (.int .i64 l.1):=(hob.out.cell (p:=⟨b,off+j*2,none⟩) hbl).trans (hc 0 (by omega))
  have d1:wr.cell? ⟨b,off+j*2+1,none⟩=some (.slice Aw l.2.length cw):=(hob.out.cell (p:=⟨b,off+j*2+1,none⟩) hbl).trans (hc 1 (by omega))
  have zb:b<wr.heap.size:=Nat.lt_of_lt_of_le hbl hob.out.size;have k0:(0:Int)<=(j:Int):=by omega
  have k1:(j:Int)<(n:Int):=by omega
  have HRW:=Lib.hid hrw;clear hc hrw;have HB1:=Lib.hid ((Below.refl wr.heap.size wr).alloc (Nat.le_refl _) (.cells #[.int .i64 l.1,.slice Aw l.2.length cw] 80));have hl25:l.2.length<=1048576:=by have:=ud (HV.out.2 l HMEM.out);omega
  go_wp2_with fail
  refine (lj l.1 Aw l.2.length cw l.2 _ w _ HRW.out (hob.out.trans (HB1.out.mono hob.out.size)) (HMS.out l HMEM.out) hl25).mono ?_;rintro e w5 ⟨v,rfl,hlv,hb⟩;rw [HV.out.2 l HMEM.out];obtain ⟨Tv,xv,rfl⟩:=hlv.iface (HV.out.2 l HMEM.out);obtain ⟨v,hvv⟩:∃ v,v=Value.iface Tv xv:=⟨_,rfl⟩;rw [<- hvv] at hlv;have hb2:Below wr.heap.size wr w5:=HB1.out.trans (hb.mono HB1.out.size);have hLV:LV w l v:=⟨Aw,cw,_,HRW.out,hlv⟩;have hvo5:=hvo.out.below hb2;have hlr5:=hlr.out;have hln:=hlr5.1;have hrep:List.replicate (n-j) Value.nilIface= .nilIface::List.replicate (n-(j+1)) .nilIface:=by rw [show n-j=(n-(j+1))+1 by omega];rfl
  rw [hrep] at hvo5;have cg:w5.cell? ⟨w.heap.size,j,none⟩=some .nilIface:=by
   rw [hvo5.cell j (by omega),List.getElem?_append_right (by omega),hln,Nat.sub_self];rfl
  have fg:=hvo5.frozen j;have zg:=(hvo5.aj _ rfl).2;have hst:=hvo5.store j v;rw [List.set_append_right _ _ (by omega),hln,Nat.sub_self,List.set_cons_zero] at hst
  have HST:Hid (VO (w5.setCell ⟨w.heap.size,j,none⟩ v) w.heap.size 110 1 (some ⟨w.heap.size,0,none⟩) n n ((vs++[v])++List.replicate (n-(j+1)) Value.nilIface)):=by rw [List.append_assoc];exact hst
  have HBN:Hid (Below w.heap.size w (w5.setCell ⟨w.heap.size,j,none⟩ v)):=(hob.out.trans (hb2.mono hob.out.size)).setCell (Nat.le_refl _) _;have HLP:=Lib.hid (hlr5.push HLJ.out hLV);clear hst hvo5 hlr5 hLV hlv hb hb2;subst hvv;clear hrep hln HB1 HRW;go_wp2
  go_roundw
  case rel=>exact ⟨j+1,vs++[.iface Tv xv],by omega,by go_num,HST,HLP,HBN⟩
  case measure=>simp [intOf];omega
 ·obtain rfl:j=n:=by omega
  rw [Nat.sub_self,List.replicate_zero,List.append_nil] at hvo;go_wp2
  go_ret2
  exact ⟨w.heap.size,vs,by rw [<- HN.out];rfl,by rw [<- HN.out];exact hvo.out,by rw [<- HN.out];exact hlr.out,hob.out⟩
end
end Go.Proofs.YtjciicheoghcdaaGreatDoor

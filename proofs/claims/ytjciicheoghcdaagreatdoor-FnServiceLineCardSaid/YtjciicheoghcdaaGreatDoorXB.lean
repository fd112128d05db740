/- Part of the proof that the law FnServiceLine of the given program returns true for every input. -/
import Derived.Test.YtjciicheoghcdaaGreatDoorXA
import Derived.Test.YtjciicheoghcdaaGreatDoorXl
import Derived.Test.YtjciicheoghcdaaGreatDoorXt
import Derived.Test.YtjciicheoghcdaaGreatDoorXu
namespace Go.Proofs.YtjciicheoghcdaaGreatDoor
open Go.RowKit
set_option linter.unusedSimpArgs false
set_option linter.unusedVariables false
set_option maxRecDepth 20000
set_option maxHeartbeats 16000000
section
attribute [local go_sem] af ah ae
theorem bo.le {p:Mx×Mx} {s:Int} {N M:Nat} (h:N<=M) {w:World} {e:Ending} {w':World} (k:bo p s N w e w'):bo p s M w e w':=by
 obtain ⟨A,c,B,d,C,n,q,v,e,f1,f2,f3,hn,hb⟩:=k
 exact ⟨A,c,B,d,C,n,q,v,e,f1,f2,f3,by omega,hb⟩
theorem yk {a b:Mx×Mx} {z y:(Mx×Mx)×Int} (hf:okS a=true/\okS b=true/\a.1.c=z.1.1.r/\b.1.r=a.1.r/\b.1.c=1) (hs:sdB z.2=true) (hz:okS z.1=true) {A:Option Addr} {c:Nat} {F:List Nat} {x:Value} (w:World) (hl:RI smE w A 2 c [a,b] F) (hx:RS w x z.1) (hy:y=ec a b z.1 z.2) :
  Calls Tryz.prog 97 #[.agg #[.int .i64 1,.slice A 2 c],x,.int .i64 z.2] w (bo y.1 y.2 500 w):=by
 obtain ⟨ab,ao,_,_,rfl,hbl,-⟩:=RI.at hl (i:=0) (x:=a) rfl;have HBL:=Lib.hid hbl;clear hbl;have HHX:=Lib.hid hx;obtain ⟨A1,A2,p1,p2,rfl,-⟩:=hx;have HS:=Lib.hid hs;have HZ:=Lib.hid hz;have HL:=Lib.hid hl;have HY:=Lib.hid hy;have HF:=Lib.hid hf;clear hs hz hl hy hf;refine zE ?_;intro u1 H;have hab:=HBL.out;have ezb:=Nat.lt_of_lt_of_le hab H.m;refine zX (tg [w.heap.size+1,w.heap.size,ab]) ?_;clear H;intro S w2 hne H;refine zD ((And.intro (H.c 1) (H.c 2))) ?_;intro G;obtain ⟨D0,d0,E0,e0,he,hr0⟩:=sm_at (RI.below HL.out H.O) (i:=0) (p:=a) rfl rfl;simp only [Nat.zero_mul,Nat.add_zero,Nat.one_mul,Nat.reduceMul] at he;have rx0:=an6 (H.row he.1) (H.row he.2.1) (H.row he.2.2.1) (H.row he.2.2.2.1) (H.row he.2.2.2.2.1) (H.row he.2.2.2.2.2);clear he;obtain ⟨D1,d1,E1,e1,he,hr1⟩:=sm_at (RI.below HL.out H.O) (i:=1) (p:=b) rfl rfl;simp only [Nat.zero_mul,Nat.add_zero,Nat.one_mul,Nat.reduceMul] at he;have rx1:=an6 (H.row he.1) (H.row he.2.1) (H.row he.2.2.1) (H.row he.2.2.2.1) (H.row he.2.2.2.2.1) (H.row he.2.2.2.2.2);clear he;intros;refine y_ ((show Calls Tryz.prog 138 _ w2 (bo y.1 y.2 75 w2) from by rw [HY.out];exact mM HF.out.1 HF.out.2.1 HZ.out HF.out.2.2.1 HF.out.2.2.2.1 HF.out.2.2.2.2 HS.out w2 hr0 hr1 (RS.below HHX.out H.O))) ?_
 rintro K hK e w3 ⟨PA,pa,PB,pb,C,n,kk,v,rfl,f1,f2,f3,hn,hb⟩;replace H:=H.so hb f1 f2 f3;have HN:=Lib.hid hn;clear hn;refine yK ?_;clear hK K;refine yS ?_;clear H;intro w4 H;refine yN ?_;clear H G;intro u5 H;refine zS_ ?_;clear H;intro u6 H
 exact ⟨PA,pa,PB,pb,C,n,kk,v,rfl,(qS.a (Ow.P1 (H.p 0))),(qS.b (Ow.P1 (H.p 0))),(Ow.P2 (H.p 0)),by have:=HN.out;omega,H.O⟩
theorem yl {_u:Mx×Mx} {z y:(Mx×Mx)×Int}  (hs:sdB z.2=true) (hz:okS z.1=true) {A:Option Addr} {c:Nat} {F:List Nat} {x:Value} (w:World) (hl:RI smE w A 0 c [] F) (hx:RS w x z.1) (hy:y=dv (fnv 2) z.1 z.2) :
  Calls Tryz.prog 97 #[.agg #[.int .i64 2,.slice A 0 c],x,.int .i64 z.2] w (bo y.1 y.2 500 w):=by
 have HHX:=Lib.hid hx;obtain ⟨A1,A2,p1,p2,rfl,-⟩:=hx;have HS:=Lib.hid hs;have HZ:=Lib.hid hz;have HL:=Lib.hid hl;have HY:=Lib.hid hy;clear hs hz hl hy;refine zE ?_;intro u1 H;refine zG ((show Calls Tryz.prog 139 _ u1 (bo y.1 y.2 25 u1) from by rw [HY.out];exact dA (by omega) HZ.out HS.out u1 (RS.below HHX.out H.O))) ?_
 rintro e w2 ⟨PA,pa,PB,pb,C,n,kk,v,rfl,f1,f2,f3,hn,hb⟩;replace H:=H.so hb f1 f2 f3;have HN:=Lib.hid hn;clear hn;refine zS_ ?_;clear H;intro u3 H
 exact ⟨PA,pa,PB,pb,C,n,kk,v,rfl,(qS.a (Ow.P1 (H.p 0))),(qS.b (Ow.P1 (H.p 0))),(Ow.P2 (H.p 0)),by have:=HN.out;omega,H.O⟩
theorem ym {a b t:Mx×Mx} {z y:(Mx×Mx)×Int} (hf:okS a=true/\okS b=true/\okS t=true/\a.1.r=z.1.1.c/\a.1.c=z.1.1.c/\b.1.r=z.1.1.c/\b.1.c=z.1.1.c/\t.1.r=z.1.1.c/\t.1.c=z.1.1.c) (hs:sdB z.2=true) (hz:okS z.1=true) {A:Option Addr} {c:Nat} {F:List Nat} {x:Value} (w:World) (hl:RI smE w A 3 c [a,b,t] F) (hx:RS w x z.1) (hy:y=nR a b t z.1 z.2) :
  Calls Tryz.prog 97 #[.agg #[.int .i64 3,.slice A 3 c],x,.int .i64 z.2] w (bo y.1 y.2 500 w):=by
 obtain ⟨ab,ao,_,_,rfl,hbl,-⟩:=RI.at hl (i:=0) (x:=a) rfl;have HBL:=Lib.hid hbl;clear hbl;have HHX:=Lib.hid hx;obtain ⟨A1,A2,p1,p2,rfl,-⟩:=hx;have HS:=Lib.hid hs;have HZ:=Lib.hid hz;have HL:=Lib.hid hl;have HY:=Lib.hid hy;have HF:=Lib.hid hf;clear hs hz hl hy hf;refine zE ?_;intro u1 H;refine zG ((show Calls Tryz.prog 140 _ u1 (bo y.1 y.2 500 u1) from by rw [HY.out];exact DY HF.out.1 HF.out.2.1 HF.out.2.2.1 HZ.out HF.out.2.2.2.1 HF.out.2.2.2.2.1 HF.out.2.2.2.2.2.1 HF.out.2.2.2.2.2.2.1 HF.out.2.2.2.2.2.2.2.1 HF.out.2.2.2.2.2.2.2.2 HS.out u1 (RI.below HL.out H.O) (RS.below HHX.out H.O))) ?_
 rintro e w2 ⟨PA,pa,PB,pb,C,n,kk,v,rfl,f1,f2,f3,hn,hb⟩;replace H:=H.so hb f1 f2 f3;have HN:=Lib.hid hn;clear hn;refine zS_ ?_;clear H;intro u3 H
 exact ⟨PA,pa,PB,pb,C,n,kk,v,rfl,(qS.a (Ow.P1 (H.p 0))),(qS.b (Ow.P1 (H.p 0))),(Ow.P2 (H.p 0)),by have:=HN.out;omega,H.O⟩
theorem qC {l:SL} (hb:aL l.1 (l.2.map aq)=true) {z:(Mx×Mx)×Int} {r c:Int} (hz:OKD z r c) {rc':Int×Int} (e:dr (df l) (r,c)=some rc') {A:Option Addr} {cap:Nat} {F:List Nat} {x:Value} (w:World) (hl:RI smE w A l.2.length cap l.2 F) (hx:RS w x z.1) :
  Calls Tryz.prog 97 #[.agg #[.int .i64 l.1,.slice A l.2.length cap],x,.int .i64 z.2] w (bo (jm l z).1 (jm l z).2 500 w):=by
 rcases sD hb hz e with ⟨a,b,rfl,hf,hL⟩ | ⟨rfl,hL⟩ | ⟨a,b,t,rfl,hf,hL⟩
 ·exact yk hf hz.2.2.2 hz.1 w hl hx hL
 ·exact yl (_u:=z.1) hz.2.2.2 hz.1 w hl hx hL
 ·exact ym hf hz.2.2.2 hz.1 w hl hx hL
end
section
attribute [local go_sem] af ah ae
theorem ts {a q:Mx} {r c:Int} (hb:aL 1 [a,q]=true) (hq:(a.c == r)=true) {A:Option Addr} {cap:Nat} {F:List Nat} (w:World) (hx:RI mxE w A 2 cap [a,q] F) (hms:∀ m,m∈([a,q]:List Mx)->mS m) :
  Calls Tryz.prog 100 #[.agg #[.int .i64 1,.slice A 2 cap],.int .i64 r,.int .i64 c] w (fun e w'=>e= .returned (.tuple #[.int .i64 a.r,.int .i64 c])/\Below w.heap.size w w'):=by
 obtain ⟨b,off,cs,F1,rfl,hbl,hc',_,P1,q1,rfl,hp1⟩:=hx.cells (i:=0) (x:=a) rfl 3 rfl;have HC0:Hid (w.cell? ⟨b,off,none⟩=some (.int .i64 a.r)):=by have:=hc' 0 (by omega);show _=_;simpa using this
 have HC1:Hid (w.cell? ⟨b,off+1,none⟩=some (.int .i64 a.c)):=by have:=hc' 1 (by omega);show _=_;simpa using this
 have HBL:=Lib.hid hbl;clear hbl hc' hp1;have HLB:=Lib.hid hb;have HMS:=Lib.hid hms;have HX:=Lib.hid hx;clear hb hms hx;refine zE ?_;intro u1 H;refine zG ((by have h:=dx 1 (some ⟨b,off,none⟩) 2 cap [a,q] F u1 (RI.below HX.out H.O) HMS.out (by omega);rw [HLB.out] at h;exact h:Calls Tryz.prog 90 _ u1 (fun e w'=>e= .returned (.bool true)/\Below u1.heap.size u1 w'))) ?_
 rintro e w2 ⟨rfl,hb⟩;replace H:=H.b hb;have c0:=(H.O.cell (p:=⟨b,off,none⟩) HBL.out).trans HC0.out;have c1:=(H.O.cell (p:=⟨b,off+1,none⟩) HBL.out).trans HC1.out;refine zR ?_;clear H;intro u3 H
 exact ⟨rfl,H.O⟩
theorem tr {a q:Mx} {r c:Int} (hb:aL 1 [a,q]=true) (hq:(a.c == r)=false) {A:Option Addr} {cap:Nat} {F:List Nat} (w:World) (hx:RI mxE w A 2 cap [a,q] F) (hms:∀ m,m∈([a,q]:List Mx)->mS m) :
  Calls Tryz.prog 100 #[.agg #[.int .i64 1,.slice A 2 cap],.int .i64 r,.int .i64 c] w (fun e w'=>e= .returned (.tuple #[.int .i64 0,.int .i64 0])/\Below w.heap.size w w'):=by
 obtain ⟨b,off,cs,F1,rfl,hbl,hc',_,P1,q1,rfl,hp1⟩:=hx.cells (i:=0) (x:=a) rfl 3 rfl;have HC0:Hid (w.cell? ⟨b,off,none⟩=some (.int .i64 a.r)):=by have:=hc' 0 (by omega);show _=_;simpa using this
 have HC1:Hid (w.cell? ⟨b,off+1,none⟩=some (.int .i64 a.c)):=by have:=hc' 1 (by omega);show _=_;simpa using this
 have HBL:=Lib.hid hbl;clear hbl hc' hp1;have HLB:=Lib.hid hb;have HMS:=Lib.hid hms;have HX:=Lib.hid hx;clear hb hms hx;refine zE ?_;intro u1 H;refine zG ((by have h:=dx 1 (some ⟨b,off,none⟩) 2 cap [a,q] F u1 (RI.below HX.out H.O) HMS.out (by omega);rw [HLB.out] at h;exact h:Calls Tryz.prog 90 _ u1 (fun e w'=>e= .returned (.bool true)/\Below u1.heap.size u1 w'))) ?_
 rintro e w2 ⟨rfl,hb⟩;replace H:=H.b hb;have c0:=(H.O.cell (p:=⟨b,off,none⟩) HBL.out).trans HC0.out;have c1:=(H.O.cell (p:=⟨b,off+1,none⟩) HBL.out).trans HC1.out;refine zR ?_;clear H;intro u3 H
 exact ⟨rfl,H.O⟩
theorem vn {_u:Mx} {r c:Int} (hb:aL 2 []=true)  {A:Option Addr} {cap:Nat} {F:List Nat} (w:World) (hx:RI mxE w A 0 cap [] F) (hms:∀ m,m∈([]:List Mx)->mS m) :
  Calls Tryz.prog 100 #[.agg #[.int .i64 2,.slice A 0 cap],.int .i64 r,.int .i64 c] w (fun e w'=>e= .returned (.tuple #[.int .i64 r,.int .i64 c])/\Below w.heap.size w w'):=by
 have HLB:=Lib.hid hb;have HMS:=Lib.hid hms;have HX:=Lib.hid hx;clear hb hms hx;refine zE ?_;intro u1 H;refine zB ((by have h:=dx 2 A 0 cap [] F u1 (RI.below HX.out H.O) HMS.out (by omega);rw [HLB.out] at h;exact h:Calls Tryz.prog 90 _ u1 (fun e w'=>e= .returned (.bool true)/\Below u1.heap.size u1 w'))) ?_;clear H;intro w2 u2 H
 refine zR ?_;clear H;intro u3 H
 exact ⟨rfl,H.O⟩
theorem tv {a q t:Mx} {r c:Int} (hb:aL 3 [a,q,t]=true) (hq:(a.r == c)=true) {A:Option Addr} {cap:Nat} {F:List Nat} (w:World) (hx:RI mxE w A 3 cap [a,q,t] F) (hms:∀ m,m∈([a,q,t]:List Mx)->mS m) :
  Calls Tryz.prog 100 #[.agg #[.int .i64 3,.slice A 3 cap],.int .i64 r,.int .i64 c] w (fun e w'=>e= .returned (.tuple #[.int .i64 r,.int .i64 c])/\Below w.heap.size w w'):=by
 obtain ⟨b,off,cs,F1,rfl,hbl,hc',_,P1,q1,rfl,hp1⟩:=hx.cells (i:=0) (x:=a) rfl 3 rfl;have HC0:Hid (w.cell? ⟨b,off,none⟩=some (.int .i64 a.r)):=by have:=hc' 0 (by omega);show _=_;simpa using this
 have HC1:Hid (w.cell? ⟨b,off+1,none⟩=some (.int .i64 a.c)):=by have:=hc' 1 (by omega);show _=_;simpa using this
 have HBL:=Lib.hid hbl;clear hbl hc' hp1;have HLB:=Lib.hid hb;have HMS:=Lib.hid hms;have HX:=Lib.hid hx;clear hb hms hx;refine zE ?_;intro u1 H;refine zG ((by have h:=dx 3 (some ⟨b,off,none⟩) 3 cap [a,q,t] F u1 (RI.below HX.out H.O) HMS.out (by omega);rw [HLB.out] at h;exact h:Calls Tryz.prog 90 _ u1 (fun e w'=>e= .returned (.bool true)/\Below u1.heap.size u1 w'))) ?_
 rintro e w2 ⟨rfl,hb⟩;replace H:=H.b hb;have c0:=(H.O.cell (p:=⟨b,off,none⟩) HBL.out).trans HC0.out;have c1:=(H.O.cell (p:=⟨b,off+1,none⟩) HBL.out).trans HC1.out;refine zR ?_;clear H;intro u3 H
 exact ⟨rfl,H.O⟩
theorem tu {a q t:Mx} {r c:Int} (hb:aL 3 [a,q,t]=true) (hq:(a.r == c)=false) {A:Option Addr} {cap:Nat} {F:List Nat} (w:World) (hx:RI mxE w A 3 cap [a,q,t] F) (hms:∀ m,m∈([a,q,t]:List Mx)->mS m) :
  Calls Tryz.prog 100 #[.agg #[.int .i64 3,.slice A 3 cap],.int .i64 r,.int .i64 c] w (fun e w'=>e= .returned (.tuple #[.int .i64 0,.int .i64 0])/\Below w.heap.size w w'):=by
 obtain ⟨b,off,cs,F1,rfl,hbl,hc',_,P1,q1,rfl,hp1⟩:=hx.cells (i:=0) (x:=a) rfl 3 rfl;have HC0:Hid (w.cell? ⟨b,off,none⟩=some (.int .i64 a.r)):=by have:=hc' 0 (by omega);show _=_;simpa using this
 have HC1:Hid (w.cell? ⟨b,off+1,none⟩=some (.int .i64 a.c)):=by have:=hc' 1 (by omega);show _=_;simpa using this
 have HBL:=Lib.hid hbl;clear hbl hc' hp1;have HLB:=Lib.hid hb;have HMS:=Lib.hid hms;have HX:=Lib.hid hx;clear hb hms hx;refine zE ?_;intro u1 H;refine zG ((by have h:=dx 3 (some ⟨b,off,none⟩) 3 cap [a,q,t] F u1 (RI.below HX.out H.O) HMS.out (by omega);rw [HLB.out] at h;exact h:Calls Tryz.prog 90 _ u1 (fun e w'=>e= .returned (.bool true)/\Below u1.heap.size u1 w'))) ?_
 rintro e w2 ⟨rfl,hb⟩;replace H:=H.b hb;have c0:=(H.O.cell (p:=⟨b,off,none⟩) HBL.out).trans HC0.out;have c1:=(H.O.cell (p:=⟨b,off+1,none⟩) HBL.out).trans HC1.out;refine zR ?_;clear H;intro u3 H
 exact ⟨rfl,H.O⟩
theorem kO {l:PL} (hb:aL l.1 l.2=true) {r c:Int} {A:Option Addr} {cap:Nat} {F:List Nat} (w:World) (hx:RI mxE w A l.2.length cap l.2 F) (hms:∀ m,m∈l.2->mS m) :
  Calls Tryz.prog 100 #[.agg #[.int .i64 l.1,.slice A l.2.length cap],.int .i64 r,.int .i64 c] w (fun e w'=>e= .returned (.tuple #[.int .i64 ((dr l (r,c)).getD (0,0)).1,.int .i64 ((dr l (r,c)).getD (0,0)).2])/\Below w.heap.size w w'):=by
 obtain ⟨k,ms⟩:=l;rcases eM hb with ⟨h1,a,b,h2,_⟩ | ⟨h1,h2⟩ | ⟨h1,a,b,t,h2,_⟩
 ·dsimp only at h1 h2 hx hms ⊢
  subst h1 h2
  by_cases hq:a.c=r
  ·have e:dr (1,[a,b]) (r,c)=some (a.r,c):=if_pos hq;rw [e]
   exact ts hb (by rw [hq];simp) w hx hms
  ·have e:dr (1,[a,b]) (r,c)=none:=if_neg hq;rw [e]
   exact tr hb (by simpa using hq) w hx hms
 ·dsimp only at h1 h2 hx hms ⊢
  subst h1 h2
  exact vn (_u:=Mx.z) hb w hx hms
 ·dsimp only at h1 h2 hx hms ⊢
  subst h1 h2
  by_cases hq:a.r=c
  ·have e:dr (3,[a,b,t]) (r,c)=some (r,c):=if_pos hq;rw [e]
   exact tv hb (by rw [hq];simp) w hx hms
  ·have e:dr (3,[a,b,t]) (r,c)=none:=if_neg hq;rw [e]
   exact tu hb (by simpa using hq) w hx hms
theorem vp {l:PL} (hb:aL l.1 l.2=true) {r c:Int} (hr:side r=true) (hc:side c=true) {rc:Int×Int} (e:dr l (r,c)=some rc):side rc.1=true/\side rc.2=true:=by
 obtain ⟨k,ms⟩:=l;rcases eM hb with ⟨h1,a,b,h2,ha,_⟩ | ⟨h1,h2⟩ | ⟨h1,a,b,t,h2,_⟩
 ·dsimp only at h1 h2
  subst h1 h2
  by_cases hq:a.c=r
  ·have e':dr (1,[a,b]) (r,c)=some (a.r,c):=if_pos hq;rw [e'] at e;injection e with e;subst e
   exact ⟨(aA ha).1,hc⟩
  ·have e':dr (1,[a,b]) (r,c)=none:=if_neg hq;rw [e'] at e;cases e
 ·dsimp only at h1 h2
  subst h1 h2;injection e with e;subst e;exact ⟨hr,hc⟩
 ·dsimp only at h1 h2
  subst h1 h2
  by_cases hq:a.r=c
  ·have e':dr (3,[a,b,t]) (r,c)=some (r,c):=if_pos hq;rw [e'] at e;injection e with e;subst e;exact ⟨hr,hc⟩
  ·have e':dr (3,[a,b,t]) (r,c)=none:=if_neg hq;rw [e'] at e;cases e
theorem eB {net:List PL} (hv:tb net) {A:Option Addr} {cap:Nat} {F:List Nat} {r c:Int} (hr:side r=true) (hc:side c=true) (w:World) (hx:RI (kE mxE) w A net.length cap net F) (hms:∀ l,l∈net->∀ m,m∈l.2->mS m) :
  Calls Tryz.prog 49 #[.slice A net.length cap,.int .i64 r,.int .i64 c] w (NSd (bE net (some (r,c))).isSome w):=by
 have HV:=Lib.hid hv;have HX:=Lib.hid hx;have HMS:=Lib.hid hms;have HR:=Lib.hid hr;have HC:=Lib.hid hc;clear hv hx hms hr hc;have n4:(net.length:Int)<=4:=by have:=HV.out.1;omega
 refine zE ?_;intro u1 H;refine zP (aT _ HR.out u1) ?_;clear H;intro u2 H;refine zP (aT _ HC.out u2) ?_;clear H;intro u3 H
 go_wp2_with fail
 intros
 go_loopw [1,2,9] (fun s1 s2 i wr=>∃ (j:Nat) (rr cc:Int),j<=net.length/\i= .int .i64 j/\s1= .int .i64 rr/\s2= .int .i64 cc/\Hid (bE (net.take j) (some (r,c))=some (rr,cc)/\side rr=true/\side cc=true)/\Hid (Hq w [] wr)) (fun _ _ i _=>net.length-(intOf i).toNat)
 case atStart=>exact ⟨0,r,c,Nat.zero_le _,rfl,rfl,rfl,⟨rfl,HR.out,HC.out⟩,H⟩
 case round =>
 clear H;obtain ⟨j,rr,cc,hj,rfl,rfl,rfl,hz,H⟩:=hrel;have H:=H.out
 by_cases hlt:j<net.length
 ·obtain ⟨l,hlj,hmem⟩:=aH hlt;have HLJ:=Lib.hid hlj;have HLB:=Lib.hid (HV.out.2 l hmem);have HEM:=Lib.hid (HMS.out l hmem);obtain ⟨b,off,cs,F1,rfl,hbl,hc',_,A2,c2,rfl,he⟩:=HX.out.cells hlj 2 rfl;have HD0:Hid (w.cell? ⟨b,off+j*2,none⟩=some (.int .i64 l.1)):=hc' 0 (by omega)
  have HD1:Hid (w.cell? ⟨b,off+j*2+1,none⟩=some (.slice A2 l.2.length c2)):=hc' 1 (by omega)
  have HBL:=Lib.hid hbl;have HE:=Lib.hid he;have j0:(0:Int)<=(j:Int):=by omega
  have j1:(j:Int)<(net.length:Int):=by omega
  clear hlj hmem hbl hc' he;have d0:=(H.O.cell (p:=⟨b,off+j*2,none⟩) HBL.out).trans HD0.out;have d1:=(H.O.cell (p:=⟨b,off+j*2+1,none⟩) HBL.out).trans HD1.out;refine zN ?_;clear H;intro u21 H;refine zG (kO HLB.out u21 (RI.below HE.out H.O) HEM.out) ?_;rintro e w22 ⟨rfl,hb⟩;replace H:=H.b hb;clear hb;obtain ⟨x,hx⟩:∃ x,x=dr l (rr,cc):=⟨_,rfl⟩;rw [<- hx]
  cases x with
  | none =>
   have HN:Hid ((bE net (some (r,c))).isSome=false):=by show _=_;rw [gJ (j:=j+1) (by rw [eh HLJ.out,hz.out.1];exact hx.symm)];rfl
   clear hx
   dsimp only [Option.getD]
   intros;go_wp2
   (try simp only [Exit.inBlock,Exit.then])
   exact bodyPost_ret (v:= .tuple #[.int .i64 0,.int .i64 0,.bool false]) (by simp [results,Tryz.results49,go_sem]) rfl (by rw [HN.out];exact ⟨_,_,rfl,H.O⟩)
  | some rc =>
   obtain ⟨r',c'⟩:=rc;have hs:=vp HLB.out hz.out.2.1 hz.out.2.2 hx.symm;have HZ:Hid (bE (net.take (j+1)) (some (r,c))=some (r',c')/\side r'=true/\side c'=true):=⟨by rw [eh HLJ.out,hz.out.1];exact hx.symm,hs⟩
   have hr0:(r' == 0)=false:=by have:=bI hs.1;simp;omega
   clear hx hs hz
   dsimp only [Option.getD]
   intros;go_wp2
   go_roundw
   case rel=>exact ⟨j+1,r',c',by omega,by go_num,rfl,rfl,HZ,H⟩
   case measure=>simp [intOf];omega
 ·have hjn:j=net.length:=by omega
  have HN:Hid ((bE net (some (r,c))).isSome=true):=by show _=_;have h:=hz.out.1;rw [hjn,List.take_length] at h;rw [h];rfl
  go_wp2
  (try simp only [Exit.inBlock,Exit.then])
  exact bodyPost_ret (v:= .tuple #[.int .i64 rr,.int .i64 cc,.bool true]) (by simp [results,Tryz.results49,go_sem]) rfl (by rw [HN.out];exact ⟨_,_,rfl,H.O⟩)
end
section
attribute [local go_sem] af ah ae
def Bt (w:World) (e:Ending) (w':World):Prop:=∃ (C:Option Addr) (k:Nat),e= .returned (.tuple #[SMV 0 0 none 0 0 0 0 none 0 0,.slice C 0 k,.int .i64 0])/\Below w.heap.size w w'
theorem DX {net:List SL} (hok:bu net=true) (hns:gG (kS smS) net) {A:Option Addr} {cap:Nat} {F:List Nat} {x:Mx×Mx} {s:Int} (hox:okS x=true) (hsd:sdB s=true) (hfit:(bE (bh net) (some (x.1.r,x.1.c))).isSome=true) (w:World) (hl:RI (kE smE) w A net.length cap net F) {vx:Value} (hx:RS w vx x) :
  Calls Tryz.prog 46 #[.slice A net.length cap,vx,.int .i64 s] w (pM (fD net (x,s)).1 (fD net (x,s)).2 w):=by
 have HNV:=Lib.hid (eN hok);have HNL:Hid (net.length<=4):=(du hok).1;have HRR:=Lib.hid (aA (ai hox).1).1;have HCC:=Lib.hid (aA (ai hox).1).2;have HHX:=Lib.hid hx;obtain ⟨A1,A2,p1,p2,rfl,-⟩:=hx;have HOK:=Lib.hid hok;have HNS:=Lib.hid hns;have HX:=Lib.hid hox;have HS:=Lib.hid hsd;have HFIT:=Lib.hid hfit;have HL:=Lib.hid hl;clear hok hns hox hsd hfit hl;refine zE ?_;intro u1 H;refine zI (bW _ _ _ _ _ u1 (RI.below HL.out H.O) HNS.out.1 HNS.out.2) ?_;clear H;intro w2 AN cn FN u2 H;refine zW (eC HX.out u2 (RS.below HHX.out H.O)) ?_;clear H;intro w3 FX1 FX2 fxc fxd u3 H;refine zG (je _ _ _ net _ u3 (H.f 2).1 HNS.out) ?_;rintro e w4 ⟨AJ,nj,cj,FJ,rfl,hrj,hfr,hb⟩;replace H:=H.rf hb hrj hfr;rw [HOK.out];obtain rfl:=hrj.len;clear hrj hfr hb;refine zN ?_;clear H;intro u5 H;refine zG ((show Calls Tryz.prog 49 #[_,_,_] u5 (NSd true u5) from by rw [<- HFIT.out];exact eB HNV.out HRR.out HCC.out u5 (H.f 0).1 dU)) ?_
 rintro e w6 ⟨y1,y2,rfl,hb⟩;replace H:=H.b hb;refine zN ?_;clear H;intro u7 H;refine zB (iR HX.out u7 (H.rs 2)) ?_;clear H;intro w8 u8 H;refine zP (cz _ HS.out u8) ?_;clear H;intro u9 H;replace H:=(H.d 0);intros
 go_loopw [2,9,15] (fun s2 s9 i wr=>∃ (j:Nat) (z:(Mx×Mx)×Int) (rr cc:Int) (PA PB C:Option Addr) (pa pb m k:Nat) (v:List Int),j<=net.length/\i= .int .i64 j/\m<=500*j/\s2= .int .i64 z.2/\s9= .slice C m k/\Hid (fD (net.take j) (x,s)=z/\bE ((bh net).take j) (some (x.1.r,x.1.c))=some (rr,cc)/\OKD z rr cc)/\Hid (Hq w [qO w.heap.size C m k v,qS w.heap.size PA pa PB pb z.1,qR (kE smE) w.heap.size AN net.length cn net FN,qB (w.heap.size+1) 82 [.int .i64 0,.int .i64 0,.slice none 0 0,.int .i64 0,.int .i64 0,.slice none 0 0],qB w.heap.size 82 [.int .i64 z.1.1.r,.int .i64 z.1.1.c,.slice PA z.1.1.v.length pa,.int .i64 z.1.2.r,.int .i64 z.1.2.c,.slice PB z.1.2.v.length pb]] wr)) (fun _ _ i _=>net.length-(intOf i).toNat)
 case atStart=>exact ⟨0,(x,s),_,_,_,_,_,_,_,0,0,[],Nat.zero_le _,rfl,by omega,rfl,rfl,⟨rfl,rfl,HX.out,rfl,rfl,HS.out⟩,H⟩
 case round =>
 clear H;obtain ⟨j,z,rr,cc,PA,PB,C,pa,pb,m,k,v,hj,rfl,hm,rfl,rfl,hz,H⟩:=hrel;have H:=H.out
 by_cases hlt:j<net.length
 ·obtain ⟨l,hlj,hmem⟩:=aH hlt;obtain ⟨hz1,hz2,hz3⟩:=hz.out;have hlb:=(du HOK.out).2 l hmem;have hjl:(bh net)[j]?=some (df l):=by rw [eL HOK.out];exact jb hlj
  have hq:∃ r' c',dr (df l) (rr,cc)=some (r',c'):=by
   cases e:dr (df l) (rr,cc) with
   | none =>
    have h1:bE ((bh net).take (j+1)) (some (x.1.r,x.1.c))=none:=by rw [eh hjl,hz2];exact e
    have h2:=HFIT.out;rw [gJ h1] at h2
    cases h2
   | some rc=>exact ⟨rc.1,rc.2,rfl⟩
  obtain ⟨r',c',hq⟩:=hq;obtain ⟨zz,hzz⟩:∃ zz,zz=jm l z:=⟨_,rfl⟩;have HZ:Hid (fD (net.take (j+1)) (x,s)=zz/\bE ((bh net).take (j+1)) (some (x.1.r,x.1.c))=some (r',c')/\OKD zz r' c'):=⟨by rw [pF hlj,hz1,hzz],by rw [eh hjl,hz2];exact hq,by rw [hzz];exact qk hlb hz3 hq⟩
  have j0:(0:Int)<=(j:Int):=by omega
  have j1:(j:Int)<(net.length:Int):=by omega
  have h4:j<4:=by have:=HNL.out;omega
  have HLJ:=Lib.hid hlj;have HLB:=Lib.hid hlb;have HOKD:=Lib.hid hz3;have HSID:=Lib.hid hq;have HZZ:=Lib.hid hzz;clear hlj hmem hz hz1 hz2 hz3 hlb hjl hq hzz;obtain ⟨b,off,_,_,rfl,-⟩:=RI.at (H.f 2).1 HLJ.out;refine zN ?_;clear H;intro u21 H;have ezb:=(RI.blt' (H.f 2).1 (by omega)).1
  have E:=H.el;refine zXF (tgF [w.heap.size,b] 11 16 (.cells #[.int .i64 0,.int .i64 0,.slice none 0 0,.int .i64 0,.int .i64 0,.slice none 0 0] 82)) ?_;clear H;intro S w22 hne H;refine zD (H.c 4) ?_;intro G;obtain ⟨b',o',cs,F',eA,_,hc',_,A2,c2,rfl,he⟩:=RI.cells (H.f 2).1 HLJ.out 2 rfl;injection eA with eA;injection eA with e1 e2;subst e1 e2;have rx:=an2 (H.row (show World.cell? _ ⟨b,off+j*2,none⟩=some (.int .i64 l.1) from hc' 0 (by omega))) (H.row (show World.cell? _ ⟨b,off+j*2+1,none⟩=some (.slice A2 l.2.length c2) from hc' 1 (by omega)))
  clear hc';intros;refine f_ (fun w23 (hb:Bw w22 w23)=>(show Calls Tryz.prog 97 #[_,_,_] w23 (bo zz.1 zz.2 500 w23) from by rw [HZZ.out];exact qC HLB.out HOKD.out HSID.out w23 (RI.below he hb) ((H.b hb).rs 1))) ?_;clear H
  rintro w23 K hK H e w24 ⟨QA,qa,QB,qb,D,n,kk,v2,rfl,f1,f2,f3,hn,hb⟩;replace H:=H.so hb f1 f2 f3;have HN:=Lib.hid hn;clear hn;refine fK ?_;clear hK K hb;refine yG ?_;clear H;intro w25 g25 hg25 H;refine yS ?_;clear H;intro w26 H;intros
  repeat (first | (refine lc' ?_;intro K hK;go_big_quiet_op;go_big_quiet_on) | refine lk' ?_)
  refine aI ?_;replace H:=H.H;clear G;refine zC ?_;intro C;intros
  go_wp2_with (at_builtin;refine zM ?_)
  clear H C;intro u28 H;replace H:=H.r 2;refine zA (OS.si (Ow.P2 (H.p 2))) ((And.intro HN.out HNL.out)) ?_;clear H;intro C' k' w28 H;replace H:=(H.r 2).pP;replace H:=(((((((H.d 2).d 2).r 4).r 4).r 4).r 3).r 4);refine zC ?_;intro C;intros;go_wp2
  go_roundw
  case rel=>exact ⟨j+1,zz,r',c',QA,QB,C',qa,qb,m+n,k',_,by omega,by go_num,by have:=HN.out;omega,rfl,rfl,HZ,H⟩
  case measure=>simp [intOf];omega
 ·have hjn:j=net.length:=by omega
  have HEND:Hid (fD net (x,s)=z):=by show _=_;have h:=hz.out.1;rw [hjn,List.take_length] at h;exact h
  refine zS_ ?_;clear H;intro u61 H
  exact (by rw [HEND.out];exact ⟨PA,pa,PB,pb,C,m,k,v,rfl,(qS.a (H.p 1)),(qS.b (H.p 1)),(H.o 0),H.O⟩)
theorem oh {net:List SL} (hok:bu net=true) (hns:gG (kS smS) net) {A:Option Addr} {cap:Nat} {F:List Nat} {x:Mx×Mx} {s:Int} (hox:okS x=true) (hsd:sdB s=true) (hfit:(bE (bh net) (some (x.1.r,x.1.c))).isSome=false) (w:World) (hl:RI (kE smE) w A net.length cap net F) {vx:Value} (hx:RS w vx x) :
  Calls Tryz.prog 46 #[.slice A net.length cap,vx,.int .i64 s] w (Bt w):=by
 have HNV:=Lib.hid (eN hok);have HNL:Hid (net.length<=4):=(du hok).1;have HRR:=Lib.hid (aA (ai hox).1).1;have HCC:=Lib.hid (aA (ai hox).1).2;have HHX:=Lib.hid hx;obtain ⟨A1,A2,p1,p2,rfl,-⟩:=hx;have HOK:=Lib.hid hok;have HNS:=Lib.hid hns;have HX:=Lib.hid hox;have HS:=Lib.hid hsd;have HFIT:=Lib.hid hfit;have HL:=Lib.hid hl;clear hok hns hox hsd hfit hl;refine zE ?_;intro u1 H;refine zI (bW _ _ _ _ _ u1 (RI.below HL.out H.O) HNS.out.1 HNS.out.2) ?_;clear H;intro w2 AN cn FN u2 H;refine zW (eC HX.out u2 (RS.below HHX.out H.O)) ?_;clear H;intro w3 FX1 FX2 fxc fxd u3 H;refine zG (je _ _ _ net _ u3 (H.f 2).1 HNS.out) ?_;rintro e w4 ⟨AJ,nj,cj,FJ,rfl,hrj,hfr,hb⟩;replace H:=H.rf hb hrj hfr;rw [HOK.out];obtain rfl:=hrj.len;clear hrj hfr hb;refine zN ?_;clear H;intro u5 H;refine zG ((show Calls Tryz.prog 49 #[_,_,_] u5 (NSd false u5) from by rw [<- HFIT.out];exact eB HNV.out HRR.out HCC.out u5 (H.f 0).1 dU)) ?_
 rintro e w6 ⟨y1,y2,rfl,hb⟩;replace H:=H.b hb;refine zC ?_;intro C;intros
 go_wp2_with (with_reducible refine gn 82 rfl ?_)
 refine zM ?_;clear H C;intro u7 H;intros;refine Lib.hid ?_;refine zSt ?_;clear H;intro w7 H;refine zS_ ?_;clear H;intro u8 H
 exact ⟨_,_,rfl,H.O⟩
end
section
attribute [local go_sem] af ah ae
theorem dP {n:Nd} (hn:nB n 1000000) {r i c:Int} (hr:side r=true) (hi:side i=true) (hc:side c=true) (w:World):Calls Tryz.prog 143 #[NV n,.int .i64 r,.int .i64 i,.int .i64 c] w (fb (n.add (cpN r i c)) w):=by
 unfold NV;obtain ⟨x1,x2,x3,x4,x5,x6,x7,x8⟩:=hn;obtain ⟨p1,p2⟩:=dh hr hi;obtain ⟨p3,p4⟩:=dh hi hc;obtain ⟨p5,p6⟩:=dh hr hc;refine zE ?_;intro u1 H;refine zS_ ?_;clear H;intro u2 H
 exact ⟨congrArg Ending.returned (by unfold NV Nd.add cpN;simp [Int.add_assoc]),H.O⟩
theorem yn {n y:Nd} (hn:nB n 1000000) {a q:Mx} (ha:side a.r=true) {r c:Int} (hr:side r=true) (hc:side c=true) (hy:y=n.add (cpN a.r r c)) {A:Option Addr} {cap:Nat} {F:List Nat} (w:World) (hx:RI mxE w A 2 cap [a,q] F) :
  Calls Tryz.prog 102 #[NV n,.agg #[.int .i64 1,.slice A 2 cap],.int .i64 r,.int .i64 c] w (fb y w):=by
 unfold NV;obtain ⟨b,off,cs,F1,rfl,hbl,hc',_,P1,q1,rfl,hp1⟩:=hx.cells (i:=0) (x:=a) rfl 3 rfl;have HC0:Hid (w.cell? ⟨b,off,none⟩=some (.int .i64 a.r)):=by have:=hc' 0 (by omega);show _=_;simpa using this
 have HBL:=Lib.hid hbl;clear hbl hc' hp1 hx;have HN:=Lib.hid hn;have HA:=Lib.hid ha;have HR:=Lib.hid hr;have HC:=Lib.hid hc;have HY:=Lib.hid hy;clear hn ha hr hc hy;refine zE ?_;intro u1 H;have hab:=HBL.out;have ezb:=Nat.lt_of_lt_of_le hab H.m;refine zX (tg [w.heap.size+1,w.heap.size,b]) ?_;clear H;intro S w2 hne H;refine zD ((And.intro (H.c 1) (H.c 2))) ?_;intro G;have rx:=H.row (g:=b) (j0:=off) ((H.O.cell (p:=⟨b,off,none⟩) HBL.out).trans HC0.out);refine yB ((show Calls Tryz.prog 143 #[_,_,_,_] w2 (fb y w2) from by rw [HY.out];exact dP HN.out HA.out HR.out HC.out w2)) ?_;clear H;intro w3 H
 refine yS ?_;clear H;intro w4 H;refine yN ?_;clear H G;intro u5 H;refine zS_ ?_;clear H;intro u6 H
 exact ⟨rfl,H.O⟩
theorem yo {n:Nd} (hn:nB n 1000000) {r c:Int} (hr:side r=true) (hc:side c=true) {A:Option Addr} {cap:Nat} (w:World) :
  Calls Tryz.prog 102 #[NV n,.agg #[.int .i64 2,.slice A 0 cap],.int .i64 r,.int .i64 c] w (fb (n.add (lkN (r*c))) w):=by
 unfold NV;obtain ⟨x1,x2,x3,x4,x5,x6,x7,x8⟩:=hn;obtain ⟨p5,p6⟩:=dh hr hc;refine zE ?_;intro u1 H;refine zS_ ?_;clear H;intro u2 H
 exact ⟨congrArg Ending.returned (by unfold NV Nd.add lkN;simp),H.O⟩
theorem yp {n:Nd} (hn:nB n 900000) {r c:Int} (hr:side r=true) (hc:side c=true) {A:Option Addr} {cap:Nat} {ms:List Mx} (w:World) :
  Calls Tryz.prog 102 #[NV n,.agg #[.int .i64 3,.slice A 3 cap],.int .i64 r,.int .i64 c] w (fb (n.add (ndL (3,ms) (r,c))) w):=by
 unfold NV;obtain ⟨y1,h1⟩:∃ y,y=n.add (cpN r c c):=⟨_,rfl⟩;obtain ⟨y2,h2⟩:∃ y,y=y1.add (cpN r c c):=⟨_,rfl⟩;obtain ⟨y3,h3⟩:∃ y,y=y2.add (cpN r c c):=⟨_,rfl⟩;obtain ⟨y4,h4⟩:∃ y,y=y3.add (cpN r c r):=⟨_,rfl⟩;obtain ⟨y5,h5⟩:∃ y,y=y4.add (cpN r r c):=⟨_,rfl⟩;have b1:nB y1 900100:=h1 ▸ hn.add (nB.cp hr hc hc) (by omega)
 have b2:nB y2 900200:=h2 ▸ b1.add (nB.cp hr hc hc) (by omega)
 have b3:nB y3 900300:=h3 ▸ b2.add (nB.cp hr hc hc) (by omega)
 have b4:nB y4 900400:=h4 ▸ b3.add (nB.cp hr hc hr) (by omega)
 have b5:nB y5 900500:=h5 ▸ b4.add (nB.cp hr hr hc) (by omega)
 have B0:=Lib.hid (hn.le (show (900000:Int)<=1000000 by omega))
 have B1:=Lib.hid (b1.le (show (900100:Int)<=1000000 by omega))
 have B2:=Lib.hid (b2.le (show (900200:Int)<=1000000 by omega))
 have B3:=Lib.hid (b3.le (show (900300:Int)<=1000000 by omega))
 have B4:=Lib.hid (b4.le (show (900400:Int)<=1000000 by omega))
 obtain ⟨x1,x2,x3,x4,x5,x6,x7,x8⟩:=b5;obtain ⟨p1,p2⟩:=dh hr hr;obtain ⟨q1,q2⟩:=bI hr;have e2:2*r*r=2*(r*r):=Int.mul_assoc ..;have e4:4*r*r=4*(r*r):=Int.mul_assoc ..;have g2:0<=2*r*r/\2*r*r<=50:=by omega
 have g4:0<=4*r*r/\4*r*r<=100:=by omega
 have HEND:Hid (NV ⟨y5.a+r*r,y5.b,y5.c+2*r*r+r,y5.d+4*r*r+r⟩=NV (n.add (ndL (3,ms) (r,c)))):=by
  show _=_
  rw [h5,h4,h3,h2,h1,e2,e4]
  show NV _=NV (n.add ⟨r*r,5,4*(r*c)+3*(r*r)+r,10*(r*c)+3*(c*c)+6*(r*r)+r⟩)
  simp only [NV,Nd.add,cpN,Int.mul_comm c r]
  congr 2 <;> simp only [Value.int.injEq,true_and,List.cons.injEq,and_true] <;> omega
 clear e2 e4 b1 b2 b3 b4;have HY1:=Lib.hid h1;have HY2:=Lib.hid h2;have HY3:=Lib.hid h3;have HY4:=Lib.hid h4;have HY5:=Lib.hid h5;clear h1 h2 h3 h4 h5 hn;have HR:=Lib.hid hr;have HC:=Lib.hid hc;clear hr hc;refine zE ?_;intro u1 H;refine zC ?_;intro C;intros;go_wp2;refine wp_loop_rounds 4 ?_;rw [rounds_succ];clear C;refine zN ?_;clear H;intro u2 H;refine zG ((show Calls Tryz.prog 143 #[_,_,_,_] u2 (fb y1 u2) from by rw [HY1.out];exact dP B0.out HR.out HC.out HC.out u2)) ?_
 rintro e w3 ⟨rfl,hb⟩;replace H:=H.b hb;unfold NV;refine zC ?_;intro C;intros
 go_wp2_with fail
 rw [rounds_succ];refine zM ?_;clear H C;intro u4 H;refine zN ?_;clear H;intro u5 H;refine zG ((show Calls Tryz.prog 143 #[_,_,_,_] u5 (fb y2 u5) from by rw [HY2.out];exact dP B1.out HR.out HC.out HC.out u5)) ?_
 rintro e w6 ⟨rfl,hb⟩;replace H:=H.b hb;unfold NV;refine zC ?_;intro C;intros
 go_wp2_with fail
 rw [rounds_succ];refine zM ?_;clear H C;intro u7 H;refine zN ?_;clear H;intro u8 H;refine zG ((show Calls Tryz.prog 143 #[_,_,_,_] u8 (fb y3 u8) from by rw [HY3.out];exact dP B2.out HR.out HC.out HC.out u8)) ?_
 rintro e w9 ⟨rfl,hb⟩;replace H:=H.b hb;unfold NV;refine zC ?_;intro C;intros
 go_wp2_with fail
 rw [rounds_succ];refine zM ?_;clear H C;intro u10 H;refine zN ?_;clear H;intro u11 H;refine zG ((show Calls Tryz.prog 143 #[_,_,_,_] u11 (fb y4 u11) from by rw [HY4.out];exact dP B3.out HR.out HC.out HR.out u11)) ?_
 rintro e w12 ⟨rfl,hb⟩;replace H:=H.b hb;unfold NV;refine zN ?_;clear H;intro u13 H;refine zG ((show Calls Tryz.prog 143 #[_,_,_,_] u13 (fb y5 u13) from by rw [HY5.out];exact dP B4.out HR.out HR.out HC.out u13)) ?_
 rintro e w14 ⟨rfl,hb⟩;replace H:=H.b hb;unfold NV;refine zC ?_;intro C;intros;go_upto_region 12 with fail;refine zM ?_;clear H C;intro u15 H;refine zC ?_;intro C;intros
 go_wp2_with (with_reducible refine gn 92 rfl ?_)
 refine zM ?_;clear H C;intro u16 H;intros;refine Lib.hid ?_;refine zSt ?_;clear H;intro w16 H;refine zS_ ?_;clear H;intro u17 H
 exact ⟨congrArg Ending.returned HEND.out,H.O⟩
theorem yr {l:PL} (hb:aL l.1 l.2=true) {n:Nd} (hn:nB n 900000) {r c:Int} (hr:side r=true) (hc:side c=true) {A:Option Addr} {cap:Nat} {F:List Nat} (w:World) (hx:RI mxE w A l.2.length cap l.2 F) :
  Calls Tryz.prog 102 #[NV n,.agg #[.int .i64 l.1,.slice A l.2.length cap],.int .i64 r,.int .i64 c] w (fb (n.add (ndL l (r,c))) w):=by
 obtain ⟨k,ms⟩:=l;rcases eM hb with ⟨h1,a,b,h2,ha,_⟩ | ⟨h1,h2⟩ | ⟨h1,a,b,t,h2,_⟩ <;> dsimp only at h1 h2 hx ⊢ <;> subst h1 h2
 ·exact yn (hn.le (by omega)) (aA ha).1 hr hc (by unfold ndL;rw [if_pos rfl];rfl) w hx
 ·have e:ndL (2,[]) (r,c)=lkN (r*c):=by unfold ndL;rw [if_neg (by decide),if_pos rfl]
  rw [e]
  exact yo (hn.le (by omega)) hr hc w
 ·exact yp hn hr hc w
theorem sz {net:List PL} (hv:tb net) {A:Option Addr} {cap:Nat} {F:List Nat} {r c:Int} (hr:side r=true) (hc:side c=true) (hs:(bE net (some (r,c))).isSome=true) (w:World) (hx:RI (kE mxE) w A net.length cap net F) (hms:∀ l,l∈net->∀ m,m∈l.2->mS m) :
  Calls Tryz.prog 51 #[.slice A net.length cap,.int .i64 r,.int .i64 c] w (fb (ndN net (Nd.z,some (r,c))).1 w):=by
 have HV:=Lib.hid hv;have HX:=Lib.hid hx;have HMS:=Lib.hid hms;have HS:=Lib.hid hs;have HR:=Lib.hid hr;have HC:=Lib.hid hc;clear hv hx hms hs hr hc;refine zE ?_;intro u1 H;refine zG ((show Calls Tryz.prog 49 #[_,_,_] u1 (NSd true u1) from by rw [<- HS.out];exact eB HV.out HR.out HC.out u1 (HX.out.below H.O) HMS.out)) ?_
 rintro e w2 ⟨x0,y0,rfl,hb⟩;replace H:=H.b hb;refine zN ?_;clear H;intro u3 H;have h4:net.length<=4:=HV.out.1;intros
 go_loopw [1,2,11] (fun x y i wr=>∃ (j:Nat) (a b:Int) (Z:Nd),j<=net.length/\x= .int .i64 a/\y= .int .i64 b/\i= .int .i64 j/\Hid (ndN (net.take j) (Nd.z,some (r,c))=(Z,some (a,b))/\side a=true/\side b=true/\nB Z (1000*j))/\Hid (Hq w [qB (w.heap.size+1) 92 [.int .i64 Z.a,.int .i64 Z.b,.int .i64 Z.c,.int .i64 Z.d],qB w.heap.size 92 [.int .i64 0,.int .i64 0,.int .i64 0,.int .i64 0]] wr)) (fun _ _ i _=>net.length-(intOf i).toNat)
 case atStart=>exact ⟨0,r,c,Nd.z,Nat.zero_le _,rfl,rfl,rfl,⟨rfl,HR.out,HC.out,nB.z⟩,H⟩
 case round =>
 clear H;obtain ⟨j,x,y,Z,hj,rfl,rfl,rfl,hz,H⟩:=hrel;obtain ⟨hz1,sx,sy,hz2⟩:=hz.out;have H:=H.out
 by_cases hlt:j<net.length
 ·obtain ⟨l,hlj,hmem⟩:=aH hlt;have hla:=HV.out.2 l hmem;have hnd:=wF hla sx sy;obtain ⟨Z1,hZ1⟩:∃ Z1,Z1=Z.add (ndL l (x,y)):=⟨_,rfl⟩;have hzz:=rW hlj (Nd.z,some (r,c));rw [hz1] at hzz
  dsimp only at hzz
  rw [<- hZ1] at hzz;have hq:∃ x' y',dr l (x,y)=some (x',y'):=by
   cases e:dr l (x,y) with
   | none =>
    have h1:bE (net.take (j+1)) (some (r,c))=none:=by rw [<- qo _ (Nd.z,some (r,c)),hzz];exact e
    have h2:=HS.out;rw [gJ h1] at h2
    cases h2
   | some rc=>exact ⟨rc.1,rc.2,rfl⟩
  obtain ⟨x',y',hq⟩:=hq;obtain ⟨sx',sy'⟩:=uy (rc:=(x,y)) hla sx sy hq;have hz3:ndN (net.take (j+1)) (Nd.z,some (r,c))=(Z1,some (x',y')):=by rw [hzz];exact congrArg _ hq
  have HZ:Hid (ndN (net.take (j+1)) (Nd.z,some (r,c))=(Z1,some (x',y'))/\side x'=true/\side y'=true/\nB Z1 (1000*(j+1:Nat))):=⟨hz3,sx',sy',by rw [hZ1];exact hz2.add hnd (by omega)⟩
  obtain ⟨b,off,cs,Fx,rfl,hbl,hcc,_,Aw,cw,rfl,hrw⟩:=HX.out.cells hlj 2 rfl;have e0:∀ w',Below w.heap.size w w'->w'.cell? ⟨b,off+j*2,none⟩=some (.int .i64 l.1):=fun w' hb=>(hb.cell (p:=⟨b,off+j*2,none⟩) hbl).trans (hcc 0 (by omega))
  have e1:∀ w',Below w.heap.size w w'->w'.cell? ⟨b,off+j*2+1,none⟩=some (.slice Aw l.2.length cw):=fun w' hb=>(hb.cell (p:=⟨b,off+j*2+1,none⟩) hbl).trans (hcc 1 (by omega))
  have HBL:=Lib.hid hbl;have HRW:=Lib.hid hrw;have HZ1:=Lib.hid hZ1;have HZ2:=Lib.hid hz2;have SX:=Lib.hid sx;have SY:=Lib.hid sy;have HQ:=Lib.hid hq;have HLA:=Lib.hid hla;have HML:=Lib.hid (HMS.out l hmem);have j0:(0:Int)<=(j:Int):=by omega
  have j1:(j:Int)<(net.length:Int):=by omega
  clear hlj hmem hz hz1 sx sy hz2 hnd hZ1 hzz hq sx' sy' hz3 hla hcc hrw hbl;refine zN ?_;clear H;intro u21 H;have zb:=Nat.lt_of_lt_of_le HBL.out H.m;refine zXZ (tg [(w.heap.size+1),b]) ?_;clear H;intro S w22 hne H;refine zD (H.c 0) ?_;intro G;have rx:=an2 (H.row (e0 _ H.O)) (H.row (e1 _ H.O));refine yB ((show Calls Tryz.prog 102 #[_,_,_,_] w22 (fb Z1 w22) from by rw [HZ1.out];exact yr HLA.out (HZ2.out.le (by omega)) SX.out SY.out w22 (RI.below HRW.out H.O))) ?_;clear H;intro w23 H
  refine yZ ?_;clear H G;intro w24 u24 H;refine zG ((show Calls Tryz.prog 100 #[_,_,_] u24 (fun e w'=>e= .returned (.tuple #[.int .i64 x',.int .i64 y'])/\Below u24.heap.size u24 w') from by have h:=kO HLA.out (r:=x) (c:=y) u24 (RI.below HRW.out H.O) HML.out;rw [HQ.out] at h;exact h)) ?_
  rintro e w25 ⟨rfl,hb⟩;replace H:=H.b hb;clear hb;refine zC ?_;intro C;intros;go_wp2
  go_roundw
  case rel=>exact ⟨j+1,x',y',Z1,by omega,rfl,rfl,by go_num,HZ,H⟩
  case measure=>simp [intOf];omega
 ·have HZE:Hid ((ndN net (Nd.z,some (r,c))).1=Z):=by show _=_;rw [List.take_of_length_le (by omega)] at hz1;rw [hz1]
  clear hz sx sy hz2 hz1;refine zS_ ?_;clear H;intro u41 H
  exact ⟨congrArg Ending.returned (by rw [HZE.out];rfl),H.O⟩
end
end Go.Proofs.YtjciicheoghcdaaGreatDoor

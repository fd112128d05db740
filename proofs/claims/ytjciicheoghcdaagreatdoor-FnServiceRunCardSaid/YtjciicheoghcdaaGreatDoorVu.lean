/- Part of the proof: the law FnServiceRun is true for every input. -/
import Derived.Test.YtjciicheoghcdaaGreatDoorVa
import Derived.Test.YtjciicheoghcdaaGreatDoorVc
import Derived.Test.YtjciicheoghcdaaGreatDoorVj
import Derived.Test.YtjciicheoghcdaaGreatDoorVm
import Derived.Test.YtjciicheoghcdaaGreatDoorVq
import Derived.Test.YtjciicheoghcdaaGreatDoorVr
import Derived.Test.YtjciicheoghcdaaGreatDoorVt
namespace Go.Proofs.YtjciicheoghcdaaGreatDoor
open Go.RowKit Go.Proofs.Tryz
set_option linter.all false
set_option maxRecDepth 20000
set_option maxHeartbeats 16000000
section
attribute [local go_sem] af ah ae
def Bt (w:World) (e:Ending) (w':World):Prop:=∃ (C:Option Addr) (k:Nat),e= .returned (.tuple #[SMV 0 0 none 0 0 0 0 none 0 0,.slice C 0 k,.int .i64 0])/\Below w.heap.size w w'
theorem DX {net:List SL} (hok:bu net=true) (hns:gG (kS smS) net) {A:Option Addr} {cap:Nat} {F:List Nat} {x:Mx×Mx} {s:Int} (hox:okS x=true) (hsd:sdB s=true) (hfit:(bE (bh net) (some (x.1.r,x.1.c))).isSome=true) (w:World) (hl:RI (kE smE) w A net.length cap net F) {vx:Value} (hx:RS w vx x) :
  Calls prog 46 #[.slice A net.length cap,vx,.int .i64 s] w (pM (fD net (x,s)).1 (fD net (x,s)).2 w):=by
 have HNV:=Qh (eN hok);have HNL:Hid (net.length<=4):=(du hok).1;have HRR:=Qh (aA (ai hox).1).1;have HCC:=Qh (aA (ai hox).1).2;have HHX:=Qh hx;obtain⟨A1,A2,p1,p2,rfl,-⟩:=hx;have HOK:=Qh hok;have HNS:=Qh hns;have HX:=Qh hox;have HS:=Qh hsd;have HFIT:=Qh hfit;have HL:=Qh hl;clear hok hns hox hsd hfit hl;refine zE ?_;intro u1 H;refine zI (bW _ _ _ _ _ u1 (RI.below HL.out H.O) HNS.out.1 HNS.out.2) ?_;clear H;intro w2 AN cn FN u2 H;refine zW (eC HX.out u2 (RS.below HHX.out H.O)) ?_;clear H;intro w3 FX1 FX2 fxc fxd u3 H;refine zG (je _ _ _ net _ u3 (H.f 2).1 HNS.out) ?_;rintro e w4 ⟨AJ,nj,cj,FJ,rfl,hrj,hfr,hb⟩;replace H:=H.rf hb hrj hfr;rw[HOK.out];obtain rfl:=hrj.len;clear hrj hfr hb;refine zN ?_;clear H;intro u5 H;refine zG ((show Calls prog 49 #[_,_,_] u5 (NSd true u5) from by rw[<-HFIT.out];exact eB HNV.out HRR.out HCC.out u5 (H.f 0).1 dU)) ?_
 rintro e w6 ⟨y1,y2,rfl,hb⟩;replace H:=H.b hb;refine zN ?_;clear H;intro u7 H;refine zB (iR HX.out u7 (H.rs 2)) ?_;clear H;intro w8 u8 H;refine zP (cz _ HS.out u8) ?_;clear H;intro u9 H;replace H:=(H.d 0);intros
 go_loopw [2,9,15] (fun s2 s9 i wr=>∃ (j:Nat) (z:(Mx×Mx)×Int) (rr cc:Int) (PA PB C:Option Addr) (pa pb m k:Nat) (v:List Int),j<=net.length/\i= .int .i64 j/\m<=500*j/\s2= .int .i64 z.2/\s9= .slice C m k/\Hid (fD (net.take j) (x,s)=z/\bE ((bh net).take j) (some (x.1.r,x.1.c))=some (rr,cc)/\OKD z rr cc)/\Hid (Hq w [qO w.heap.size C m k v,qS w.heap.size PA pa PB pb z.1,qR (kE smE) w.heap.size AN net.length cn net FN,qB (w.heap.size+1) 82 [.int .i64 0,.int .i64 0,.slice none 0 0,.int .i64 0,.int .i64 0,.slice none 0 0],qB w.heap.size 82 [.int .i64 z.1.1.r,.int .i64 z.1.1.c,.slice PA z.1.1.v.length pa,.int .i64 z.1.2.r,.int .i64 z.1.2.c,.slice PB z.1.2.v.length pb]] wr)) (fun _ _ i _=>net.length-(intOf i).toNat)
 case atStart=>exact⟨0,(x,s),_,_,_,_,_,_,_,0,0,[],Nat.zero_le _,rfl,by omega,rfl,rfl,⟨rfl,rfl,HX.out,rfl,rfl,HS.out⟩,H⟩
 case round =>
 clear H;obtain⟨j,z,rr,cc,PA,PB,C,pa,pb,m,k,v,hj,rfl,hm,rfl,rfl,hz,H⟩:=hrel;have H:=H.out
 by_cases hlt:j<net.length
 ·obtain⟨l,hlj,hmem⟩:=aH hlt;obtain⟨hz1,hz2,hz3⟩:=hz.out;have hlb:=(du HOK.out).2 l hmem;have hjl:(bh net)[j]?=some (df l):=by rw[eL HOK.out];exact jb hlj
  have hq:∃ r' c',dr (df l) (rr,cc)=some (r',c'):=by
   cases e:dr (df l) (rr,cc) with
   | none =>
    have h1:bE ((bh net).take (j+1)) (some (x.1.r,x.1.c))=none:=by rw[eh hjl,hz2];exact e
    have h2:=HFIT.out;rw[gJ h1] at h2
    cases h2
   | some rc=>exact⟨rc.1,rc.2,rfl⟩
  obtain⟨r',c',hq⟩:=hq;obtain⟨zz,hzz⟩:∃ zz,zz=jm l z:=⟨_,rfl⟩;have HZ:Hid (fD (net.take (j+1)) (x,s)=zz/\bE ((bh net).take (j+1)) (some (x.1.r,x.1.c))=some (r',c')/\OKD zz r' c'):=⟨by rw[pF hlj,hz1,hzz],by rw[eh hjl,hz2];exact hq,by rw[hzz];exact qk hlb hz3 hq⟩
  have j0:(0:Int)<=(j:Int):=by omega
  have j1:(j:Int)<(net.length:Int):=by omega
  have h4:j<4:=by have:=HNL.out;omega
  have HLJ:=Qh hlj;have HLB:=Qh hlb;have HOKD:=Qh hz3;have HSID:=Qh hq;have HZZ:=Qh hzz;clear hlj hmem hz hz1 hz2 hz3 hlb hjl hq hzz;obtain⟨b,off,_,_,rfl,-⟩:=RI.at (H.f 2).1 HLJ.out;refine zN ?_;clear H;intro u21 H;have ezb:=(RI.blt' (H.f 2).1 (by omega)).1
  have E:=H.el;refine zXF (tgF [w.heap.size,b] 11 16 (.cells #[.int .i64 0,.int .i64 0,.slice none 0 0,.int .i64 0,.int .i64 0,.slice none 0 0] 82)) ?_;clear H;intro S w22 hne H;refine zD (H.c 4) ?_;intro G;obtain⟨b',o',cs,F',eA,_,hc',_,A2,c2,rfl,he⟩:=RI.cells (H.f 2).1 HLJ.out 2 rfl;injection eA with eA;injection eA with e1 e2;subst e1 e2;have rx:=an2 (H.row (show World.cell? _ ⟨b,off+j*2,none⟩=some (.int .i64 l.1) from hc' 0 (by omega))) (H.row (show World.cell? _ ⟨b,off+j*2+1,none⟩=some (.slice A2 l.2.length c2) from hc' 1 (by omega)))
  clear hc';intros;refine f_ (fun w23 (hb:Bw w22 w23)=>(show Calls prog 97 #[_,_,_] w23 (bo zz.1 zz.2 500 w23) from by rw[HZZ.out];exact qC HLB.out HOKD.out HSID.out w23 (RI.below he hb) ((H.b hb).rs 1))) ?_;clear H
  rintro w23 K hK H e w24 ⟨QA,qa,QB,qb,D,n,kk,v2,rfl,f1,f2,f3,hn,hb⟩;replace H:=H.so hb f1 f2 f3;have HN:=Qh hn;clear hn;refine fK ?_;clear hK K hb;refine yG ?_;clear H;intro w25 g25 hg25 H;refine yS ?_;clear H;intro w26 H;intros
  repeat (first|(refine lc' ?_;intro K hK;go_big_quiet_op;go_big_quiet_on)|refine lk' ?_)
  refine aI ?_;replace H:=H.H;clear G;refine zC ?_;intro C;intros
  go_wp2_with (at_builtin;refine zM ?_)
  clear H C;intro u28 H;replace H:=H.r 2;refine zA (OS.si (Ow.P2 (H.p 2))) ((And.intro HN.out HNL.out)) ?_;clear H;intro C' k' w28 H;replace H:=(H.r 2).pP;replace H:=(((((((H.d 2).d 2).r 4).r 4).r 4).r 3).r 4);refine zC ?_;intro C;intros;go_wp2
  go_roundw
  case rel=>exact⟨j+1,zz,r',c',QA,QB,C',qa,qb,m+n,k',_,by omega,by go_num,by have:=HN.out;omega,rfl,rfl,HZ,H⟩
  case measure=>simp[intOf];omega
 ·have hjn:j=net.length:=by omega
  have HEND:Hid (fD net (x,s)=z):=by show _=_;have h:=hz.out.1;rw[hjn,List.take_length] at h;exact h
  refine zS_ ?_;clear H;intro u61 H
  exact(by rw[HEND.out];exact⟨PA,pa,PB,pb,C,m,k,v,rfl,(qS.a (H.p 1)),(qS.b (H.p 1)),(H.o 0),H.O⟩)
theorem oh {net:List SL} (hok:bu net=true) (hns:gG (kS smS) net) {A:Option Addr} {cap:Nat} {F:List Nat} {x:Mx×Mx} {s:Int} (hox:okS x=true) (hsd:sdB s=true) (hfit:(bE (bh net) (some (x.1.r,x.1.c))).isSome=false) (w:World) (hl:RI (kE smE) w A net.length cap net F) {vx:Value} (hx:RS w vx x) :
  Calls prog 46 #[.slice A net.length cap,vx,.int .i64 s] w (Bt w):=by
 have HNV:=Qh (eN hok);have HNL:Hid (net.length<=4):=(du hok).1;have HRR:=Qh (aA (ai hox).1).1;have HCC:=Qh (aA (ai hox).1).2;have HHX:=Qh hx;obtain⟨A1,A2,p1,p2,rfl,-⟩:=hx;have HOK:=Qh hok;have HNS:=Qh hns;have HX:=Qh hox;have HS:=Qh hsd;have HFIT:=Qh hfit;have HL:=Qh hl;clear hok hns hox hsd hfit hl;refine zE ?_;intro u1 H;refine zI (bW _ _ _ _ _ u1 (RI.below HL.out H.O) HNS.out.1 HNS.out.2) ?_;clear H;intro w2 AN cn FN u2 H;refine zW (eC HX.out u2 (RS.below HHX.out H.O)) ?_;clear H;intro w3 FX1 FX2 fxc fxd u3 H;refine zG (je _ _ _ net _ u3 (H.f 2).1 HNS.out) ?_;rintro e w4 ⟨AJ,nj,cj,FJ,rfl,hrj,hfr,hb⟩;replace H:=H.rf hb hrj hfr;rw[HOK.out];obtain rfl:=hrj.len;clear hrj hfr hb;refine zN ?_;clear H;intro u5 H;refine zG ((show Calls prog 49 #[_,_,_] u5 (NSd false u5) from by rw[<-HFIT.out];exact eB HNV.out HRR.out HCC.out u5 (H.f 0).1 dU)) ?_
 rintro e w6 ⟨y1,y2,rfl,hb⟩;replace H:=H.b hb;refine zC ?_;intro C;intros
 go_wp2_with (with_reducible refine gn 82 rfl ?_)
 refine zM ?_;clear H C;intro u7 H;intros;refine Qh ?_;refine zSt ?_;clear H;intro w7 H;refine zS_ ?_;clear H;intro u8 H
 exact⟨_,_,rfl,H.O⟩
end
section
attribute [local go_sem] af ah ae
theorem dP {n:Nd} (hn:nB n 1000000) {r i c:Int} (hr:side r=true) (hi:side i=true) (hc:side c=true) (w:World):Calls prog 143 #[NV n,.int .i64 r,.int .i64 i,.int .i64 c] w (fb (n.add (cpN r i c)) w):=by
 unfold NV;obtain⟨x1,x2,x3,x4,x5,x6,x7,x8⟩:=hn;obtain⟨p1,p2⟩:=dh hr hi;obtain⟨p3,p4⟩:=dh hi hc;obtain⟨p5,p6⟩:=dh hr hc;refine zE ?_;intro u1 H;refine zS_ ?_;clear H;intro u2 H
 exact⟨congrArg Ending.returned (by unfold NV Nd.add cpN;simp[Int.add_assoc]),H.O⟩
theorem yn {n y:Nd} (hn:nB n 1000000) {a q:Mx} (ha:side a.r=true) {r c:Int} (hr:side r=true) (hc:side c=true) (hy:y=n.add (cpN a.r r c)) {A:Option Addr} {cap:Nat} {F:List Nat} (w:World) (hx:RI mxE w A 2 cap [a,q] F) :
  Calls prog 102 #[NV n,.agg #[.int .i64 1,.slice A 2 cap],.int .i64 r,.int .i64 c] w (fb y w):=by
 unfold NV;obtain⟨b,off,cs,F1,rfl,hbl,hc',_,P1,q1,rfl,hp1⟩:=hx.cells (i:=0) (x:=a) rfl 3 rfl;have HC0:Hid (w.cell? ⟨b,off,none⟩=some (.int .i64 a.r)):=by have:=hc' 0 (by omega);show _=_;simpa using this
 have HBL:=Qh hbl;clear hbl hc' hp1 hx;have HN:=Qh hn;have HA:=Qh ha;have HR:=Qh hr;have HC:=Qh hc;have HY:=Qh hy;clear hn ha hr hc hy;refine zE ?_;intro u1 H;have hab:=HBL.out;have ezb:=Nat.lt_of_lt_of_le hab H.m;refine zX (tg [w.heap.size+1,w.heap.size,b]) ?_;clear H;intro S w2 hne H;refine zD ((And.intro (H.c 1) (H.c 2))) ?_;intro G;have rx:=H.row (g:=b) (j0:=off) ((H.O.cell (p:=⟨b,off,none⟩) HBL.out).trans HC0.out);refine yB ((show Calls prog 143 #[_,_,_,_] w2 (fb y w2) from by rw[HY.out];exact dP HN.out HA.out HR.out HC.out w2)) ?_;clear H;intro w3 H
 refine yS ?_;clear H;intro w4 H;refine yN ?_;clear H G;intro u5 H;refine zS_ ?_;clear H;intro u6 H
 exact⟨rfl,H.O⟩
theorem yo {n:Nd} (hn:nB n 1000000) {r c:Int} (hr:side r=true) (hc:side c=true) {A:Option Addr} {cap:Nat} (w:World) :
  Calls prog 102 #[NV n,.agg #[.int .i64 2,.slice A 0 cap],.int .i64 r,.int .i64 c] w (fb (n.add (lkN (r*c))) w):=by
 unfold NV;obtain⟨x1,x2,x3,x4,x5,x6,x7,x8⟩:=hn;obtain⟨p5,p6⟩:=dh hr hc;refine zE ?_;intro u1 H;refine zS_ ?_;clear H;intro u2 H
 exact⟨congrArg Ending.returned (by unfold NV Nd.add lkN;simp),H.O⟩
theorem yp {n:Nd} (hn:nB n 900000) {r c:Int} (hr:side r=true) (hc:side c=true) {A:Option Addr} {cap:Nat} {ms:List Mx} (w:World) :
  Calls prog 102 #[NV n,.agg #[.int .i64 3,.slice A 3 cap],.int .i64 r,.int .i64 c] w (fb (n.add (ndL (3,ms) (r,c))) w):=by
 unfold NV;obtain⟨y1,h1⟩:∃ y,y=n.add (cpN r c c):=⟨_,rfl⟩;obtain⟨y2,h2⟩:∃ y,y=y1.add (cpN r c c):=⟨_,rfl⟩;obtain⟨y3,h3⟩:∃ y,y=y2.add (cpN r c c):=⟨_,rfl⟩;obtain⟨y4,h4⟩:∃ y,y=y3.add (cpN r c r):=⟨_,rfl⟩;obtain⟨y5,h5⟩:∃ y,y=y4.add (cpN r r c):=⟨_,rfl⟩;have b1:nB y1 900100:=h1 ▸ hn.add (nB.cp hr hc hc) (by omega)
 have b2:nB y2 900200:=h2 ▸ b1.add (nB.cp hr hc hc) (by omega)
 have b3:nB y3 900300:=h3 ▸ b2.add (nB.cp hr hc hc) (by omega)
 have b4:nB y4 900400:=h4 ▸ b3.add (nB.cp hr hc hr) (by omega)
 have b5:nB y5 900500:=h5 ▸ b4.add (nB.cp hr hr hc) (by omega)
 have B0:=Qh (hn.le (show (900000:Int)<=1000000 by omega))
 have B1:=Qh (b1.le (show (900100:Int)<=1000000 by omega))
 have B2:=Qh (b2.le (show (900200:Int)<=1000000 by omega))
 have B3:=Qh (b3.le (show (900300:Int)<=1000000 by omega))
 have B4:=Qh (b4.le (show (900400:Int)<=1000000 by omega))
 obtain⟨x1,x2,x3,x4,x5,x6,x7,x8⟩:=b5;obtain⟨p1,p2⟩:=dh hr hr;obtain⟨q1,q2⟩:=bI hr;have e2:2*r*r=2*(r*r):=Int.mul_assoc ..;have e4:4*r*r=4*(r*r):=Int.mul_assoc ..;have g2:0<=2*r*r/\2*r*r<=50:=by omega
 have g4:0<=4*r*r/\4*r*r<=100:=by omega
 have HEND:Hid (NV ⟨y5.a+r*r,y5.b,y5.c+2*r*r+r,y5.d+4*r*r+r⟩=NV (n.add (ndL (3,ms) (r,c)))):=by
  show _=_
  rw[h5,h4,h3,h2,h1,e2,e4]
  show NV _=NV (n.add ⟨r*r,5,4*(r*c)+3*(r*r)+r,10*(r*c)+3*(c*c)+6*(r*r)+r⟩)
  simp only[NV,Nd.add,cpN,Int.mul_comm c r]
  congr 2 <;> simp only[Value.int.injEq,true_and,List.cons.injEq,and_true] <;> omega
 clear e2 e4 b1 b2 b3 b4;have HY1:=Qh h1;have HY2:=Qh h2;have HY3:=Qh h3;have HY4:=Qh h4;have HY5:=Qh h5;clear h1 h2 h3 h4 h5 hn;have HR:=Qh hr;have HC:=Qh hc;clear hr hc;refine zE ?_;intro u1 H;refine zC ?_;intro C;intros;go_wp2;refine wp_loop_rounds 4 ?_;rw[rounds_succ];clear C;refine zN ?_;clear H;intro u2 H;refine zG ((show Calls prog 143 #[_,_,_,_] u2 (fb y1 u2) from by rw[HY1.out];exact dP B0.out HR.out HC.out HC.out u2)) ?_
 rintro e w3 ⟨rfl,hb⟩;replace H:=H.b hb;unfold NV;refine zC ?_;intro C;intros
 go_wp2_with fail
 rw[rounds_succ];refine zM ?_;clear H C;intro u4 H;refine zN ?_;clear H;intro u5 H;refine zG ((show Calls prog 143 #[_,_,_,_] u5 (fb y2 u5) from by rw[HY2.out];exact dP B1.out HR.out HC.out HC.out u5)) ?_
 rintro e w6 ⟨rfl,hb⟩;replace H:=H.b hb;unfold NV;refine zC ?_;intro C;intros
 go_wp2_with fail
 rw[rounds_succ];refine zM ?_;clear H C;intro u7 H;refine zN ?_;clear H;intro u8 H;refine zG ((show Calls prog 143 #[_,_,_,_] u8 (fb y3 u8) from by rw[HY3.out];exact dP B2.out HR.out HC.out HC.out u8)) ?_
 rintro e w9 ⟨rfl,hb⟩;replace H:=H.b hb;unfold NV;refine zC ?_;intro C;intros
 go_wp2_with fail
 rw[rounds_succ];refine zM ?_;clear H C;intro u10 H;refine zN ?_;clear H;intro u11 H;refine zG ((show Calls prog 143 #[_,_,_,_] u11 (fb y4 u11) from by rw[HY4.out];exact dP B3.out HR.out HC.out HR.out u11)) ?_
 rintro e w12 ⟨rfl,hb⟩;replace H:=H.b hb;unfold NV;refine zN ?_;clear H;intro u13 H;refine zG ((show Calls prog 143 #[_,_,_,_] u13 (fb y5 u13) from by rw[HY5.out];exact dP B4.out HR.out HR.out HC.out u13)) ?_
 rintro e w14 ⟨rfl,hb⟩;replace H:=H.b hb;unfold NV;refine zC ?_;intro C;intros;go_upto_region 12 with fail;refine zM ?_;clear H C;intro u15 H;refine zC ?_;intro C;intros
 go_wp2_with (with_reducible refine gn 92 rfl ?_)
 refine zM ?_;clear H C;intro u16 H;intros;refine Qh ?_;refine zSt ?_;clear H;intro w16 H;refine zS_ ?_;clear H;intro u17 H
 exact⟨congrArg Ending.returned HEND.out,H.O⟩
theorem yr {l:PL} (hb:aL l.1 l.2=true) {n:Nd} (hn:nB n 900000) {r c:Int} (hr:side r=true) (hc:side c=true) {A:Option Addr} {cap:Nat} {F:List Nat} (w:World) (hx:RI mxE w A l.2.length cap l.2 F) :
  Calls prog 102 #[NV n,.agg #[.int .i64 l.1,.slice A l.2.length cap],.int .i64 r,.int .i64 c] w (fb (n.add (ndL l (r,c))) w):=by
 obtain⟨k,ms⟩:=l;rcases eM hb with⟨h1,a,b,h2,ha,_⟩|⟨h1,h2⟩|⟨h1,a,b,t,h2,_⟩ <;> dsimp only at h1 h2 hx ⊢ <;> subst h1 h2
 ·exact yn (hn.le (by omega)) (aA ha).1 hr hc (by unfold ndL;rw[if_pos rfl];rfl) w hx
 ·have e:ndL (2,[]) (r,c)=lkN (r*c):=by unfold ndL;rw[if_neg (by decide),if_pos rfl]
  rw[e]
  exact yo (hn.le (by omega)) hr hc w
 ·exact yp hn hr hc w
theorem sz {net:List PL} (hv:tb net) {A:Option Addr} {cap:Nat} {F:List Nat} {r c:Int} (hr:side r=true) (hc:side c=true) (hs:(bE net (some (r,c))).isSome=true) (w:World) (hx:RI (kE mxE) w A net.length cap net F) (hms:∀ l,l∈net->∀ m,m∈l.2->mS m) :
  Calls prog 51 #[.slice A net.length cap,.int .i64 r,.int .i64 c] w (fb (ndN net (Nd.z,some (r,c))).1 w):=by
 have HV:=Qh hv;have HX:=Qh hx;have HMS:=Qh hms;have HS:=Qh hs;have HR:=Qh hr;have HC:=Qh hc;clear hv hx hms hs hr hc;refine zE ?_;intro u1 H;refine zG ((show Calls prog 49 #[_,_,_] u1 (NSd true u1) from by rw[<-HS.out];exact eB HV.out HR.out HC.out u1 (HX.out.below H.O) HMS.out)) ?_
 rintro e w2 ⟨x0,y0,rfl,hb⟩;replace H:=H.b hb;refine zN ?_;clear H;intro u3 H;have h4:net.length<=4:=HV.out.1;intros
 go_loopw [1,2,11] (fun x y i wr=>∃ (j:Nat) (a b:Int) (Z:Nd),j<=net.length/\x= .int .i64 a/\y= .int .i64 b/\i= .int .i64 j/\Hid (ndN (net.take j) (Nd.z,some (r,c))=(Z,some (a,b))/\side a=true/\side b=true/\nB Z (1000*j))/\Hid (Hq w [qB (w.heap.size+1) 92 [.int .i64 Z.a,.int .i64 Z.b,.int .i64 Z.c,.int .i64 Z.d],qB w.heap.size 92 [.int .i64 0,.int .i64 0,.int .i64 0,.int .i64 0]] wr)) (fun _ _ i _=>net.length-(intOf i).toNat)
 case atStart=>exact⟨0,r,c,Nd.z,Nat.zero_le _,rfl,rfl,rfl,⟨rfl,HR.out,HC.out,nB.z⟩,H⟩
 case round =>
 clear H;obtain⟨j,x,y,Z,hj,rfl,rfl,rfl,hz,H⟩:=hrel;obtain⟨hz1,sx,sy,hz2⟩:=hz.out;have H:=H.out
 by_cases hlt:j<net.length
 ·obtain⟨l,hlj,hmem⟩:=aH hlt;have hla:=HV.out.2 l hmem;have hnd:=wF hla sx sy;obtain⟨Z1,hZ1⟩:∃ Z1,Z1=Z.add (ndL l (x,y)):=⟨_,rfl⟩;have hzz:=rW hlj (Nd.z,some (r,c));rw[hz1] at hzz
  dsimp only at hzz
  rw[<-hZ1] at hzz;have hq:∃ x' y',dr l (x,y)=some (x',y'):=by
   cases e:dr l (x,y) with
   | none =>
    have h1:bE (net.take (j+1)) (some (r,c))=none:=by rw[<-qo _ (Nd.z,some (r,c)),hzz];exact e
    have h2:=HS.out;rw[gJ h1] at h2
    cases h2
   | some rc=>exact⟨rc.1,rc.2,rfl⟩
  obtain⟨x',y',hq⟩:=hq;obtain⟨sx',sy'⟩:=uy (rc:=(x,y)) hla sx sy hq;have hz3:ndN (net.take (j+1)) (Nd.z,some (r,c))=(Z1,some (x',y')):=by rw[hzz];exact congrArg _ hq
  have HZ:Hid (ndN (net.take (j+1)) (Nd.z,some (r,c))=(Z1,some (x',y'))/\side x'=true/\side y'=true/\nB Z1 (1000*(j+1:Nat))):=⟨hz3,sx',sy',by rw[hZ1];exact hz2.add hnd (by omega)⟩
  obtain⟨b,off,cs,Fx,rfl,hbl,hcc,_,Aw,cw,rfl,hrw⟩:=HX.out.cells hlj 2 rfl;have e0:∀ w',Below w.heap.size w w'->w'.cell? ⟨b,off+j*2,none⟩=some (.int .i64 l.1):=fun w' hb=>(hb.cell (p:=⟨b,off+j*2,none⟩) hbl).trans (hcc 0 (by omega))
  have e1:∀ w',Below w.heap.size w w'->w'.cell? ⟨b,off+j*2+1,none⟩=some (.slice Aw l.2.length cw):=fun w' hb=>(hb.cell (p:=⟨b,off+j*2+1,none⟩) hbl).trans (hcc 1 (by omega))
  have HBL:=Qh hbl;have HRW:=Qh hrw;have HZ1:=Qh hZ1;have HZ2:=Qh hz2;have SX:=Qh sx;have SY:=Qh sy;have HQ:=Qh hq;have HLA:=Qh hla;have HML:=Qh (HMS.out l hmem);have j0:(0:Int)<=(j:Int):=by omega
  have j1:(j:Int)<(net.length:Int):=by omega
  clear hlj hmem hz hz1 sx sy hz2 hnd hZ1 hzz hq sx' sy' hz3 hla hcc hrw hbl;refine zN ?_;clear H;intro u21 H;have zb:=Nat.lt_of_lt_of_le HBL.out H.m;refine zXZ (tg [(w.heap.size+1),b]) ?_;clear H;intro S w22 hne H;refine zD (H.c 0) ?_;intro G;have rx:=an2 (H.row (e0 _ H.O)) (H.row (e1 _ H.O));refine yB ((show Calls prog 102 #[_,_,_,_] w22 (fb Z1 w22) from by rw[HZ1.out];exact yr HLA.out (HZ2.out.le (by omega)) SX.out SY.out w22 (RI.below HRW.out H.O))) ?_;clear H;intro w23 H
  refine yZ ?_;clear H G;intro w24 u24 H;refine zG ((show Calls prog 100 #[_,_,_] u24 (fun e w'=>e= .returned (.tuple #[.int .i64 x',.int .i64 y'])/\Below u24.heap.size u24 w') from by have h:=kO HLA.out (r:=x) (c:=y) u24 (RI.below HRW.out H.O) HML.out;rw[HQ.out] at h;exact h)) ?_
  rintro e w25 ⟨rfl,hb⟩;replace H:=H.b hb;clear hb;refine zC ?_;intro C;intros;go_wp2
  go_roundw
  case rel=>exact⟨j+1,x',y',Z1,by omega,rfl,rfl,by go_num,HZ,H⟩
  case measure=>simp[intOf];omega
 ·have HZE:Hid ((ndN net (Nd.z,some (r,c))).1=Z):=by show _=_;rw[List.take_of_length_le (by omega)] at hz1;rw[hz1]
  clear hz sx sy hz2 hz1;refine zS_ ?_;clear H;intro u41 H
  exact⟨congrArg Ending.returned (by rw[HZE.out];rfl),H.O⟩
end
section
attribute [local go_sem] af ah ae
theorem ml {m:Mx} (h:mvB m=true) {x:Value} (w:World) (hx:RM w x m):Calls prog 86 #[x] w (bD m w):=by
 obtain⟨A,c,rfl,h1,_⟩:=hx;have hl:=dy h;have HX:=Qh h1;clear h h1;refine zE ?_;intro u1 H;refine zX (tg [w.heap.size]) ?_;clear H;intro S w2 hne H;refine zD (H.c 1) ?_;intro G;refine yE ?_;clear H;intro w3 H;refine yA (SI.below HX.out H.O) True.intro ?_;clear H;intro C1 k1 w4 H;refine yS ?_;clear H;intro w5 H;refine yN ?_;clear H G;intro u6 H;refine zS_ ?_;clear H;intro u7 H
 exact⟨C1,k1,rfl,(H.o 0),H.O⟩
theorem ou {net:List SL} (hok:bu net=true) {s:Int} {A:Option Addr} {cap:Nat} {F:List Nat} (w:World) (hx:RI (kE smE) w A net.length cap net F) :
  Calls prog 39 #[.agg #[.slice A net.length cap,.int .i64 s]] w (vC net s w):=by
 unfold vC;obtain⟨n,hn⟩:∃ n,n=net.length:=⟨_,rfl⟩;rw[<-hn] at hx ⊢;have h4:n<=4:=by rw[hn];exact(du hok).1
 have HN:=Qh hn;have HOK:=Qh hok;have HX:=Qh hx;clear hn hok hx;refine zE ?_;intro u1 H;replace H:=H.ye (kE smE) 99;intros
 go_loopw [4] (fun k wr=>∃ (j c':Nat) (A':Option Addr) (css:List (List Value)) (F':List Nat),j<=n/\k= .int .i64 j/\Hid (Hq w [qX (kE smE) w.heap.size 99 A' j c' css (net.take j) F',qB (w.heap.size+2) 25 [.slice A' j c',.int .i64 s],qB (w.heap.size+1) 25 [.slice none 0 0,.int .i64 0],qB w.heap.size 25 [.slice A n cap,.int .i64 s]] wr)) (fun k _=>n-(intOf k).toNat)
 case atStart=>exact⟨0,0,none,[],[],Nat.zero_le _,rfl,H⟩
 case round =>
 clear H;obtain⟨j,c',A',css,F',hj,rfl,H⟩:=hrel;have H:=H.out;have mw:=H.m
 by_cases hlt:j<n
 ·obtain⟨l,hlj,hmem⟩:=aH (xs:=net) (j:=j) (by have:=HN.out;omega)
  obtain⟨b,off,cs,Fx,rfl,hbl,hc,_,Aw,cw,rfl,hrw⟩:=HX.out.cells hlj 2 rfl;have HD0:=Qh (hc 0 (by omega))
  have HD1:=Qh (hc 1 (by omega))
  have HBL:=Qh hbl;have HLJ:=Qh hlj;have HRW:=Qh hrw;have HSL:=Qh ((du HOK.out).2 l hmem);have j0:(0:Int)<=(j:Int):=by omega
  have j1:(j:Int)<(n:Int):=by omega
  clear hc hrw hlj hmem hbl;have d0:wr.cell? ⟨b,off+j*2,none⟩=some (.int .i64 l.1):=(H.O.cell (p:=⟨b,off+j*2,none⟩) HBL.out).trans HD0.out;have zb:b<wr.heap.size:=Nat.lt_of_lt_of_le HBL.out mw;refine zN ?_;clear H;intro u21 H;replace H:=H.ye smE 82;obtain⟨gL,hgL⟩:∃ g,g=wr.heap.size:=⟨_,rfl⟩;rw[<-hgL] at H ⊢;clear hgL;clear d0 zb mw;intros
  go_loopw [6] (fun k wr=>∃ (i c2:Nat) (A2:Option Addr) (css2:List (List Value)) (F2:List Nat),i<=l.2.length/\k= .int .i64 i/\Hid (Hq w [qX smE w.heap.size 82 A2 i c2 css2 (l.2.take i) F2,qB gL 99 [.int .i64 l.1,.slice A2 i c2],qX (kE smE) w.heap.size 99 A' j c' css (net.take j) F',qB (w.heap.size+2) 25 [.slice A' j c',.int .i64 s],qB (w.heap.size+1) 25 [.slice none 0 0,.int .i64 0],qB w.heap.size 25 [.slice (some ⟨b,off,none⟩) n cap,.int .i64 s]] wr)) (fun k _=>l.2.length-(intOf k).toNat)
  case atStart=>exact⟨0,0,none,[],[],Nat.zero_le _,rfl,H⟩
  case round =>
  clear H;obtain⟨i,c2,A2,css2,F2,hi,rfl,H⟩:=hrel;have H:=H.out;have mw:=H.m;have d1:wr.cell? ⟨b,off+j*2+1,none⟩=some (.slice Aw l.2.length cw):=(H.O.cell (p:=⟨b,off+j*2+1,none⟩) HBL.out).trans HD1.out;have zb:b<wr.heap.size:=Nat.lt_of_lt_of_le HBL.out mw;have h25:l.2.length<=3:=kU HSL.out
  by_cases hli:i<l.2.length
  ·obtain⟨x,hxi,hxm⟩:=aH (xs:=l.2) (j:=i) hli;have hok:=mW HSL.out x hxm;obtain⟨b2,o2,cs2,Fy,rfl,hb2,hc2,_,Aa,ca,Ab,cb,Fa,Fb,rfl,hm1,hm2,_⟩:=HRW.out.cells hxi 6 rfl;have HM1:=Qh (ai hok).1;have HM2:=Qh (ai hok).2.1;have HR1:=Qh (RM.mk hm1.1 hm1.2.1 hm1.2.2.1);have HR2:=Qh (RM.mk hm2.1 hm2.2.1 hm2.2.2.1);have HXI:=Qh hxi;have i0:(0:Int)<=(i:Int):=by omega
   have i1:(i:Int)<(l.2.length:Int):=by omega
   have e0:wr.cell? ⟨b2,o2+i*6,none⟩=some (.int .i64 x.1.r):=(H.O.cell (p:=⟨b2,o2+i*6,none⟩) hb2).trans (hc2 0 (by omega))
   have e1:wr.cell? ⟨b2,o2+i*6+1,none⟩=some (.int .i64 x.1.c):=(H.O.cell (p:=⟨b2,o2+i*6+1,none⟩) hb2).trans (hc2 1 (by omega))
   have e2:wr.cell? ⟨b2,o2+i*6+2,none⟩=some (.slice Aa x.1.v.length ca):=(H.O.cell (p:=⟨b2,o2+i*6+2,none⟩) hb2).trans (hc2 2 (by omega))
   have e3:wr.cell? ⟨b2,o2+i*6+3,none⟩=some (.int .i64 x.2.r):=(H.O.cell (p:=⟨b2,o2+i*6+3,none⟩) hb2).trans (hc2 3 (by omega))
   have e4:wr.cell? ⟨b2,o2+i*6+4,none⟩=some (.int .i64 x.2.c):=(H.O.cell (p:=⟨b2,o2+i*6+4,none⟩) hb2).trans (hc2 4 (by omega))
   have e5:wr.cell? ⟨b2,o2+i*6+5,none⟩=some (.slice Ab x.2.v.length cb):=(H.O.cell (p:=⟨b2,o2+i*6+5,none⟩) hb2).trans (hc2 5 (by omega))
   have zb2:=Nat.lt_of_lt_of_le hb2 mw;clear hc2 hm1 hm2 hxi hxm hok;refine zN ?_;clear H;intro u41 H;refine zXZ (tg [wr.heap.size,gL]) ?_;clear H;intro S w42 hne H;refine zD ((And.intro (H.c 0) (H.c 2))) ?_;intro G;refine yO (ml HM1.out w42 (RM.below HR1.out H.O)) ?_;clear H;intro w43 P1 cP1 H;refine yO (ml HM2.out w43 (RM.below HR2.out H.O)) ?_;clear H;intro w44 Q1 cQ1 H;refine yM ?_;clear H;intro w45 H;have hP:=(H.o 2);have hQ:=(H.o 1);have hPQ:=fun g (h1:blk P1=some g) (h2:blk Q1=some g)=>H.H.noo 2 1 g h1 h2
   replace H:=(((H.r 1).r 2)).mrg;have hx:smE.P w45 [.int .i64 x.1.r,.int .i64 x.1.c,.slice P1 x.1.v.length cP1,.int .i64 x.2.r,.int .i64 x.2.c,.slice Q1 x.2.v.length cQ1] x (fpI P1 x.1.v.length++fpI Q1 x.2.v.length):=⟨P1,cP1,Q1,cQ1,_,_,rfl,MF.aB hP,MF.aB hQ,rfl⟩;have hf:=Fr.app (ek hP) (ek hQ) (fun g a b=>hPQ g (bz a).2 (bz b).2)
   have hF:∀ i,i∈fpI P1 x.1.v.length++fpI Q1 x.2.v.length->((qO w.heap.size P1 x.1.v.length cP1 x.1.v).and (qO w.heap.size Q1 x.2.v.length cQ1 x.2.v)).F i:=fun i hi=>(List.mem_append.1 hi).imp (fun h=>(bz h).2) (fun h=>(bz h).2)
   clear hP hQ hPQ;replace H:=(H.r 3);refine yX (an4 Cx hx hf hF) ?_;clear H hx hf hF;intro g1 k1 w46 H;intros;refine zCr ?_;intro C;intros
   repeat (first|(refine lc' ?_;intro K hK;go_big_quiet_op;go_big_quiet_on)|refine lk' ?_)
   refine aV rfl (by rfl) (by rfl) (fun K hK=>?_)
   unfold Oper.gives
   go_simp
   refine hK _ _ ?_;replace H:=H.H;refine aI ?_;clear C G;rw[<-aW HXI.out] at H;replace H:=((H.d 1).d 1);refine zC ?_;intro C;intros;go_wp2
   go_roundw
   case rel=>exact⟨i+1,k1,some ⟨g1,0,none⟩,_,_,by omega,by go_num,(Qh hq)⟩
   case measure=>simp[intOf];omega
  ·have HLI:Hid (i=l.2.length):=by unfold Hid;omega
   rw[List.take_of_length_le (by omega)] at H
   refine zC ?_;intro C;intros
   go_wp2_with (at_builtin;refine zM ?_)
   clear H C;intro u61 H;obtain⟨F3,hri,hf,hF⟩:=OX.rf (H.x 1);have hx:(kE smE).P u61 [.int .i64 l.1,.slice A2 i c2] l F3:=⟨A2,c2,by rw[HLI.out],HLI.out ▸ hri⟩
   replace H:=((H.r 1).r 3);refine zAx (an4 zY hx hf hF) ?_;clear H hri hx hf hF;intro g1 k1 w61 H;rw[<-aW HLJ.out] at H;replace H:=((H.d 1).d 1);refine zC ?_;intro C;intros;go_wp2
   go_roundw
   case rel=>exact⟨j+1,k1,some ⟨g1,0,none⟩,_,_,by omega,by go_num,(Qh hq)⟩
   case measure=>simp[intOf];omega
 ·obtain rfl:j=n:=by omega
  rw[List.take_of_length_le (by have:=HN.out;omega)] at H
  refine zS_ ?_;clear H;intro u81 H
  exact⟨A',c',css,F',rfl,(H.x 0),H.O⟩
end
section
attribute [local go_sem] af ah ae
theorem En (r c:Int) (v:List Int) (A B:Option Addr) (n cn m cm:Nat) (w:World) (hx0:SI w A n v) (hy0:SI w B m v) (bn:n<=281474976710656) (bm:m<=281474976710656) :
  Calls prog 144 #[MV r c A n cn,MV r c B m cm] w fun e w'=>e= .returned (.bool true)/\Below w.heap.size w w':=by
 have HX:=Qh hx0;have HY:=Qh hy0;clear hx0 hy0;refine zE ?_;intro u1 H;refine zG (Ew A B n cn m cm v v u1 (SI.below HX.out H.O) (SI.below HY.out H.O) (by omega) (by omega)) ?_
 rintro e w2 ⟨rfl,hb⟩;replace H:=H.b hb;rw[nf];clear hb;refine zR ?_;clear H;intro u3 H
 exact⟨rfl,H.O⟩
theorem Ee (w:World) (cs ds:List Value) (x:Mx×Mx) (F G:List Nat) (h:smE.P w cs x F) (h':smE.P w ds x G) (b:smS x):Calls prog 103 #[.agg cs.toArray,.agg ds.toArray] w fun e w'=>e= .returned (.bool true)/\Below w.heap.size w w':=by
 obtain⟨A,c,B,d,F1,F2,rfl,h1,h2,_⟩:=h;obtain⟨A2,c2,B2,d2,F3,F4,rfl,h3,h4,_⟩:=h';have H1:=Qh h1.1;have H2:=Qh h2.1;have H3:=Qh h3.1;have H4:=Qh h4.1;obtain⟨hs1,hs2⟩:=b;unfold mS at hs1 hs2;clear h1 h2 h3 h4
 show Calls prog 103 #[.agg #[.int .i64 x.1.r,.int .i64 x.1.c,.slice A x.1.v.length c,.int .i64 x.2.r,.int .i64 x.2.c,.slice B x.2.v.length d],.agg #[.int .i64 x.1.r,.int .i64 x.1.c,.slice A2 x.1.v.length c2,.int .i64 x.2.r,.int .i64 x.2.c,.slice B2 x.2.v.length d2]] w _
 refine zE ?_;intro u1 H;refine zB (En x.1.r x.1.c x.1.v A A2 _ c _ c2 u1 (SI.below H1.out H.O) (SI.below H3.out H.O) (by omega) (by omega)) ?_;clear H;intro w2 u2 H
 refine zB (En x.2.r x.2.c x.2.v B B2 _ d _ d2 u2 (SI.below H2.out H.O) (SI.below H4.out H.O) (by omega) (by omega)) ?_;clear H;intro w3 u3 H
 refine zR ?_;clear H;intro u4 H
 exact⟨rfl,H.O⟩
theorem Ed (A B:Option Addr) (n cap m cap':Nat) (xs:List (Int×List (Mx×Mx))) (F G:List Nat) (w:World) (hx:RI (kE smE) w A n cap xs F) (hy:RI (kE smE) w B m cap' xs G) (bs:gG (kS smS) xs) :
  Calls prog 52 #[.slice A n cap,.slice B m cap'] w fun e w'=>e= .returned (.bool true)/\Below w.heap.size w w':=by
 obtain rfl:m=n:=hy.1.symm.trans hx.1;have HLN:=Qh hx.1;have HX:=Qh hx;have HY:=Qh hy;have HS:=Qh bs.2;have bm:m<=1048576:=by rw[<-hx.1];exact bs.1
 clear hx hy bs
 go_in
 have H:=Qh (Hq.start w);go_wp2
 go_loopw [5] (fun i wr=>∃ j:Nat,j<=m/\i= .int .i64 j/\Hid (Hq w [] wr)) (fun i _=>m-(intOf i).toNat)
 case atStart=>exact⟨0,Nat.zero_le _,rfl,H⟩
 case round =>
 clear H;obtain⟨j,hj,rfl,H⟩:=hrel;have H:=H.out
 by_cases hlt:j<m
 ·obtain⟨x,hxj,hmem⟩:=aH (xs:=xs) (j:=j) (by have:=HLN.out;omega)
  have HSX:=Qh (HS.out x hmem);obtain⟨b,off,cs,F1,rfl,hbl,hc,_,hP⟩:=HX.out.cells hxj 2 rfl;obtain⟨b',off',ds,G1,rfl,hbl',hd,_,hQ⟩:=HY.out.cells hxj 2 rfl;obtain⟨Aa,ca,rfl,hra⟩:=hP;obtain⟨Ba,da,rfl,hrb⟩:=hQ;have d0:w.cell? ⟨b,off+j*2,none⟩=some (.int .i64 x.1):=hc 0 (by omega)
  have d1:w.cell? ⟨b,off+j*2+1,none⟩=some (.slice Aa x.2.length ca):=hc 1 (by omega)
  have e0:w.cell? ⟨b',off'+j*2,none⟩=some (.int .i64 x.1):=hd 0 (by omega)
  have e1:w.cell? ⟨b',off'+j*2+1,none⟩=some (.slice Ba x.2.length da):=hd 1 (by omega)
  have HRA:=Qh hra;have HRB:=Qh hrb;have i0':(0:Int)<=(j:Int):=by omega
  have i1:(j:Int)<(m:Int):=by omega
  have hn1:(x.1 != x.1)=false:=by simp
  have hn2:((x.2.length:Int) != (x.2.length:Int))=false:=by simp
  clear hc hd hxj hmem hra hrb;refine zN ?_;clear H;intro u21 H;have e_d0:=Nat.lt_of_lt_of_le hbl H.m;have e_e0:=Nat.lt_of_lt_of_le hbl' H.m;refine zX (tg [b,b']) ?_;clear H;intro S w22 hne H;have r_d0:=H.row ((H.O.cell (p:=⟨b,off+j*2,none⟩) hbl).trans d0);have r_d1:=H.row ((H.O.cell (p:=⟨b,off+j*2+1,none⟩) hbl).trans d1);have r_e0:=H.row ((H.O.cell (p:=⟨b',off'+j*2,none⟩) hbl').trans e0);have r_e1:=H.row ((H.O.cell (p:=⟨b',off'+j*2+1,none⟩) hbl').trans e1);refine yL ?_;refine yN ?_;clear H;intro u23 H;have hbx:x.2.length<=1048576:=HSX.out.1;intros
  go_loopw [6] (fun i wr=>∃ i':Nat,i'<=x.2.length/\i= .int .i64 i'/\Hid (Hq w [] wr)) (fun i _=>x.2.length-(intOf i).toNat)
  case atStart=>exact⟨0,Nat.zero_le _,rfl,H⟩
  case round =>
  clear H;obtain⟨i,hi,rfl,H⟩:=hrel;have H:=H.out;have D1:wr.cell? ⟨b,off+j*2+1,none⟩=some (.slice Aa x.2.length ca):=(H.O.cell (p:=⟨b,off+j*2+1,none⟩) hbl).trans d1;have zb:=Nat.lt_of_lt_of_le hbl H.m
  by_cases hli:i<x.2.length
  ·obtain⟨p,hpi,hpm⟩:=aH (xs:=x.2) (j:=i) hli;have HSP:=Qh (HSX.out.2 p hpm);obtain⟨g,o1,cs,Fp,rfl,hgl,hcx,_,hpp⟩:=HRA.out.cells hpi 6 rfl;obtain⟨g',o2,ds,Gp,rfl,hgl',hcy,_,hpq⟩:=HRB.out.cells hpi 6 rfl;have hPP:(∀ y:World,Below w.heap.size w y->smE.P y cs p Fp)/\(∀ y:World,Below w.heap.size w y->smE.P y ds p Gp):=⟨fun y hy=>smE.au _ _ _ _ _ hpp fun yq hq=>hy.block yq (smE.lt _ _ _ _ hpp yq hq),fun y hy=>smE.au _ _ _ _ _ hpq fun yq hq=>hy.block yq (smE.lt _ _ _ _ hpq yq hq)⟩
   obtain⟨Ap,cp,Bp,dp,Fa,Fb,rfl,_,_,_⟩:=hpp;obtain⟨Aq,cq,Bq,dq,Ga,Gb,rfl,_,_,_⟩:=hpq;have HPP:=Qh hPP;have x0:w.cell? ⟨g,o1+i*6,none⟩=some (.int .i64 p.1.r):=hcx 0 (by omega)
   have x1:w.cell? ⟨g,o1+i*6+1,none⟩=some (.int .i64 p.1.c):=hcx 1 (by omega)
   have x2:w.cell? ⟨g,o1+i*6+2,none⟩=some (.slice Ap p.1.v.length cp):=hcx 2 (by omega)
   have x3:w.cell? ⟨g,o1+i*6+3,none⟩=some (.int .i64 p.2.r):=hcx 3 (by omega)
   have x4:w.cell? ⟨g,o1+i*6+4,none⟩=some (.int .i64 p.2.c):=hcx 4 (by omega)
   have x5:w.cell? ⟨g,o1+i*6+5,none⟩=some (.slice Bp p.2.v.length dp):=hcx 5 (by omega)
   have y0:w.cell? ⟨g',o2+i*6,none⟩=some (.int .i64 p.1.r):=hcy 0 (by omega)
   have y1:w.cell? ⟨g',o2+i*6+1,none⟩=some (.int .i64 p.1.c):=hcy 1 (by omega)
   have y2:w.cell? ⟨g',o2+i*6+2,none⟩=some (.slice Aq p.1.v.length cq):=hcy 2 (by omega)
   have y3:w.cell? ⟨g',o2+i*6+3,none⟩=some (.int .i64 p.2.r):=hcy 3 (by omega)
   have y4:w.cell? ⟨g',o2+i*6+4,none⟩=some (.int .i64 p.2.c):=hcy 4 (by omega)
   have y5:w.cell? ⟨g',o2+i*6+5,none⟩=some (.slice Bq p.2.v.length dq):=hcy 5 (by omega)
   have j0':(0:Int)<=(i:Int):=by omega
   have j1:(i:Int)<(x.2.length:Int):=by omega
   clear hcx hcy hpi hpm hPP;refine zN ?_;clear H;intro u41 H;have e_d1:=Nat.lt_of_lt_of_le hbl H.m;have e_e1:=Nat.lt_of_lt_of_le hbl' H.m;have e_x0:=Nat.lt_of_lt_of_le hgl H.m;have e_y0:=Nat.lt_of_lt_of_le hgl' H.m;refine zX (tg [b,b',g,g']) ?_;clear H;intro S w42 hne H;have r_d1:=H.row ((H.O.cell (p:=⟨b,off+j*2+1,none⟩) hbl).trans d1);have r_e1:=H.row ((H.O.cell (p:=⟨b',off'+j*2+1,none⟩) hbl').trans e1);have r_x0:=H.row ((H.O.cell (p:=⟨g,o1+i*6,none⟩) hgl).trans x0);have r_x1:=H.row ((H.O.cell (p:=⟨g,o1+i*6+1,none⟩) hgl).trans x1);have r_x2:=H.row ((H.O.cell (p:=⟨g,o1+i*6+2,none⟩) hgl).trans x2);have r_x3:=H.row ((H.O.cell (p:=⟨g,o1+i*6+3,none⟩) hgl).trans x3);have r_x4:=H.row ((H.O.cell (p:=⟨g,o1+i*6+4,none⟩) hgl).trans x4);have r_x5:=H.row ((H.O.cell (p:=⟨g,o1+i*6+5,none⟩) hgl).trans x5);have r_y0:=H.row ((H.O.cell (p:=⟨g',o2+i*6,none⟩) hgl').trans y0);have r_y1:=H.row ((H.O.cell (p:=⟨g',o2+i*6+1,none⟩) hgl').trans y1);have r_y2:=H.row ((H.O.cell (p:=⟨g',o2+i*6+2,none⟩) hgl').trans y2);have r_y3:=H.row ((H.O.cell (p:=⟨g',o2+i*6+3,none⟩) hgl').trans y3);have r_y4:=H.row ((H.O.cell (p:=⟨g',o2+i*6+4,none⟩) hgl').trans y4);have r_y5:=H.row ((H.O.cell (p:=⟨g',o2+i*6+5,none⟩) hgl').trans y5);refine yB (Ee w42 [.int .i64 p.1.r,.int .i64 p.1.c,.slice Ap p.1.v.length cp,.int .i64 p.2.r,.int .i64 p.2.c,.slice Bp p.2.v.length dp] [.int .i64 p.1.r,.int .i64 p.1.c,.slice Aq p.1.v.length cq,.int .i64 p.2.r,.int .i64 p.2.c,.slice Bq p.2.v.length dq] p Fp Gp (HPP.out.1 _ H.O) (HPP.out.2 _ H.O) HSP.out) ?_;clear H;intro w43 H;intros
   repeat (first|(refine lc' ?_;intro K hK;go_big_quiet_op;go_big_quiet_on)|refine lk' ?_)
   refine aI ?_;replace H:=H.H;refine zC ?_;intro C;intros;go_wp2
   go_roundw
   case rel=>exact⟨i+1,by omega,by go_num,H⟩
   case measure=>simp[intOf];omega
  ·obtain rfl:i=x.2.length:=by omega
   have HH:=Qh H;clear H;go_wp2
   go_roundw
   case rel=>exact⟨j+1,by omega,by go_num,HH⟩
   case measure=>simp[intOf];omega
 ·obtain rfl:j=m:=by omega
  have HO:=Qh H.O;clear H;go_wp2
  go_ret
  exact⟨rfl,HO.out⟩
theorem DD (w:World) (cs ds:List Value) (x:List (Int×List (Mx×Mx))×Int) (F G:List Nat) (h:tB.P w cs x F) (h':tB.P w ds x G) (b:svS x):Calls prog 11 #[.agg cs.toArray,.agg ds.toArray] w fun e w'=>e= .returned (.bool true)/\Below w.heap.size w w':=by
 obtain⟨A,c,rfl,h1⟩:=h;obtain⟨A2,c2,rfl,h2⟩:=h';have HX:=Qh h1;have HY:=Qh h2;clear h1 h2
 show Calls prog 11 #[.agg #[.slice A x.1.length c,.int .i64 x.2],.agg #[.slice A2 x.1.length c2,.int .i64 x.2]] w _
 refine zE ?_;intro u1 H;refine zB (Ed A A2 _ c _ c2 x.1 F G u1 (HX.out.below H.O) (HY.out.below H.O) b) ?_;clear H;intro w2 u2 H;refine zR ?_;clear H;intro u3 H
 exact⟨rfl,H.O⟩
end
end Go.Proofs.YtjciicheoghcdaaGreatDoor

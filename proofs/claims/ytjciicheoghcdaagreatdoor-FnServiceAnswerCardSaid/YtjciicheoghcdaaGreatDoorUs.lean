/- Part of the proof of FnServiceAnswer. -/
import Derived.Test.YtjciicheoghcdaaGreatDoorUo
import Derived.Test.YtjciicheoghcdaaGreatDoorUp
import Derived.Test.YtjciicheoghcdaaGreatDoorUr
namespace Go.Proofs.YtjciicheoghcdaaGreatDoor
open Go.RowKit Go.Proofs.Tryz
set_option linter.all false
set_option maxRecDepth 20000
set_option maxHeartbeats 16000000
section
attribute [local go_sem] af ah ae
def Bt (w:World) (e:Ending) (w':World):Prop:=∃ (C:Option Addr) (k:Nat),e= .returned (.tuple #[SMV 0 0 none 0 0 0 0 none 0 0,.slice C 0 k,.int .i64 0])/\Below w.heap.size w w'
theorem DX {net:List SL} (hok:bu net=true) (hns:GH (kS smS) net) {A:Option Addr} {cap:Nat} {F:List Nat} {x:Mx×Mx} {s:Int} (hox:okS x=true) (hsd:sdB s=true) (hfit:(bE (bh net) (some (x.1.r,x.1.c))).isSome=true) (w:World) (hl:RI (kE smE) w A net.length cap net F) {vx:Value} (hx:RS w vx x) :
  Calls prog 46 #[.slice A net.length cap,vx,.int .i64 s] w (pM (fD net (x,s)).1 (fD net (x,s)).2 w):=by
 have HNV:=Qh (eN hok);have HNL:Hid (net.length<=4):=(du hok).1;have HRR:=Qh (aA (ai hox).1).1;have HCC:=Qh (aA (ai hox).1).2;have HHX:=Qh hx;obtain⟨A1,A2,p1,p2,rfl,-⟩:=hx;have HOK:=Qh hok;have HNS:=Qh hns;have HX:=Qh hox;have HS:=Qh hsd;have HFIT:=Qh hfit;have HL:=Qh hl;clear hok hns hox hsd hfit hl;refine zE ?_;intro u1 H;refine zI (bW _ _ _ _ _ u1 (RI.below HL.out H.O) HNS.out.1 HNS.out.2) ?_;clear H;intro w2 AN cn FN u2 H;refine zW (eC HX.out u2 (RS.below HHX.out H.O)) ?_;clear H;intro w3 FX1 FX2 fxc fxd u3 H;refine zG (je _ _ _ net _ u3 (H.f 2).1 HNS.out) ?_;rintro e w4 ⟨AJ,nj,cj,FJ,rfl,hrj,hfr,hb⟩;replace H:=H.rf hb hrj hfr;rw[HOK.out];obtain rfl:=hrj.len;clear hrj hfr hb;refine zN ?_;clear H;intro u5 H;refine zG ((show Calls prog 49 #[_,_,_] u5 (NSd true u5) from by rw[<-HFIT.out];exact eB HNV.out HRR.out HCC.out u5 (H.f 0).1 dU)) ?_
 rintro e w6 ⟨y1,y2,rfl,hb⟩;replace H:=H.b hb;refine zN ?_;clear H;intro u7 H;refine zB (iR HX.out u7 (H.rs 2)) ?_;clear H;intro w8 u8 H;refine zP (kn _ HS.out u8) ?_;clear H;intro u9 H;replace H:=(H.d 0);intros
 go_loopw [2,9,15] (fun s2 s9 i wr=>∃ (j:Nat) (z:(Mx×Mx)×Int) (rr cc:Int) (PA PB C:Option Addr) (pa pb m k:Nat) (v:List Int),j<=net.length/\i= .int .i64 j/\m<=500*j/\s2= .int .i64 z.2/\s9= .slice C m k/\Hid (fD (net.take j) (x,s)=z/\bE ((bh net).take j) (some (x.1.r,x.1.c))=some (rr,cc)/\OKD z rr cc)/\Hid (Hq w [qO w.heap.size C m k v,qS w.heap.size PA pa PB pb z.1,qR (kE smE) w.heap.size AN net.length cn net FN,qB (w.heap.size+1) 82 [.int .i64 0,.int .i64 0,.slice none 0 0,.int .i64 0,.int .i64 0,.slice none 0 0],qB w.heap.size 82 [.int .i64 z.1.1.r,.int .i64 z.1.1.c,.slice PA z.1.1.v.length pa,.int .i64 z.1.2.r,.int .i64 z.1.2.c,.slice PB z.1.2.v.length pb]] wr)) (fun _ _ i _=>net.length-(intOf i).toNat)
 case atStart=>exact⟨0,(x,s),_,_,_,_,_,_,_,0,0,[],Nat.zero_le _,rfl,by omega,rfl,rfl,⟨rfl,rfl,HX.out,rfl,rfl,HS.out⟩,H⟩
 case round =>
 clear H;obtain⟨j,z,rr,cc,PA,PB,C,pa,pb,m,k,v,hj,rfl,hm,rfl,rfl,hz,H⟩:=hrel;have H:=H.out
 by_cases hlt:j<net.length
 ·obtain⟨l,hlj,hmem⟩:=aH hlt;obtain⟨hz1,hz2,hz3⟩:=hz.out;have hlb:=(du HOK.out).2 l hmem;have hjl:(bh net)[j]?=some (df l):=by rw[eL HOK.out];exact GI hlj
  have hq:∃ r' c',dr (df l) (rr,cc)=some (r',c'):=by
   cases e:dr (df l) (rr,cc) with
   | none =>
    have h1:bE ((bh net).take (j+1)) (some (x.1.r,x.1.c))=none:=by rw[eh hjl,hz2];exact e
    have h2:=HFIT.out;rw[gJ h1] at h2
    cases h2
   | some rc=>exact⟨rc.1,rc.2,rfl⟩
  obtain⟨r',c',hq⟩:=hq;obtain⟨zz,hzz⟩:∃ zz,zz=jm l z:=⟨_,rfl⟩;have HZ:Hid (fD (net.take (j+1)) (x,s)=zz/\bE ((bh net).take (j+1)) (some (x.1.r,x.1.c))=some (r',c')/\OKD zz r' c'):=⟨by rw[pF hlj,hz1,hzz],by rw[eh hjl,hz2];exact hq,by rw[hzz];exact qk hlb hz3 hq⟩
  have j0:(0:Int)<=(j:Int):=by omega
  have j1:(j:Int)<(net.length:Int):=by omega
  have h4:j<4:=by have:=HNL.out;omega
  have HLJ:=Qh hlj;have HLB:=Qh hlb;have HOKD:=Qh hz3;have HSID:=Qh hq;have HZZ:=Qh hzz;clear hlj hmem hz hz1 hz2 hz3 hlb hjl hq hzz;obtain⟨b,off,_,_,rfl,-⟩:=RI.at (H.f 2).1 HLJ.out;refine zN ?_;clear H;intro u21 H;have ezb:=(RI.blt' (H.f 2).1 (by omega)).1
  have E:=H.el;refine zXF (tgF [w.heap.size,b] 11 16 (.cells #[.int .i64 0,.int .i64 0,.slice none 0 0,.int .i64 0,.int .i64 0,.slice none 0 0] 82)) ?_;clear H;intro S w22 hne H;refine zD (H.c 4) ?_;intro G;obtain⟨b',o',cs,F',eA,_,hc',_,A2,c2,rfl,he⟩:=RI.cells (H.f 2).1 HLJ.out 2 rfl;injection eA with eA;injection eA with e1 e2;subst e1 e2;have rx:=an2 (H.row (show World.cell? _ ⟨b,off+j*2,none⟩=some (.int .i64 l.1) from hc' 0 (by omega))) (H.row (show World.cell? _ ⟨b,off+j*2+1,none⟩=some (.slice A2 l.2.length c2) from hc' 1 (by omega)))
  clear hc';intros;refine f_ (fun w23 (hb:Bw w22 w23)=>(show Calls prog 97 #[_,_,_] w23 (bo zz.1 zz.2 500 w23) from by rw[HZZ.out];exact qC HLB.out HOKD.out HSID.out w23 (RI.below he hb) ((H.b hb).rs 1))) ?_;clear H
  rintro w23 K hK H e w24 ⟨QA,qa,QB,qb,D,n,kk,v2,rfl,f1,f2,f3,hn,hb⟩;replace H:=H.so hb f1 f2 f3;have HN:=Qh hn;clear hn;refine fK ?_;clear hK K hb;refine yG ?_;clear H;intro w25 g25 hg25 H;refine yS ?_;clear H;intro w26 H;intros
  repeat (first|(refine lc' ?_;intro K hK;go_big_quiet_op;go_big_quiet_on)|refine lk' ?_)
  refine aI ?_;replace H:=H.H;clear G;refine zC ?_;intro C;intros
  go_wp2_with (at_builtin;refine zM ?_)
  clear H C;intro u28 H;replace H:=H.r 2;refine zA (OS.si (Ow.P2 (H.p 2))) ((And.intro HN.out HNL.out)) ?_;clear H;intro C' k' w28 H;replace H:=(H.r 2).pP;replace H:=(((((((H.d 2).d 2).r 4).r 4).r 4).r 3).r 4);refine zC ?_;intro C;intros;go_wp2
  go_roundw
  case rel=>exact⟨j+1,zz,r',c',QA,QB,C',qa,qb,m+n,k',_,by omega,by go_num,by have:=HN.out;omega,rfl,rfl,HZ,H⟩
  case measure=>simp[intOf];omega
 ·have hjn:j=net.length:=by omega
  have HEND:Hid (fD net (x,s)=z):=by show _=_;have h:=hz.out.1;rw[hjn,List.take_length] at h;exact h
  refine zS_ ?_;clear H;intro u61 H
  exact(by rw[HEND.out];exact⟨PA,pa,PB,pb,C,m,k,v,rfl,(qS.a (H.p 1)),(qS.b (H.p 1)),(H.o 0),H.O⟩)
theorem GW {net:List SL} (hok:bu net=true) (hns:GH (kS smS) net) {A:Option Addr} {cap:Nat} {F:List Nat} {x:Mx×Mx} {s:Int} (hox:okS x=true) (hsd:sdB s=true) (hfit:(bE (bh net) (some (x.1.r,x.1.c))).isSome=false) (w:World) (hl:RI (kE smE) w A net.length cap net F) {vx:Value} (hx:RS w vx x) :
  Calls prog 46 #[.slice A net.length cap,vx,.int .i64 s] w (Bt w):=by
 have HNV:=Qh (eN hok);have HNL:Hid (net.length<=4):=(du hok).1;have HRR:=Qh (aA (ai hox).1).1;have HCC:=Qh (aA (ai hox).1).2;have HHX:=Qh hx;obtain⟨A1,A2,p1,p2,rfl,-⟩:=hx;have HOK:=Qh hok;have HNS:=Qh hns;have HX:=Qh hox;have HS:=Qh hsd;have HFIT:=Qh hfit;have HL:=Qh hl;clear hok hns hox hsd hfit hl;refine zE ?_;intro u1 H;refine zI (bW _ _ _ _ _ u1 (RI.below HL.out H.O) HNS.out.1 HNS.out.2) ?_;clear H;intro w2 AN cn FN u2 H;refine zW (eC HX.out u2 (RS.below HHX.out H.O)) ?_;clear H;intro w3 FX1 FX2 fxc fxd u3 H;refine zG (je _ _ _ net _ u3 (H.f 2).1 HNS.out) ?_;rintro e w4 ⟨AJ,nj,cj,FJ,rfl,hrj,hfr,hb⟩;replace H:=H.rf hb hrj hfr;rw[HOK.out];obtain rfl:=hrj.len;clear hrj hfr hb;refine zN ?_;clear H;intro u5 H;refine zG ((show Calls prog 49 #[_,_,_] u5 (NSd false u5) from by rw[<-HFIT.out];exact eB HNV.out HRR.out HCC.out u5 (H.f 0).1 dU)) ?_
 rintro e w6 ⟨y1,y2,rfl,hb⟩;replace H:=H.b hb;refine zC ?_;intro C;intros
 go_wp2_with (with_reducible refine gn 82 rfl ?_)
 refine zM ?_;clear H C;intro u7 H;intros;refine Qh ?_;refine zSt ?_;clear H;intro w7 H;refine zS_ ?_;clear H;intro u8 H
 exact⟨_,_,rfl,H.O⟩
end
section
attribute [local go_sem] af ah ae
theorem dP {n:Nd} (hn:nB n 1000000) {r i c:Int} (hr:side r=true) (hi:side i=true) (hc:side c=true) (w:World):Calls prog 143 #[NV n,.int .i64 r,.int .i64 i,.int .i64 c] w (fb (n.add (cpN r i c)) w):=by
 unfold NV;obtain⟨x1,x2,x3,x4,x5,x6,x7,x8⟩:=hn;obtain⟨p1,p2⟩:=dh hr hi;obtain⟨p3,p4⟩:=dh hi hc;obtain⟨p5,p6⟩:=dh hr hc;refine zE ?_;intro u1 H;refine zS_ ?_;clear H;intro u2 H
 exact⟨congrArg Ending.returned (by unfold NV Nd.add cpN;simp[Int.add_assoc]),H.O⟩
theorem yn {n y:Nd} (hn:nB n 1000000) {a q:Mx} (ha:side a.r=true) {r c:Int} (hr:side r=true) (hc:side c=true) (hy:y=n.add (cpN a.r r c)) {A:Option Addr} {cap:Nat} {F:List Nat} (w:World) (hx:RI mxE w A 2 cap [a,q] F) :
  Calls prog 102 #[NV n,.agg #[.int .i64 1,.slice A 2 cap],.int .i64 r,.int .i64 c] w (fb y w):=by
 unfold NV;obtain⟨b,off,cs,F1,rfl,hbl,hc',_,P1,q1,rfl,hp1⟩:=hx.cells (i:=0) (x:=a) rfl 3 rfl;have HC0:Hid (w.cell? ⟨b,off,none⟩=some (.int .i64 a.r)):=by have:=hc' 0 (by omega);show _=_;simpa using this
 have HBL:=Qh hbl;clear hbl hc' hp1 hx;have HN:=Qh hn;have HA:=Qh ha;have HR:=Qh hr;have HC:=Qh hc;have HY:=Qh hy;clear hn ha hr hc hy;refine zE ?_;intro u1 H;have hab:=HBL.out;have ezb:=Nat.lt_of_lt_of_le hab H.m;refine zX (tg [w.heap.size+1,w.heap.size,b]) ?_;clear H;intro S w2 hne H;refine zD ((And.intro (H.c 1) (H.c 2))) ?_;intro G;have rx:=H.row (g:=b) (j0:=off) ((H.O.cell (p:=⟨b,off,none⟩) HBL.out).trans HC0.out);refine yB ((show Calls prog 143 #[_,_,_,_] w2 (fb y w2) from by rw[HY.out];exact dP HN.out HA.out HR.out HC.out w2)) ?_;clear H;intro w3 H
 refine yS ?_;clear H;intro w4 H;refine yN ?_;clear H G;intro u5 H;refine zS_ ?_;clear H;intro u6 H
 exact⟨rfl,H.O⟩
theorem yo {n:Nd} (hn:nB n 1000000) {r c:Int} (hr:side r=true) (hc:side c=true) {A:Option Addr} {cap:Nat} (w:World) :
  Calls prog 102 #[NV n,.agg #[.int .i64 2,.slice A 0 cap],.int .i64 r,.int .i64 c] w (fb (n.add (lkN (r*c))) w):=by
 unfold NV;obtain⟨x1,x2,x3,x4,x5,x6,x7,x8⟩:=hn;obtain⟨p5,p6⟩:=dh hr hc;refine zE ?_;intro u1 H;refine zS_ ?_;clear H;intro u2 H
 exact⟨congrArg Ending.returned (by unfold NV Nd.add lkN;simp),H.O⟩
theorem yp {n:Nd} (hn:nB n 900000) {r c:Int} (hr:side r=true) (hc:side c=true) {A:Option Addr} {cap:Nat} {ms:List Mx} (w:World) :
  Calls prog 102 #[NV n,.agg #[.int .i64 3,.slice A 3 cap],.int .i64 r,.int .i64 c] w (fb (n.add (ndL (3,ms) (r,c))) w):=by
 unfold NV;obtain⟨y1,h1⟩:∃ y,y=n.add (cpN r c c):=⟨_,rfl⟩;obtain⟨y2,h2⟩:∃ y,y=y1.add (cpN r c c):=⟨_,rfl⟩;obtain⟨y3,h3⟩:∃ y,y=y2.add (cpN r c c):=⟨_,rfl⟩;obtain⟨y4,h4⟩:∃ y,y=y3.add (cpN r c r):=⟨_,rfl⟩;obtain⟨y5,h5⟩:∃ y,y=y4.add (cpN r r c):=⟨_,rfl⟩;have b1:nB y1 900100:=h1 ▸ hn.add (nB.cp hr hc hc) (by omega)
 have b2:nB y2 900200:=h2 ▸ b1.add (nB.cp hr hc hc) (by omega)
 have b3:nB y3 900300:=h3 ▸ b2.add (nB.cp hr hc hc) (by omega)
 have b4:nB y4 900400:=h4 ▸ b3.add (nB.cp hr hc hr) (by omega)
 have b5:nB y5 900500:=h5 ▸ b4.add (nB.cp hr hr hc) (by omega)
 have B0:=Qh (hn.le (show (900000:Int)<=1000000 by omega))
 have B1:=Qh (b1.le (show (900100:Int)<=1000000 by omega))
 have B2:=Qh (b2.le (show (900200:Int)<=1000000 by omega))
 have B3:=Qh (b3.le (show (900300:Int)<=1000000 by omega))
 have B4:=Qh (b4.le (show (900400:Int)<=1000000 by omega))
 obtain⟨x1,x2,x3,x4,x5,x6,x7,x8⟩:=b5;obtain⟨p1,p2⟩:=dh hr hr;obtain⟨q1,q2⟩:=bI hr;have e2:2*r*r=2*(r*r):=Int.mul_assoc ..;have e4:4*r*r=4*(r*r):=Int.mul_assoc ..;have g2:0<=2*r*r/\2*r*r<=50:=by omega
 have g4:0<=4*r*r/\4*r*r<=100:=by omega
 have HEND:Hid (NV ⟨y5.a+r*r,y5.b,y5.c+2*r*r+r,y5.d+4*r*r+r⟩=NV (n.add (ndL (3,ms) (r,c)))):=by
  show _=_
  rw[h5,h4,h3,h2,h1,e2,e4]
  show NV _=NV (n.add ⟨r*r,5,4*(r*c)+3*(r*r)+r,10*(r*c)+3*(c*c)+6*(r*r)+r⟩)
  simp only[NV,Nd.add,cpN,Int.mul_comm c r]
  congr 2 <;> simp only[Value.int.injEq,true_and,List.cons.injEq,and_true] <;> omega
 clear e2 e4 b1 b2 b3 b4;have HY1:=Qh h1;have HY2:=Qh h2;have HY3:=Qh h3;have HY4:=Qh h4;have HY5:=Qh h5;clear h1 h2 h3 h4 h5 hn;have HR:=Qh hr;have HC:=Qh hc;clear hr hc;refine zE ?_;intro u1 H;refine zC ?_;intro C;intros;go_wp2;refine wp_loop_rounds 4 ?_;rw[rounds_succ];clear C;refine zN ?_;clear H;intro u2 H;refine zG ((show Calls prog 143 #[_,_,_,_] u2 (fb y1 u2) from by rw[HY1.out];exact dP B0.out HR.out HC.out HC.out u2)) ?_
 rintro e w3 ⟨rfl,hb⟩;replace H:=H.b hb;unfold NV;refine zC ?_;intro C;intros
 go_wp2_with fail
 rw[rounds_succ];refine zM ?_;clear H C;intro u4 H;refine zN ?_;clear H;intro u5 H;refine zG ((show Calls prog 143 #[_,_,_,_] u5 (fb y2 u5) from by rw[HY2.out];exact dP B1.out HR.out HC.out HC.out u5)) ?_
 rintro e w6 ⟨rfl,hb⟩;replace H:=H.b hb;unfold NV;refine zC ?_;intro C;intros
 go_wp2_with fail
 rw[rounds_succ];refine zM ?_;clear H C;intro u7 H;refine zN ?_;clear H;intro u8 H;refine zG ((show Calls prog 143 #[_,_,_,_] u8 (fb y3 u8) from by rw[HY3.out];exact dP B2.out HR.out HC.out HC.out u8)) ?_
 rintro e w9 ⟨rfl,hb⟩;replace H:=H.b hb;unfold NV;refine zC ?_;intro C;intros
 go_wp2_with fail
 rw[rounds_succ];refine zM ?_;clear H C;intro u10 H;refine zN ?_;clear H;intro u11 H;refine zG ((show Calls prog 143 #[_,_,_,_] u11 (fb y4 u11) from by rw[HY4.out];exact dP B3.out HR.out HC.out HR.out u11)) ?_
 rintro e w12 ⟨rfl,hb⟩;replace H:=H.b hb;unfold NV;refine zN ?_;clear H;intro u13 H;refine zG ((show Calls prog 143 #[_,_,_,_] u13 (fb y5 u13) from by rw[HY5.out];exact dP B4.out HR.out HR.out HC.out u13)) ?_
 rintro e w14 ⟨rfl,hb⟩;replace H:=H.b hb;unfold NV;refine zC ?_;intro C;intros;go_upto_region 12 with fail;refine zM ?_;clear H C;intro u15 H;refine zC ?_;intro C;intros
 go_wp2_with (with_reducible refine gn 92 rfl ?_)
 refine zM ?_;clear H C;intro u16 H;intros;refine Qh ?_;refine zSt ?_;clear H;intro w16 H;refine zS_ ?_;clear H;intro u17 H
 exact⟨congrArg Ending.returned HEND.out,H.O⟩
theorem yr {l:PL} (hb:aL l.1 l.2=true) {n:Nd} (hn:nB n 900000) {r c:Int} (hr:side r=true) (hc:side c=true) {A:Option Addr} {cap:Nat} {F:List Nat} (w:World) (hx:RI mxE w A l.2.length cap l.2 F) :
  Calls prog 102 #[NV n,.agg #[.int .i64 l.1,.slice A l.2.length cap],.int .i64 r,.int .i64 c] w (fb (n.add (ndL l (r,c))) w):=by
 obtain⟨k,ms⟩:=l;rcases eM hb with⟨h1,a,b,h2,ha,_⟩|⟨h1,h2⟩|⟨h1,a,b,t,h2,_⟩ <;> dsimp only at h1 h2 hx ⊢ <;> subst h1 h2
 ·exact yn (hn.le (by omega)) (aA ha).1 hr hc (by unfold ndL;rw[if_pos rfl];rfl) w hx
 ·have e:ndL (2,[]) (r,c)=lkN (r*c):=by unfold ndL;rw[if_neg (by decide),if_pos rfl]
  rw[e]
  exact yo (hn.le (by omega)) hr hc w
 ·exact yp hn hr hc w
theorem sz {net:List PL} (hv:tb net) {A:Option Addr} {cap:Nat} {F:List Nat} {r c:Int} (hr:side r=true) (hc:side c=true) (hs:(bE net (some (r,c))).isSome=true) (w:World) (hx:RI (kE mxE) w A net.length cap net F) (hms:∀ l,l∈net->∀ m,m∈l.2->mS m) :
  Calls prog 51 #[.slice A net.length cap,.int .i64 r,.int .i64 c] w (fb (ndN net (Nd.z,some (r,c))).1 w):=by
 have HV:=Qh hv;have HX:=Qh hx;have HMS:=Qh hms;have HS:=Qh hs;have HR:=Qh hr;have HC:=Qh hc;clear hv hx hms hs hr hc;refine zE ?_;intro u1 H;refine zG ((show Calls prog 49 #[_,_,_] u1 (NSd true u1) from by rw[<-HS.out];exact eB HV.out HR.out HC.out u1 (HX.out.below H.O) HMS.out)) ?_
 rintro e w2 ⟨x0,y0,rfl,hb⟩;replace H:=H.b hb;refine zN ?_;clear H;intro u3 H;have h4:net.length<=4:=HV.out.1;intros
 go_loopw [1,2,11] (fun x y i wr=>∃ (j:Nat) (a b:Int) (Z:Nd),j<=net.length/\x= .int .i64 a/\y= .int .i64 b/\i= .int .i64 j/\Hid (ndN (net.take j) (Nd.z,some (r,c))=(Z,some (a,b))/\side a=true/\side b=true/\nB Z (1000*j))/\Hid (Hq w [qB (w.heap.size+1) 92 [.int .i64 Z.a,.int .i64 Z.b,.int .i64 Z.c,.int .i64 Z.d],qB w.heap.size 92 [.int .i64 0,.int .i64 0,.int .i64 0,.int .i64 0]] wr)) (fun _ _ i _=>net.length-(intOf i).toNat)
 case atStart=>exact⟨0,r,c,Nd.z,Nat.zero_le _,rfl,rfl,rfl,⟨rfl,HR.out,HC.out,nB.z⟩,H⟩
 case round =>
 clear H;obtain⟨j,x,y,Z,hj,rfl,rfl,rfl,hz,H⟩:=hrel;obtain⟨hz1,sx,sy,hz2⟩:=hz.out;have H:=H.out
 by_cases hlt:j<net.length
 ·obtain⟨l,hlj,hmem⟩:=aH hlt;have hla:=HV.out.2 l hmem;have hnd:=wF hla sx sy;obtain⟨Z1,hZ1⟩:∃ Z1,Z1=Z.add (ndL l (x,y)):=⟨_,rfl⟩;have hzz:=rW hlj (Nd.z,some (r,c));rw[hz1] at hzz
  dsimp only at hzz
  rw[<-hZ1] at hzz;have hq:∃ x' y',dr l (x,y)=some (x',y'):=by
   cases e:dr l (x,y) with
   | none =>
    have h1:bE (net.take (j+1)) (some (r,c))=none:=by rw[<-qo _ (Nd.z,some (r,c)),hzz];exact e
    have h2:=HS.out;rw[gJ h1] at h2
    cases h2
   | some rc=>exact⟨rc.1,rc.2,rfl⟩
  obtain⟨x',y',hq⟩:=hq;obtain⟨sx',sy'⟩:=uy (rc:=(x,y)) hla sx sy hq;have hz3:ndN (net.take (j+1)) (Nd.z,some (r,c))=(Z1,some (x',y')):=by rw[hzz];exact congrArg _ hq
  have HZ:Hid (ndN (net.take (j+1)) (Nd.z,some (r,c))=(Z1,some (x',y'))/\side x'=true/\side y'=true/\nB Z1 (1000*(j+1:Nat))):=⟨hz3,sx',sy',by rw[hZ1];exact hz2.add hnd (by omega)⟩
  obtain⟨b,off,cs,Fx,rfl,hbl,hcc,_,Aw,cw,rfl,hrw⟩:=HX.out.cells hlj 2 rfl;have e0:∀ w',Below w.heap.size w w'->w'.cell? ⟨b,off+j*2,none⟩=some (.int .i64 l.1):=fun w' hb=>(hb.cell (p:=⟨b,off+j*2,none⟩) hbl).trans (hcc 0 (by omega))
  have e1:∀ w',Below w.heap.size w w'->w'.cell? ⟨b,off+j*2+1,none⟩=some (.slice Aw l.2.length cw):=fun w' hb=>(hb.cell (p:=⟨b,off+j*2+1,none⟩) hbl).trans (hcc 1 (by omega))
  have HBL:=Qh hbl;have HRW:=Qh hrw;have HZ1:=Qh hZ1;have HZ2:=Qh hz2;have SX:=Qh sx;have SY:=Qh sy;have HQ:=Qh hq;have HLA:=Qh hla;have HML:=Qh (HMS.out l hmem);have j0:(0:Int)<=(j:Int):=by omega
  have j1:(j:Int)<(net.length:Int):=by omega
  clear hlj hmem hz hz1 sx sy hz2 hnd hZ1 hzz hq sx' sy' hz3 hla hcc hrw hbl;refine zN ?_;clear H;intro u21 H;have zb:=Nat.lt_of_lt_of_le HBL.out H.m;refine zXZ (tg [(w.heap.size+1),b]) ?_;clear H;intro S w22 hne H;refine zD (H.c 0) ?_;intro G;have rx:=an2 (H.row (e0 _ H.O)) (H.row (e1 _ H.O));refine yB ((show Calls prog 102 #[_,_,_,_] w22 (fb Z1 w22) from by rw[HZ1.out];exact yr HLA.out (HZ2.out.le (by omega)) SX.out SY.out w22 (RI.below HRW.out H.O))) ?_;clear H;intro w23 H
  refine yZ ?_;clear H G;intro w24 u24 H;refine zG ((show Calls prog 100 #[_,_,_] u24 (fun e w'=>e= .returned (.tuple #[.int .i64 x',.int .i64 y'])/\Below u24.heap.size u24 w') from by have h:=kO HLA.out (r:=x) (c:=y) u24 (RI.below HRW.out H.O) HML.out;rw[HQ.out] at h;exact h)) ?_
  rintro e w25 ⟨rfl,hb⟩;replace H:=H.b hb;clear hb;refine zC ?_;intro C;intros;go_wp2
  go_roundw
  case rel=>exact⟨j+1,x',y',Z1,by omega,rfl,rfl,by go_num,HZ,H⟩
  case measure=>simp[intOf];omega
 ·have HZE:Hid ((ndN net (Nd.z,some (r,c))).1=Z):=by show _=_;rw[List.take_of_length_le (by omega)] at hz1;rw[hz1]
  clear hz sx sy hz2 hz1;refine zS_ ?_;clear H;intro u41 H
  exact⟨congrArg Ending.returned (by rw[HZE.out];rfl),H.O⟩
end
section
attribute [local go_sem] af ah ae
theorem ml {m:Mx} (h:mvB m=true) {x:Value} (w:World) (hx:RM w x m):Calls prog 86 #[x] w (bD m w):=by
 obtain⟨A,c,rfl,h1,_⟩:=hx;have hl:=dy h;have HX:=Qh h1;clear h h1;refine zE ?_;intro u1 H;refine zX (tg [w.heap.size]) ?_;clear H;intro S w2 hne H;refine zD (H.c 1) ?_;intro G;refine yE ?_;clear H;intro w3 H;refine yA (SI.below HX.out H.O) True.intro ?_;clear H;intro C1 k1 w4 H;refine yS ?_;clear H;intro w5 H;refine yN ?_;clear H G;intro u6 H;refine zS_ ?_;clear H;intro u7 H
 exact⟨C1,k1,rfl,(H.o 0),H.O⟩
theorem GZ {net:List SL} (hok:bu net=true) {s:Int} {A:Option Addr} {cap:Nat} {F:List Nat} (w:World) (hx:RI (kE smE) w A net.length cap net F) :
  Calls prog 39 #[.agg #[.slice A net.length cap,.int .i64 s]] w (vC net s w):=by
 unfold vC;obtain⟨n,hn⟩:∃ n,n=net.length:=⟨_,rfl⟩;rw[<-hn] at hx ⊢;have h4:n<=4:=by rw[hn];exact(du hok).1
 have HN:=Qh hn;have HOK:=Qh hok;have HX:=Qh hx;clear hn hok hx;refine zE ?_;intro u1 H;replace H:=H.ye (kE smE) 99;intros
 go_loopw [4] (fun k wr=>∃ (j c':Nat) (A':Option Addr) (css:List (List Value)) (F':List Nat),j<=n/\k= .int .i64 j/\Hid (Hq w [qX (kE smE) w.heap.size 99 A' j c' css (net.take j) F',qB (w.heap.size+2) 25 [.slice A' j c',.int .i64 s],qB (w.heap.size+1) 25 [.slice none 0 0,.int .i64 0],qB w.heap.size 25 [.slice A n cap,.int .i64 s]] wr)) (fun k _=>n-(intOf k).toNat)
 case atStart=>exact⟨0,0,none,[],[],Nat.zero_le _,rfl,H⟩
 case round =>
 clear H;obtain⟨j,c',A',css,F',hj,rfl,H⟩:=hrel;have H:=H.out;have mw:=H.m
 by_cases hlt:j<n
 ·obtain⟨l,hlj,hmem⟩:=aH (xs:=net) (j:=j) (by have:=HN.out;omega)
  obtain⟨b,off,cs,Fx,rfl,hbl,hc,_,Aw,cw,rfl,hrw⟩:=HX.out.cells hlj 2 rfl;have HD0:=Qh (hc 0 (by omega))
  have HD1:=Qh (hc 1 (by omega))
  have HBL:=Qh hbl;have HLJ:=Qh hlj;have HRW:=Qh hrw;have HSL:=Qh ((du HOK.out).2 l hmem);have j0:(0:Int)<=(j:Int):=by omega
  have j1:(j:Int)<(n:Int):=by omega
  clear hc hrw hlj hmem hbl;have d0:wr.cell? ⟨b,off+j*2,none⟩=some (.int .i64 l.1):=(H.O.cell (p:=⟨b,off+j*2,none⟩) HBL.out).trans HD0.out;have zb:b<wr.heap.size:=Nat.lt_of_lt_of_le HBL.out mw;refine zN ?_;clear H;intro u21 H;replace H:=H.ye smE 82;obtain⟨gL,hgL⟩:∃ g,g=wr.heap.size:=⟨_,rfl⟩;rw[<-hgL] at H ⊢;clear hgL;clear d0 zb mw;intros
  go_loopw [6] (fun k wr=>∃ (i c2:Nat) (A2:Option Addr) (css2:List (List Value)) (F2:List Nat),i<=l.2.length/\k= .int .i64 i/\Hid (Hq w [qX smE w.heap.size 82 A2 i c2 css2 (l.2.take i) F2,qB gL 99 [.int .i64 l.1,.slice A2 i c2],qX (kE smE) w.heap.size 99 A' j c' css (net.take j) F',qB (w.heap.size+2) 25 [.slice A' j c',.int .i64 s],qB (w.heap.size+1) 25 [.slice none 0 0,.int .i64 0],qB w.heap.size 25 [.slice (some ⟨b,off,none⟩) n cap,.int .i64 s]] wr)) (fun k _=>l.2.length-(intOf k).toNat)
  case atStart=>exact⟨0,0,none,[],[],Nat.zero_le _,rfl,H⟩
  case round =>
  clear H;obtain⟨i,c2,A2,css2,F2,hi,rfl,H⟩:=hrel;have H:=H.out;have mw:=H.m;have d1:wr.cell? ⟨b,off+j*2+1,none⟩=some (.slice Aw l.2.length cw):=(H.O.cell (p:=⟨b,off+j*2+1,none⟩) HBL.out).trans HD1.out;have zb:b<wr.heap.size:=Nat.lt_of_lt_of_le HBL.out mw;have h25:l.2.length<=3:=kU HSL.out
  by_cases hli:i<l.2.length
  ·obtain⟨x,hxi,hxm⟩:=aH (xs:=l.2) (j:=i) hli;have hok:=mW HSL.out x hxm;obtain⟨b2,o2,cs2,Fy,rfl,hb2,hc2,_,Aa,ca,Ab,cb,Fa,Fb,rfl,hm1,hm2,_⟩:=HRW.out.cells hxi 6 rfl;have HM1:=Qh (ai hok).1;have HM2:=Qh (ai hok).2.1;have HR1:=Qh (RM.mk hm1.1 hm1.2.1 hm1.2.2.1);have HR2:=Qh (RM.mk hm2.1 hm2.2.1 hm2.2.2.1);have HXI:=Qh hxi;have i0:(0:Int)<=(i:Int):=by omega
   have i1:(i:Int)<(l.2.length:Int):=by omega
   have e0:wr.cell? ⟨b2,o2+i*6,none⟩=some (.int .i64 x.1.r):=(H.O.cell (p:=⟨b2,o2+i*6,none⟩) hb2).trans (hc2 0 (by omega))
   have e1:wr.cell? ⟨b2,o2+i*6+1,none⟩=some (.int .i64 x.1.c):=(H.O.cell (p:=⟨b2,o2+i*6+1,none⟩) hb2).trans (hc2 1 (by omega))
   have e2:wr.cell? ⟨b2,o2+i*6+2,none⟩=some (.slice Aa x.1.v.length ca):=(H.O.cell (p:=⟨b2,o2+i*6+2,none⟩) hb2).trans (hc2 2 (by omega))
   have e3:wr.cell? ⟨b2,o2+i*6+3,none⟩=some (.int .i64 x.2.r):=(H.O.cell (p:=⟨b2,o2+i*6+3,none⟩) hb2).trans (hc2 3 (by omega))
   have e4:wr.cell? ⟨b2,o2+i*6+4,none⟩=some (.int .i64 x.2.c):=(H.O.cell (p:=⟨b2,o2+i*6+4,none⟩) hb2).trans (hc2 4 (by omega))
   have e5:wr.cell? ⟨b2,o2+i*6+5,none⟩=some (.slice Ab x.2.v.length cb):=(H.O.cell (p:=⟨b2,o2+i*6+5,none⟩) hb2).trans (hc2 5 (by omega))
   have zb2:=Nat.lt_of_lt_of_le hb2 mw;clear hc2 hm1 hm2 hxi hxm hok;refine zN ?_;clear H;intro u41 H;refine zXZ (tg [wr.heap.size,gL]) ?_;clear H;intro S w42 hne H;refine zD ((And.intro (H.c 0) (H.c 2))) ?_;intro G;refine yO (ml HM1.out w42 (RM.below HR1.out H.O)) ?_;clear H;intro w43 P1 cP1 H;refine yO (ml HM2.out w43 (RM.below HR2.out H.O)) ?_;clear H;intro w44 Q1 cQ1 H;refine yM ?_;clear H;intro w45 H;have hP:=(H.o 2);have hQ:=(H.o 1);have hPQ:=fun g (h1:blk P1=some g) (h2:blk Q1=some g)=>H.H.noo 2 1 g h1 h2
   replace H:=(((H.r 1).r 2)).mrg;have hx:smE.P w45 [.int .i64 x.1.r,.int .i64 x.1.c,.slice P1 x.1.v.length cP1,.int .i64 x.2.r,.int .i64 x.2.c,.slice Q1 x.2.v.length cQ1] x (fpI P1 x.1.v.length++fpI Q1 x.2.v.length):=⟨P1,cP1,Q1,cQ1,_,_,rfl,MF.aB hP,MF.aB hQ,rfl⟩;have hf:=Fr.app (ek hP) (ek hQ) (fun g a b=>hPQ g (bz a).2 (bz b).2)
   have hF:∀ i,i∈fpI P1 x.1.v.length++fpI Q1 x.2.v.length->((qO w.heap.size P1 x.1.v.length cP1 x.1.v).and (qO w.heap.size Q1 x.2.v.length cQ1 x.2.v)).F i:=fun i hi=>(List.mem_append.1 hi).imp (fun h=>(bz h).2) (fun h=>(bz h).2)
   clear hP hQ hPQ;replace H:=(H.r 3);refine yX (an4 Cx hx hf hF) ?_;clear H hx hf hF;intro g1 k1 w46 H;intros;refine zCr ?_;intro C;intros
   repeat (first|(refine lc' ?_;intro K hK;go_big_quiet_op;go_big_quiet_on)|refine lk' ?_)
   refine aV rfl (by rfl) (by rfl) (fun K hK=>?_)
   unfold Oper.gives
   go_simp
   refine hK _ _ ?_;replace H:=H.H;refine aI ?_;clear C G;rw[<-aW HXI.out] at H;replace H:=((H.d 1).d 1);refine zC ?_;intro C;intros;go_wp2
   go_roundw
   case rel=>exact⟨i+1,k1,some ⟨g1,0,none⟩,_,_,by omega,by go_num,(Qh hq)⟩
   case measure=>simp[intOf];omega
  ·have HLI:Hid (i=l.2.length):=by unfold Hid;omega
   rw[List.take_of_length_le (by omega)] at H
   refine zC ?_;intro C;intros
   go_wp2_with (at_builtin;refine zM ?_)
   clear H C;intro u61 H;obtain⟨F3,hri,hf,hF⟩:=OX.rf (H.x 1);have hx:(kE smE).P u61 [.int .i64 l.1,.slice A2 i c2] l F3:=⟨A2,c2,by rw[HLI.out],HLI.out ▸ hri⟩
   replace H:=((H.r 1).r 3);refine zAx (an4 zY hx hf hF) ?_;clear H hri hx hf hF;intro g1 k1 w61 H;rw[<-aW HLJ.out] at H;replace H:=((H.d 1).d 1);refine zC ?_;intro C;intros;go_wp2
   go_roundw
   case rel=>exact⟨j+1,k1,some ⟨g1,0,none⟩,_,_,by omega,by go_num,(Qh hq)⟩
   case measure=>simp[intOf];omega
 ·obtain rfl:j=n:=by omega
  rw[List.take_of_length_le (by have:=HN.out;omega)] at H
  refine zS_ ?_;clear H;intro u81 H
  exact⟨A',c',css,F',rfl,(H.x 0),H.O⟩
end
section
attribute [local go_sem] af ah ae
def TyK (u w:World):Prop:=∀ g t cs,Blk u g t cs->∃ ds,Blk w g t ds
theorem TyK.refl (u:World):TyK u u:=fun g t cs h=>⟨cs,h⟩
theorem TyK.trans {u w w':World} (h:TyK u w) (k:TyK w w'):TyK u w':=fun g t cs hb=>by
 obtain⟨ds,hd⟩:=h g t cs hb
 exact k g t ds hd
theorem TyK.set (w:World) (g i:Nat) (v:Value):TyK w (w.setCell ⟨g,i,none⟩ v):=fun g' t cs hb=>by
 by_cases e:g'=g
 ·subst e
  exact⟨_,hb.dc i v⟩
 ·exact⟨cs,hb.far (p:=⟨g,i,none⟩) e v⟩
theorem Fr.ty {w w':World} {b:Nat} {F:List Nat} (h:Fr w b F) (k:TyK w w'):Fr w' b F:=⟨h.1,fun g hg=>by
 obtain⟨h1,t,cs,h2,h3⟩:=h.2 g hg;obtain⟨ds,hd⟩:=k g t cs h2
 exact⟨h1,t,ds,hd,h3⟩⟩
structure Mk (G:Nat->Prop) (u w:World):Prop where
 up:UpL G u w
 ty:TyK u w
theorem Mk.refl {G:Nat->Prop} (u:World):Mk G u u:=⟨UpL.refl,TyK.refl u⟩
theorem Mk.set {G:Nat->Prop} {u w:World} (h:Mk G u w) (g i:Nat) (v:Value) (hg:G g):Mk G u (w.setCell ⟨g,i,none⟩ v):=⟨h.up.Bc _ v fun _=>hg,h.ty.trans (TyK.set w g i v)⟩
theorem Mk.trans {G G':Nat->Prop} {u w w':World} (h:Mk G u w) (k:Mk G' w w') (hg:∀ i,G' i->G i):Mk G u w':=⟨h.up.trans k.up fun i _ e=>hg i e,h.ty.trans k.ty⟩
theorem SI.set {w:World} {b off n j:Nat} {xs:List Int} {t:TypeId} {ds:Array Value} (h:SI w (some ⟨b,off,none⟩) n xs) (hB:Blk w b t ds) (hj:j<n) (v:Int):SI (w.setCell ⟨b,off+j,none⟩ (.int .i64 v)) (some ⟨b,off,none⟩) n (xs.set j v):=by
 refine⟨by rw[List.length_set];exact h.1,fun h0=>?_⟩
 obtain⟨b',off',e,hb,hc⟩:=h.2 h0;injection e with e;injection e with e1 e2;subst e1 e2;refine⟨b,off,rfl,by simpa [World.setCell] using hb,fun i hi=>?_⟩
 have hci:=hc i hi;rw[hB.cell] at hci;have hcj:=hc j hj;rw[hB.cell] at hcj;have hl:=(Array.getElem?_eq_some_iff.1 hcj).1;rw[(hB.dc _ _).cell,Array.getElem?_setIfInBounds,List.getD_eq_getElem?_getD,List.getElem?_set]
 by_cases e:i=j
 ·subst e;rw[if_pos rfl,if_pos hl,if_pos rfl,if_pos (by rw[h.1];exact hi)]
  rfl
 ·rw[if_neg (by omega),if_neg (fun h=>e h.symm),hci,List.getD_eq_getElem?_getD]
structure Fg (wr v:World) (b:Nat) (t:TypeId) (D:Array Value) (o:Nat) (K:Int) (A:Option Addr) (n:Nat):Prop where
 bl:Blk v b t ((D.setIfInBounds o (.int .i64 K)).setIfInBounds (o+1) (.int .i64 (K+1)))
 si:SI v A n (marks (K+1+1) n)
 up:Mk (fun i=>i=b\/(0<n/\blk A=some i)) wr v
theorem Fg.of {wr v:World} {b:Nat} {t:TypeId} {D:Array Value} {o:Nat} {K:Int} {A:Option Addr} {n:Nat} (hB:Blk wr b t D) (hA:0<n->blk A≠some b) (hs:SI v A n (marks (K+1+1) n)) (h:Mk (fun i=>0<n/\blk A=some i) ((wr.setCell ⟨b,o,none⟩ (.int .i64 K)).setCell ⟨b,o+1,none⟩ (.int .i64 (K+1))) v):Fg wr v b t D o K A n:=by
 have h1:=(hB.dc o (.int .i64 K)).dc (o+1) (.int .i64 (K+1))
 exact⟨(h.up.block b h1.lt fun e=>hA e.1 e.2).trans h1,hs,(((Mk.refl wr).set b o _ (.inl rfl)).set b (o+1) _ (.inl rfl)).trans h fun i hi=> .inr hi⟩
theorem MF.far {w w':World} {A:Option Addr} {c b:Nat} {m:Mx} {F:List Nat} (h:MF w A c m F) (hb:b∉F) (hk:∀ g,g≠b->w'.heap[g]?=w.heap[g]?):MF w' A c m F:=h.au fun g hg=>hk g fun e=>hb (e ▸ hg)
theorem TyK.alloc (w:World) (o:Obj):TyK w (w.alloc o):=fun g t cs h=>⟨cs,h.alloc o⟩
end
theorem DH (rb:Nat) (w:World):Calls prog 72 #[.pointer (some ⟨rb,0,none⟩),.int .i64 0] w fun e w'=>e= .returned (.bool false)/\w=w':=by
 go_enter func72,ntmps72
 go_wp2
 go_ret
 exact⟨rfl,rfl⟩
def Rg0 (w:World) (rb P:Nat) (e:Ending) (w':World):Prop:=∃ v:Int,e= .returned (.int .i64 v)/\0<=v/\v<=4095/\Rd w' rb P/\aZ rb w w'
theorem DV (rb P:Nat) (w:World) (h:Rd w rb P) (hP:P<549755813888):Calls prog 162 #[.pointer (some ⟨rb,0,none⟩),.int .i64 0] w (Rg0 w rb (P+6)):=by
 have hrw:=h.lt
 go_enter func162,ntmps162
 go_wp2_with fail
 refine(FE rb P 256 w h (by omega)).mono ?_
 rintro e w1 ⟨v1,rfl,a1,b1,r1,o1⟩;have c1:v1<=255:=by omega
 clear b1
 go_wp2_with fail
 refine(FE rb (P+1) 256 w1 r1 (by omega)).mono ?_
 rintro e w2 ⟨v2,rfl,a2,b2,r2,o2⟩;have c2:v2<=255:=by omega
 clear b2
 go_wp2_with fail
 refine Qc (bG _ _) ?_
 go_wp2_with fail
 refine(FE rb (P+1+1) 256 w2 r2 (by omega)).mono ?_
 rintro e w3 ⟨v3,rfl,a3,b3,r3,o3⟩;have c3:v3<=255:=by omega
 have t3:=r3.lt;clear b3
 go_wp2_with fail
 refine(FE rb (P+1+1+1) 8 _ (r3.alloc _) (by omega)).mono ?_
 rintro e w4 ⟨v4,rfl,a4,b4,r4,o4⟩;have c4:v4<8:=by omega
 clear b4;obtain⟨x,hx,x0,x1⟩:=FG [v1*16,(v2-128)%4096,v3,0,4095,2048,2047,16] 0 4095 (by simp;omega) v4 a4 (by simp;omega)
 have hcx:w4.cell? ⟨w3.heap.size,v4.toNat,none⟩=some (.int .i64 x):=by
  rw[o4.cell (by simp) (by omega)]
  have:=kr w3 [v1*16,(v2-128)%4096,v3,0,4095,2048,2047,16] 3 v4.toNat;rw[hx] at this
  exact this
 have O4:=Qh ((o1.trans (o2.trans o3)).trans ((aZ.refl rb w3).alloc _ |>.trans o4));clear o1 o2 o3 o4 hx r1 r2 r3
 go_wp2_with fail
 refine Qc (DH rb w4) ?_;go_wp2
 go_ret
 exact⟨x,rfl,x0,x1,r4.mono (by omega),O4.out⟩
section
theorem DQ {q n:Int} (hn:0<n) (h0:0<=q) (h1:q<n+n):∃ d:Int,q.tdiv n=d/\0<=d/\d<2:=by
 refine⟨q/n,Int.tdiv_eq_ediv_of_nonneg h0,Int.ediv_nonneg h0 (by omega),?_⟩
 exact Int.ediv_lt_of_lt_mul hn (by omega)
theorem D_ (x y:Int) (d:Int) (h0:0<=d) (h1:d<2):∃ v:Int,[Value.int .i64 x,Value.int .i64 y][d.toNat]?=some (.int .i64 v)/\(v=x\/v=y):=by
 have hd:d=0\/d=1:=by omega
 rcases hd with rfl|rfl
 ·exact⟨x,rfl,.inl rfl⟩
 ·exact⟨y,rfl,.inr rfl⟩
def Mi (rb:Nat) (r c:Int) (w:World) (P:Nat) (W:World) (j:Nat) (A:Option Addr) (cp:Nat) (xs:List Int):Prop :=
 Blk W w.heap.size 37 #[.int .i64 0,.int .i64 0,.slice none 0 0]/\Blk W (w.heap.size+1) 37 #[.int .i64 r,.int .i64 c,.slice A j cp]/\OS W w.heap.size A j cp xs/\aZ rb w W/\Rd W rb P
section
variable {rb P P':Nat} {r c:Int} {w W W' w1:World} {j cp g cap:Nat} {A:Option Addr} {xs:List Int} {x:Int} {o:Obj}
theorem Mi.start (h:Rd w rb P):Mi rb r c w P ((w.alloc (.cells #[.int .i64 0,.int .i64 0,.slice none 0 0] 37)).alloc (.cells #[.int .i64 r,.int .i64 c,.slice none 0 0] 37)) 0 none 0 []:=by
 refine⟨(Blk.new _ _ _).alloc _,?_,OS.nil _ _,((aZ.refl rb w).alloc _).alloc _,(h.alloc _).alloc _⟩;have h:=Blk.new (w.alloc (.cells #[.int .i64 0,.int .i64 0,.slice none 0 0] 37)) 37 #[.int .i64 r,.int .i64 c,.slice none 0 0]
 simpa using h
theorem Mi.alloc (h:Mi rb r c w P W j A cp xs) (o:Obj):Mi rb r c w P (W.alloc o) j A cp xs:=⟨h.1.alloc o,h.2.1.alloc o,h.2.2.1.alloc o,h.2.2.2.1.alloc o,h.2.2.2.2.alloc o⟩
theorem Mi.drew (h:Mi rb r c w P W j A cp xs):Mi rb r c w P W.drew j A cp xs:=⟨h.1,h.2.1,h.2.2.1,h.2.2.2.1.drew,h.2.2.2.2⟩
theorem Mi.rd (h:Mi rb r c w P W j A cp xs):Rd W rb P:=h.2.2.2.2
theorem Mi.os (h:Mi rb r c w P W j A cp xs):OS W w.heap.size A j cp xs:=h.2.2.1
theorem Mi.lt (h:Mi rb r c w P W j A cp xs):w.heap.size+1<W.heap.size:=h.2.1.lt
theorem Mi.kx (h:Mi rb r c w P W j A cp xs):W.cell? ⟨w.heap.size+1,2,none⟩=some (.slice A j cp):=h.2.1.cell 2
theorem Mi.DC (h:Mi rb r c w P W j A cp xs):W.frozen? ⟨w.heap.size+1,2,none⟩=false:=h.2.1.frozen 2
theorem Mi.only (h:Mi rb r c w P W j A cp xs) (hr:rb<w.heap.size) (ho:aZ rb W W') (hr':Rd W' rb P'):Mi rb r c w P' W' j A cp xs :=
 ⟨h.1.only ho (by omega),h.2.1.only ho (by omega),h.2.2.1.only ho hr,h.2.2.2.1.trans ho,hr'⟩
def Ma (rb:Nat) (r c:Int) (w:World) (P:Nat) (W:World) (j:Nat) (A:Option Addr) (cp g cap:Nat) (xs:List Int):Prop :=
 Blk W w.heap.size 37 #[.int .i64 0,.int .i64 0,.slice none 0 0]/\Blk W (w.heap.size+1) 37 #[.int .i64 r,.int .i64 c,.slice A j cp]/\OS W w.heap.size (some ⟨g,0,none⟩) (j+1) cap xs/\aZ rb w W/\Rd W rb P
theorem Mi.app (h:Mi rb r c w P W j A cp xs) (hr:rb<w.heap.size)
  (hown:w1.ownsRow w.heap.size 3 1 (.slice (some ⟨g,0,none⟩) (j+1) cap) (j+1) (xs.map (Value.int .i64)++[.int .i64 x])) (hg:(W.alloc o).grownBy w1 (Value.slice A j cp).ownBlock)
  (hat:(Value.slice A j cp).ownBlock=some g\/g=W.heap.size+1):Ma rb r c w P w1 j A cp g cap (xs++[x]):=by
 obtain⟨h1,h2,h3,h4,h5⟩:=h;obtain⟨k1,_,k3,_⟩:=fS (wr:=W) h3 (Below.refl w.heap.size W) h4.size hown hg hat;have n1:=bf h3 h1 (by decide)
 have n2:=bf h3 h2 (by decide)
 have hne:∀ i,i<w.heap.size->some i≠blk A:=fun i hi e=>by have:=(h3.aj i e.symm).1;omega
 have hs:=h4.size;refine⟨h1.bR k3 n1,h2.bR k3 n2,k1,⟨k3.os.trans h4.os,k3.tape.trans h4.tape,k3.output.trans h4.output,Nat.le_trans h4.size k3.size,fun i hi hnr=>(k3.block i (by omega) (hne i hi)).trans (h4.block i hi hnr)⟩,h5.au fun i hi=>k3.block i (by omega) (hne i (by omega))⟩
theorem Ma.next (h:Ma rb r c w P w1 j A cp g cap xs) (hr:rb<w.heap.size):Mi rb r c w P (w1.setCell ⟨w.heap.size+1,2,none⟩ (.slice (some ⟨g,0,none⟩) (j+1) cap)) (j+1) (some ⟨g,0,none⟩) cap xs:=by
 obtain⟨h1,h2,h3,h4,h5⟩:=h
 exact⟨h1.far (p:=⟨w.heap.size+1,2,none⟩) (by dsimp only;omega) _,h2.dc 2 _,h3.dk h2 (by decide) _,h4.setCell (.inr (by dsimp only;omega)) _,h5.setCell (by dsimp only;omega) _⟩
theorem Mi.mono (h:Mi rb r c w P W j A cp xs) (hP:P<=P'):Mi rb r c w P' W j A cp xs:=⟨h.1,h.2.1,h.2.2.1,h.2.2.2.1,h.2.2.2.2.mono hP⟩
end
end
section
attribute [local go_sem ↓] Go.wp_at_zero Go.wp_at_succ
section
variable {rb P P':Nat} {r c:Int} {w W W' w1:World} {j cp g cap:Nat} {A:Option Addr} {xs:List Int} {x:Int} {o:Obj}
theorem Mi.Fw (h:Mi rb r c w P W j A cp xs) (hr:rb<w.heap.size) (x:Int):Mi rb x c w P (W.setCell ⟨w.heap.size+1,0,none⟩ (.int .i64 x)) j A cp xs:=by
 obtain⟨h1,h2,h3,h4,h5⟩:=h
 exact⟨h1.far (p:=⟨w.heap.size+1,0,none⟩) (by dsimp only;omega) _,h2.dc 0 _,h3.dk h2 (by decide) _,h4.setCell (.inr (by dsimp only;omega)) _,h5.setCell (by dsimp only;omega) _⟩
theorem Mi.Fv (h:Mi rb r c w P W j A cp xs) (hr:rb<w.heap.size) (x:Int):Mi rb r x w P (W.setCell ⟨w.heap.size+1,1,none⟩ (.int .i64 x)) j A cp xs:=by
 obtain⟨h1,h2,h3,h4,h5⟩:=h
 exact⟨h1.far (p:=⟨w.heap.size+1,1,none⟩) (by dsimp only;omega) _,h2.dc 1 _,h3.dk h2 (by decide) _,h4.setCell (.inr (by dsimp only;omega)) _,h5.setCell (by dsimp only;omega) _⟩
theorem Mi.ne1 (h:Mi rb r c w P W j (some ⟨g,0,none⟩) cp xs):¬g=w.heap.size:=fun e=>bf h.2.2.1 h.1 (by decide) (by subst e;rfl)
theorem Mi.ne2 (h:Mi rb r c w P W j (some ⟨g,0,none⟩) cp xs):¬g=w.heap.size+1:=fun e=>bf h.2.2.1 h.2.1 (by decide) (by subst e;rfl)
theorem Mi.EV (h:Mi rb r c w P W j (some ⟨g,0,none⟩) cp xs) (hr:rb<w.heap.size) (x:Int):Mi rb r c w P (W.setCell ⟨g,0,none⟩ (.int .i64 x)) j (some ⟨g,0,none⟩) cp (xs.set 0 x):=by
 have n1:=h.ne1;have n2:=h.ne2;obtain⟨h1,h2,h3,h4,h5⟩:=h;have hb:=(h3.aj g rfl).1;refine⟨h1.far (p:=⟨g,0,none⟩) (by dsimp only;omega) _,h2.far (p:=⟨g,0,none⟩) (by dsimp only;omega) _,?_,h4.setCell (.inr hb) _,h5.setCell (by dsimp only;omega) _⟩
 have h:=(World.ownsRow.stored h3 0 (.int .i64 x)).1;rw[<-List.map_set] at h
 exact h
theorem Mi.Fs (h:Mi rb r c w P W j (some ⟨g,0,none⟩) cp xs) (hj:0<j):(∃ y:Value,W.cell? ⟨g,0,none⟩=some y)/\W.frozen? ⟨g,0,none⟩=false/\g<W.heap.size:=by
 have h3:=h.2.2.1;obtain⟨b',off',e,_,hc⟩:=h3.si.2 hj;injection e with e;injection e with e1 e2;subst e1 e2
 exact⟨⟨_,hc 0 hj⟩,h3.frozen 0 g rfl,(h3.aj g rfl).2⟩
def Dm (w:World) (rb P:Nat) (e:Ending) (w':World):Prop:=∃ (r c:Int) (A:Option Addr) (cp:Nat) (v:List Int),e= .returned (.agg #[.int .i64 r,.int .i64 c,.slice A v.length cp])/\OS w' w.heap.size A v.length cp v/\v.length<=26/\Rd w' rb P/\aZ rb w w'
theorem Mi.fin {a b d:Value} (h:Mi rb r c w P W j A cp xs) (hr:rb<w.heap.size) (hj:j<=26) (hP:P<=P') :
  Dm w rb P' (.returned (.agg #[.int .i64 r,.int .i64 c,.slice A j cp])) (((W.setCell ⟨w.heap.size,0,none⟩ a).setCell ⟨w.heap.size,1,none⟩ b).setCell ⟨w.heap.size,2,none⟩ d):=by
 obtain⟨h1,h2,h3,h4,h5⟩:=h;have hl:=h3.len;subst hl
 exact⟨r,c,A,cp,xs,rfl,((h3.dk h1 (by decide) _).dk (h1.dc 0 _) (by decide) _).dk ((h1.dc 0 _).dc 1 _) (by decide) _,hj,(((h5.setCell (by dsimp only;omega) _).setCell (by dsimp only;omega) _).setCell (by dsimp only;omega) _).mono hP,
  ((h4.setCell (.inr Ql) _).setCell (.inr Ql) _).setCell (.inr Ql) _⟩
end
theorem FK (w:World) {x y v d:Int} (hv:[Value.int .i64 x,Value.int .i64 y][d.toNat]?=some (.int .i64 v)):(w.alloc (.cells #[.int .i64 x,.int .i64 y] 3)).cell? ⟨w.heap.size,d.toNat,none⟩=some (.int .i64 v) :=
 (cell_of_row _ _ _ _ _ _ (heap_alloc_new w _)).trans (by simpa using hv)
theorem Fq (x y z:Int) (d:Int) (h0:0<=d) (h1:d<3):∃ v:Int,[Value.int .i64 x,Value.int .i64 y,Value.int .i64 z][d.toNat]?=some (.int .i64 v):=by
 have hd:d=0\/d=1\/d=2:=by omega
 rcases hd with rfl|rfl|rfl
 ·exact⟨x,rfl⟩
 ·exact⟨y,rfl⟩
 ·exact⟨z,rfl⟩
theorem EP (w:World) {x y z v d:Int} (hv:[Value.int .i64 x,Value.int .i64 y,Value.int .i64 z][d.toNat]?=some (.int .i64 v)):(w.alloc (.cells #[.int .i64 x,.int .i64 y,.int .i64 z] 3)).cell? ⟨w.heap.size,d.toNat,none⟩=some (.int .i64 v) :=
 (cell_of_row _ _ _ _ _ _ (heap_alloc_new w _)).trans (by simpa using hv)
theorem Et (rb P:Nat) (r c n0:Int) (hr:1<=r/\r<=5) (hc:1<=c/\c<=5) (hn:0<=n0/\n0<=1000000) (w:World) (h:Rd w rb P) (hP:P<1000000):Calls prog 121 #[.pointer (some ⟨rb,0,none⟩),.int .i64 r,.int .i64 c,.int .i64 n0] w (Dm w rb (P+220)):=by
 obtain⟨i0',hi,hz0,hz1,hz2⟩:=info_parts eU;have hrw:=h.lt;have N0:r*c<=5*5:=Int.mul_le_mul hr.2 hc.2 (by omega) (by omega)
 have N1:0<r*c:=Int.mul_pos (by omega) (by omega)
 obtain⟨N,hN⟩:∃ N:Nat,r*c=(N:Int):=⟨(r*c).toNat,by omega⟩
 have hN1:1<=N:=by omega
 have hN2:N<=25:=by omega
 have hNl:N+1<=26:=by omega
 clear N0 N1;have hwN:IntKind.i64.wrap (r*c)=(N:Int):=by rw[hN];exact IntWalk.i64_in _ (by omega)
 have hNn:(0:Int)<(N:Int):=by omega
 have hM0:=Qh (Mi.start (r:=r) (c:=c) h);have HN:=Qh hN;obtain⟨c1,c2⟩:=hc;clear h hr hN
 go_enter func121,ntmps121
 go_wp2
 go_loopw [10] (fun v10 wr=>∃ (j:Nat) (A:Option Addr) (cp:Nat) (xs:List Int),j<=N/\v10= .int .i64 (j:Int)/\Hid (Mi rb r c w (P+8*j) wr j A cp xs)) (fun k _=>((N:Int)-intOf k).toNat)
 case atStart=>exact⟨0,none,0,[],by omega,by go_num,hM0⟩
 case round =>
  obtain⟨j,A,cp,xs,hj,rfl,hm⟩:=hrel;clear hM0
  by_cases hk:j<N
  ·have hk':(j:Int)<(N:Int):=by omega
   have MD:=Qh hm.out.drew;have hP2:P+8*j<1000200:=by omega
   have C1:Hid (∀ W:World,Rd W rb (P+8*j)->Calls prog 71 #[.pointer (some ⟨rb,0,none⟩),.int .i64 64] W (Pk W rb (P+8*j+1) 64)):=fun W h=>FE rb _ 64 W h (by omega)
   have C2:Hid (∀ (x:Int) (W:World),Calls prog 132 #[.int .i64 x] W fun e w'=>∃ y:Int,e= .returned (.int .i64 y)/\W=w'):=fun x W=>(bG x W).mono fun e w' h=>⟨_,h.1,h.2⟩
   have C3:Hid (∀ W:World,Rd W rb (P+8*j+1)->Calls prog 162 #[.pointer (some ⟨rb,0,none⟩),.int .i64 0] W (Rg0 W rb (P+8*j+1+6))):=fun W h=>DV rb _ W h (by omega)
   have C4:Hid (∀ W:World,Rd W rb (P+8*j+1+6)->Calls prog 71 #[.pointer (some ⟨rb,0,none⟩),.int .i64 4] W (Pk W rb (P+8*j+1+6+1) 4)):=fun W h=>FE rb _ 4 W h (by omega)
   have H2:Hid (j+1<=maxLen):=by unfold maxLen;show j+1<=_;omega
   have H3:Hid ((j+1)*8<=140737488355328):=by show (j+1)*8<=_;omega
   have cM:wr.cell? ⟨w.heap.size+1,2,none⟩=some (.slice A j cp):=hm.out.kx;have zM:=hm.out.lt
   go_upto_region 5 with fail
   go_region_law (first
    | (refine step_append_lies _ (by rfl) _ _ _ (by rfl) w.heap.size 3 i0' (.int .i64 0) 1 8 underlying35 hi hz0 hz1 hz2 rfl (by omega) (.slice A j cp) j _ (by rfl) (World.ownsRow.alloc MC.out.os _) ⟨wc.heap.size,0,none⟩ 1 1 [.int .i64 v] (by rfl) rfl (fun jj u h=>HN1.out jj u h) H1.out (by omega) H2.out H3.out H4.out (wc.heap.size+1) H5.out ?_;intro g cap w1 hown hgrow hat hlt1;have HA:=Qh (Mi.app MC.out hrw hown hgrow hat);clear hown hgrow hat;have kT:=HA.out.2.1.cell 2;have fT:=HA.out.2.1.frozen 2;have zT:=HA.out.2.1.lt)
    | (refine step_append_lies _ (by rfl) _ _ _ (by rfl) w.heap.size 3 i0' (.int .i64 0) 1 8 underlying35 hi hz0 hz1 hz2 rfl (by omega) (.slice A j cp) j _ (by rfl) (World.ownsRow.alloc (MC.out.alloc (.cells #[.int .i64 xx,.int .i64 yy] 3)).os _) ⟨wc.heap.size+1,0,none⟩ 1 1 [.int .i64 v] (by rfl) rfl (fun jj u h=>HN1.out jj u h) H1.out (by omega) H2.out H3.out H4.out (wc.heap.size+1+1) H5.out ?_;intro g cap w1 hown hgrow hat hlt1;have HA:=Qh (Mi.app (MC.out.alloc (.cells #[.int .i64 xx,.int .i64 yy] 3)) hrw hown hgrow (hat.imp id fun e=>e.trans (by rw[World.size_alloc])));clear hown hgrow hat;have kT:=HA.out.2.1.cell 2;have fT:=HA.out.2.1.frozen 2;have zT:=HA.out.2.1.lt)
    | (go_simp;go_at_call 71;(with_reducible refine(C1.out _ MD.out.rd).mono ?_);rintro e wa ⟨a,rfl,a0,a1,r',o'⟩;have a2:a<=63:=(by omega);have MA:=Qh (MD.out.only hrw o' r');have cA:=MA.out.kx;have fA:=MA.out.DC;have zA:=MA.out.lt;clear a1 r' o')
    | (go_simp;go_at_call 132;refine(C2.out _ _).mono ?_;rintro e w' ⟨xx,rfl,rfl⟩)
    | (go_simp;go_at_call 162;(with_reducible refine(C3.out _ MA.out.rd).mono ?_);rintro e wb ⟨yy,rfl,y0,y1,r',o'⟩;have MB:=Qh (MA.out.only hrw o' r');have cB:=MB.out.kx;have fB:=MB.out.DC;have zB:=MB.out.lt;clear y0 y1 r' o')
    | (go_simp;go_at_call 71;(with_reducible refine(C4.out _ (MB.out.alloc _).rd).mono ?_);rintro e wc ⟨q,rfl,q0,q1,r',o'⟩;have q2:q<6:=(by omega);clear q1;obtain⟨d,hd,d0,d1⟩:=DQ (q:=q) (n:=3) (by omega) q0 q2;have hwd:=IntWalk.i64_in d (by omega);obtain⟨v,hv,hvv⟩:=D_ xx yy d d0 d1;have MC:=Qh ((MB.out.alloc (.cells #[.int .i64 xx,.int .i64 yy] 3)).only hrw o' r');have cC:=MC.out.kx;have fC:=MC.out.DC;have zC:=MC.out.lt;have zb:wb.heap.size<wc.heap.size:=(by have:=o'.size;simp at this;omega);have cX:wc.cell? ⟨wb.heap.size,d.toNat,none⟩=some (.int .i64 v):=(o'.cell (by simp) (by omega)).trans (FK wb hv);have HN1:=Qh (cell_one_new wc (.int .i64 v) 3);have H1:Hid (∀ u∈[Value.int .i64 v],u.oneCell'=true):=(by intro u hu;simp at hu;subst hu;rfl);have H4:Hid (w.heap.size<=(wc.alloc (.cells #[.int .i64 v] 3)).heap.size):=(by show w.heap.size<=_;simp;omega);have H5:Hid ((wc.alloc (.cells #[.int .i64 v] 3)).heap.size=wc.heap.size+1):=(by show _=_;simp);have cL:(wc.alloc (.cells #[.int .i64 v] 3)).cell? ⟨w.heap.size+1,2,none⟩=some (.slice A j cp):=(MC.out.alloc (.cells #[.int .i64 v] 3)).kx;clear hvv r' o' hv)
    | (go_simp;go_at_call 71;(with_reducible refine(C4.out _ MB.out.rd).mono ?_);rintro e wc ⟨q,rfl,q0,q1,r',o'⟩;have q2:q<6:=(by omega);clear q1;obtain⟨d,hd,d0,d1⟩:=DQ (q:=q) (n:=3) (by omega) q0 q2;have hwd:=IntWalk.i64_in d (by omega);obtain⟨v,hv,hvv⟩:=D_ xx yy d d0 d1;have MC:=Qh (MB.out.only hrw o' r');have cC:=MC.out.kx;have fC:=MC.out.DC;have zC:=MC.out.lt;have cX:(wc.alloc (.cells #[.int .i64 xx,.int .i64 yy] 3)).cell? ⟨wc.heap.size,d.toNat,none⟩=some (.int .i64 v):=FK wc hv;have hv2:=hv;obtain⟨_,hve⟩:=List.getElem?_eq_some_iff.1 hv2;have HN1:Hid (∀ jj u,[Value.int .i64 v][jj]?=some u->((wc.alloc (.cells #[.int .i64 xx,.int .i64 yy] 3)).alloc (.cells #[.int .i64 v] 3)).cell? ((⟨wc.heap.size+1,0,none⟩:Addr).add jj)=some u):=(by have h:=cell_one_new (wc.alloc (.cells #[.int .i64 xx,.int .i64 yy] 3)) (.int .i64 v) 3;rw[World.size_alloc] at h;exact h);have H1:Hid (∀ u∈[Value.int .i64 v],u.oneCell'=true):=(by intro u hu;simp at hu;subst hu;rfl);have H4:Hid (w.heap.size<=((wc.alloc (.cells #[.int .i64 xx,.int .i64 yy] 3)).alloc (.cells #[.int .i64 v] 3)).heap.size):=(by show w.heap.size<=_;simp;omega);have H5:Hid (((wc.alloc (.cells #[.int .i64 xx,.int .i64 yy] 3)).alloc (.cells #[.int .i64 v] 3)).heap.size=(wc.heap.size+1)+1):=(by show _=_;simp);have cL0:(wc.alloc (.cells #[.int .i64 xx,.int .i64 yy] 3)).cell? ⟨w.heap.size+1,2,none⟩=some (.slice A j cp):=(MC.out.alloc (.cells #[.int .i64 xx,.int .i64 yy] 3)).kx;have cL:((wc.alloc (.cells #[.int .i64 xx,.int .i64 yy] 3)).alloc (.cells #[.int .i64 v] 3)).cell? ⟨w.heap.size+1,2,none⟩=some (.slice A j cp):=((MC.out.alloc (.cells #[.int .i64 xx,.int .i64 yy] 3)).alloc (.cells #[.int .i64 v] 3)).kx;clear hvv r' o'))
   all_goals
    go_wp2
    go_roundw
    case rel=>exact⟨j+1,some ⟨g,0,none⟩,cap,xs++[v],by omega,by go_num,Qh ((Ma.next HA.out hrw).mono (by omega))⟩
    case measure=>simp[intOf];omega
  ·obtain rfl:j=N:=by omega
   go_wp2_with fail
   refine(EG rb (P+8*j) n0 hn wr hm.out.rd (by omega)).mono ?_
   rintro e w4 ⟨od,rfl,r',o'⟩;have M4:=Qh (hm.out.only hrw o' r');clear r' o' hm
   cases od
   ·have za1:w.heap.size<w4.heap.size:=by have:=M4.out.lt;omega
    have za2:w.heap.size+1<w4.heap.size:=M4.out.lt;have ca00:w4.cell? ⟨w.heap.size,0,none⟩=some (.int .i64 0):=M4.out.1.cell 0;have fa00:w4.frozen? ⟨w.heap.size,0,none⟩=false:=M4.out.1.frozen 0;have ca01:w4.cell? ⟨w.heap.size,1,none⟩=some (.int .i64 0):=M4.out.1.cell 1;have fa01:w4.frozen? ⟨w.heap.size,1,none⟩=false:=M4.out.1.frozen 1;have ca02:w4.cell? ⟨w.heap.size,2,none⟩=some (.slice none 0 0):=M4.out.1.cell 2;have fa02:w4.frozen? ⟨w.heap.size,2,none⟩=false:=M4.out.1.frozen 2;have ca10:w4.cell? ⟨w.heap.size+1,0,none⟩=some (.int .i64 r):=M4.out.2.1.cell 0;have fa10:w4.frozen? ⟨w.heap.size+1,0,none⟩=false:=M4.out.2.1.frozen 0;have ca11:w4.cell? ⟨w.heap.size+1,1,none⟩=some (.int .i64 c):=M4.out.2.1.cell 1;have fa11:w4.frozen? ⟨w.heap.size+1,1,none⟩=false:=M4.out.2.1.frozen 1;have ca12:w4.cell? ⟨w.heap.size+1,2,none⟩=some (.slice A j cp):=M4.out.2.1.cell 2;have fa12:w4.frozen? ⟨w.heap.size+1,2,none⟩=false:=M4.out.2.1.frozen 2;go_wp2
    exact bodyPost_ret (v:= .agg #[.int .i64 r,.int .i64 c,.slice A j cp]) (by simp[results,results121,go_sem,za1,za2,ca00,fa00,ca01,fa01,ca02,fa02,ca10,fa10,ca11,fa11,ca12,fa12,(by omega:¬w.heap.size=w.heap.size+1),(by omega:¬w.heap.size+1=w.heap.size)]) rfl (Mi.fin (M4.out) hrw (by omega) (by omega))
   ·go_wp2_with fail
    refine(FE rb (P+8*j+1) 4 w4 M4.out.rd (by omega)).mono ?_
    rintro e w5 ⟨v,rfl,v0,v1,r',o'⟩;have M5:=Qh (M4.out.only hrw o' r');clear r' o' M4;have hv:v=0\/v=1\/v=2\/v=3:=by omega
    clear v0 v1;rcases hv with rfl|rfl|rfl|rfl
    ·go_wp2_with fail
     refine(FE rb (P+8*j+1+1) 3 _ (M5.out.alloc _).rd (by omega)).mono ?_
     rintro e w6 ⟨q,rfl,q0,q1,r',o'⟩;have q2:q<3:=by omega
     obtain⟨x,hx⟩:=Fq 0 6 (-1) q q0 q2;have z5:=M5.out.lt;have cX:w6.cell? ⟨w5.heap.size,q.toNat,none⟩=some (.int .i64 x):=(o'.cell (by simp) (by omega)).trans (EP w5 hx)
     have zX:w5.heap.size<w6.heap.size:=by have:=o'.size;simp at this;omega
     have M6:=Qh ((M5.out.alloc (.cells #[.int .i64 0,.int .i64 6,.int .i64 (-1)] 3)).only hrw o' r');clear r' o' q1 hx M5;have za1:w.heap.size<w6.heap.size:=by have:=M6.out.lt;omega
     have za2:w.heap.size+1<w6.heap.size:=M6.out.lt;have ca00:w6.cell? ⟨w.heap.size,0,none⟩=some (.int .i64 0):=M6.out.1.cell 0;have fa00:w6.frozen? ⟨w.heap.size,0,none⟩=false:=M6.out.1.frozen 0;have ca01:w6.cell? ⟨w.heap.size,1,none⟩=some (.int .i64 0):=M6.out.1.cell 1;have fa01:w6.frozen? ⟨w.heap.size,1,none⟩=false:=M6.out.1.frozen 1;have ca02:w6.cell? ⟨w.heap.size,2,none⟩=some (.slice none 0 0):=M6.out.1.cell 2;have fa02:w6.frozen? ⟨w.heap.size,2,none⟩=false:=M6.out.1.frozen 2;have ca10:w6.cell? ⟨w.heap.size+1,0,none⟩=some (.int .i64 r):=M6.out.2.1.cell 0;have fa10:w6.frozen? ⟨w.heap.size+1,0,none⟩=false:=M6.out.2.1.frozen 0;have ca11:w6.cell? ⟨w.heap.size+1,1,none⟩=some (.int .i64 c):=M6.out.2.1.cell 1;have fa11:w6.frozen? ⟨w.heap.size+1,1,none⟩=false:=M6.out.2.1.frozen 1;have ca12:w6.cell? ⟨w.heap.size+1,2,none⟩=some (.slice A j cp):=M6.out.2.1.cell 2;have fa12:w6.frozen? ⟨w.heap.size+1,2,none⟩=false:=M6.out.2.1.frozen 2;go_wp2
     exact bodyPost_ret (v:= .agg #[.int .i64 x,.int .i64 c,.slice A j cp]) (by simp[results,results121,go_sem,za1,za2,ca00,fa00,ca01,fa01,ca02,fa02,ca10,fa10,ca11,fa11,ca12,fa12,cX,zX,q0,q2,(by omega:¬w.heap.size=w.heap.size+1),(by omega:¬w.heap.size+1=w.heap.size)]) rfl (Mi.fin (M6.out.Fw hrw x) hrw (by omega) (by omega))
    ·have za1:w.heap.size<w5.heap.size:=by have:=M5.out.lt;omega
     have za2:w.heap.size+1<w5.heap.size:=M5.out.lt;have ca00:w5.cell? ⟨w.heap.size,0,none⟩=some (.int .i64 0):=M5.out.1.cell 0;have fa00:w5.frozen? ⟨w.heap.size,0,none⟩=false:=M5.out.1.frozen 0;have ca01:w5.cell? ⟨w.heap.size,1,none⟩=some (.int .i64 0):=M5.out.1.cell 1;have fa01:w5.frozen? ⟨w.heap.size,1,none⟩=false:=M5.out.1.frozen 1;have ca02:w5.cell? ⟨w.heap.size,2,none⟩=some (.slice none 0 0):=M5.out.1.cell 2;have fa02:w5.frozen? ⟨w.heap.size,2,none⟩=false:=M5.out.1.frozen 2;have ca10:w5.cell? ⟨w.heap.size+1,0,none⟩=some (.int .i64 r):=M5.out.2.1.cell 0;have fa10:w5.frozen? ⟨w.heap.size+1,0,none⟩=false:=M5.out.2.1.frozen 0;have ca11:w5.cell? ⟨w.heap.size+1,1,none⟩=some (.int .i64 c):=M5.out.2.1.cell 1;have fa11:w5.frozen? ⟨w.heap.size+1,1,none⟩=false:=M5.out.2.1.frozen 1;have ca12:w5.cell? ⟨w.heap.size+1,2,none⟩=some (.slice A j cp):=M5.out.2.1.cell 2;have fa12:w5.frozen? ⟨w.heap.size+1,2,none⟩=false:=M5.out.2.1.frozen 2;have qc:=IntWalk.i64_in (c+1) (by omega)
     go_wp2
     exact bodyPost_ret (v:= .agg #[.int .i64 r,.int .i64 (c+1),.slice A j cp]) (by simp[results,results121,go_sem,za1,za2,ca00,fa00,ca01,fa01,ca02,fa02,ca10,fa10,ca11,fa11,ca12,fa12,qc,(by omega:¬w.heap.size=w.heap.size+1),(by omega:¬w.heap.size+1=w.heap.size)]) rfl (Mi.fin (M5.out.Fv hrw (c+1)) hrw (by omega) (by omega))
    ·have c52:=M5.out.kx;have z5:=M5.out.lt
     go_wp2_with (at_builtin;refine wpList_append_lies _ rfl _ _ 35 rfl w.heap.size 3 i0' (.int .i64 0) 1 8 underlying35 hi hz0 hz1 hz2 rfl (by decide) (.slice A j cp) j _ rfl (World.ownsRow.alloc M5.out.os _) ⟨w5.heap.size,0,none⟩ 1 1 [.int .i64 1] rfl rfl ?c1 ?c2 ?c3 ?c4 ?c5 ?c6 (w5.heap.size+1) ?c7 ?_)
     case c1=>exact cell_one_new _ _ _
     case c2=>intro u hu;simp at hu;subst hu;rfl
     case c3=>omega
     case c4=>unfold maxLen;omega
     case c5=>omega
     case c6=>simp;omega
     case c7=>simp
     intro g cap w6 hown hgrow hat hlt;have HA:=Qh (Mi.app M5.out hrw hown hgrow hat);clear hown hgrow hat c52;have za1:w.heap.size<w6.heap.size:=HA.out.1.lt;have za2:w.heap.size+1<w6.heap.size:=HA.out.2.1.lt;have ca00:w6.cell? ⟨w.heap.size,0,none⟩=some (.int .i64 0):=HA.out.1.cell 0;have fa00:w6.frozen? ⟨w.heap.size,0,none⟩=false:=HA.out.1.frozen 0;have ca01:w6.cell? ⟨w.heap.size,1,none⟩=some (.int .i64 0):=HA.out.1.cell 1;have fa01:w6.frozen? ⟨w.heap.size,1,none⟩=false:=HA.out.1.frozen 1;have ca02:w6.cell? ⟨w.heap.size,2,none⟩=some (.slice none 0 0):=HA.out.1.cell 2;have fa02:w6.frozen? ⟨w.heap.size,2,none⟩=false:=HA.out.1.frozen 2;have ca10:w6.cell? ⟨w.heap.size+1,0,none⟩=some (.int .i64 r):=HA.out.2.1.cell 0;have fa10:w6.frozen? ⟨w.heap.size+1,0,none⟩=false:=HA.out.2.1.frozen 0;have ca11:w6.cell? ⟨w.heap.size+1,1,none⟩=some (.int .i64 c):=HA.out.2.1.cell 1;have fa11:w6.frozen? ⟨w.heap.size+1,1,none⟩=false:=HA.out.2.1.frozen 1;have ca12:w6.cell? ⟨w.heap.size+1,2,none⟩=some (.slice A j cp):=HA.out.2.1.cell 2;have fa12:w6.frozen? ⟨w.heap.size+1,2,none⟩=false:=HA.out.2.1.frozen 2;go_wp2
     exact bodyPost_ret (v:= .agg #[.int .i64 r,.int .i64 c,.slice (some ⟨g,0,none⟩) (j+1) cap]) (by simp[results,results121,go_sem,za1,za2,ca00,fa00,ca01,fa01,ca02,fa02,ca10,fa10,ca11,fa11,ca12,fa12,(by omega:¬w.heap.size=w.heap.size+1),(by omega:¬w.heap.size+1=w.heap.size)]) rfl (Mi.fin (HA.out.next hrw) hrw (by omega) (by omega))
    ·obtain⟨g,rfl,_,_⟩:=M5.out.os.pos (by omega)
     have M5D:=Qh M5.out.drew;have c52:w5.cell? ⟨w.heap.size+1,2,none⟩=some (.slice (some ⟨g,0,none⟩) j cp):=M5.out.kx;have z5:=M5.out.lt;have C5:Hid (∀ W:World,Rd W rb (P+8*j+1+1)->Calls prog 71 #[.pointer (some ⟨rb,0,none⟩),.int .i64 2] W (Pk W rb (P+8*j+1+1+1) 2)):=fun W h=>FE rb _ 2 W h (by omega)
     go_upto_region 8 with fail
     go_region_with (first
      | (go_at_call 71;(with_reducible refine(C5.out _ (M5.out.alloc _).drew.rd).mono ?_);rintro e w6 ⟨q,rfl,q0,q1,r',o'⟩;have q2:q<2:=(by omega);clear q1;obtain⟨x,hx,hxx⟩:=D_ (-1) 4096 q q0 q2;have M6:=Qh ((M5.out.alloc (.cells #[.int .i64 (-1),.int .i64 4096] 3)).drew.only hrw o' r');have c62:w6.cell? ⟨w.heap.size+1,2,none⟩=some (.slice (some ⟨g,0,none⟩) j cp):=M6.out.kx;have z6:=M6.out.lt;obtain⟨⟨y,cy⟩,fy,zy⟩:=M6.out.Fs hN1;have zb:w5.heap.size<w6.heap.size:=(by have:=o'.size;simp at this;omega);have cX:w6.cell? ⟨w5.heap.size,q.toNat,none⟩=some (.int .i64 x):=(o'.cell (by simp) (by simp;omega)).trans (FK w5 hx);clear hxx r' o')
      | (go_at_call 71;(with_reducible refine(C5.out _ M5D.out.rd).mono ?_);rintro e w6 ⟨q,rfl,q0,q1,r',o'⟩;have q2:q<2:=(by omega);clear q1;obtain⟨x,hx,hxx⟩:=D_ (-1) 4096 q q0 q2;have M6:=Qh (M5D.out.only hrw o' r');have c62:w6.cell? ⟨w.heap.size+1,2,none⟩=some (.slice (some ⟨g,0,none⟩) j cp):=M6.out.kx;have z6:=M6.out.lt;obtain⟨⟨y,cy⟩,fy,zy⟩:=M6.out.Fs hN1;have cX:=FK w6 hx;have hx2:=hx;obtain⟨_,hxe⟩:=List.getElem?_eq_some_iff.1 hx2;clear hxx r' o')
      | fail)
     all_goals
      first
      | (obtain⟨W8,hW⟩:∃ u,u=(w6.setCell ⟨g,0,none⟩ (.int .i64 x)).alloc (.cells #[.int .i64 (-1),.int .i64 4096] 3):=⟨_,rfl⟩;rw[<-hW];have M8:=Qh ((M6.out.EV hrw x).alloc (.cells #[.int .i64 (-1),.int .i64 4096] 3));rw[<-hW] at M8)
      | (obtain⟨W8,hW⟩:∃ u,u=(w6.setCell ⟨g,0,none⟩ (.int .i64 x)):=⟨_,rfl⟩;rw[<-hW];have M8:=Qh ((M6.out.EV hrw x));rw[<-hW] at M8)
      clear hW M6 c62 cy fy zy cX c52 z5 z6;have za1:w.heap.size<W8.heap.size:=by have:=M8.out.lt;omega
      have za2:w.heap.size+1<W8.heap.size:=M8.out.lt;have ca00:W8.cell? ⟨w.heap.size,0,none⟩=some (.int .i64 0):=M8.out.1.cell 0;have fa00:W8.frozen? ⟨w.heap.size,0,none⟩=false:=M8.out.1.frozen 0;have ca01:W8.cell? ⟨w.heap.size,1,none⟩=some (.int .i64 0):=M8.out.1.cell 1;have fa01:W8.frozen? ⟨w.heap.size,1,none⟩=false:=M8.out.1.frozen 1;have ca02:W8.cell? ⟨w.heap.size,2,none⟩=some (.slice none 0 0):=M8.out.1.cell 2;have fa02:W8.frozen? ⟨w.heap.size,2,none⟩=false:=M8.out.1.frozen 2;have ca10:W8.cell? ⟨w.heap.size+1,0,none⟩=some (.int .i64 r):=M8.out.2.1.cell 0;have fa10:W8.frozen? ⟨w.heap.size+1,0,none⟩=false:=M8.out.2.1.frozen 0;have ca11:W8.cell? ⟨w.heap.size+1,1,none⟩=some (.int .i64 c):=M8.out.2.1.cell 1;have fa11:W8.frozen? ⟨w.heap.size+1,1,none⟩=false:=M8.out.2.1.frozen 1;have ca12:W8.cell? ⟨w.heap.size+1,2,none⟩=some (.slice (some ⟨g,0,none⟩) j cp):=M8.out.2.1.cell 2;have fa12:W8.frozen? ⟨w.heap.size+1,2,none⟩=false:=M8.out.2.1.frozen 2;go_wp2
      exact bodyPost_ret (v:= .agg #[.int .i64 r,.int .i64 c,.slice (some ⟨g,0,none⟩) j cp]) (by simp[results,results121,go_sem,za1,za2,ca00,fa00,ca01,fa01,ca02,fa02,ca10,fa10,ca11,fa11,ca12,fa12,(by omega:¬w.heap.size=w.heap.size+1),(by omega:¬w.heap.size+1=w.heap.size)]) rfl (Mi.fin (M8.out) hrw (by omega) (by omega))
end
end Go.Proofs.YtjciicheoghcdaaGreatDoor

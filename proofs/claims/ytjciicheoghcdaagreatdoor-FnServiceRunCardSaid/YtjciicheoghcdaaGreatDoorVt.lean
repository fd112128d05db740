/- Part of the proof: the law FnServiceRun is true for every input. -/
import Derived.Test.YtjciicheoghcdaaGreatDoorVk
import Derived.Test.YtjciicheoghcdaaGreatDoorVl
import Derived.Test.YtjciicheoghcdaaGreatDoorVm
import Derived.Test.YtjciicheoghcdaaGreatDoorVp
import Derived.Test.YtjciicheoghcdaaGreatDoorVq
import Derived.Test.YtjciicheoghcdaaGreatDoorVs
namespace Go.Proofs.YtjciicheoghcdaaGreatDoor
open Go.RowKit Go.Proofs.Tryz
set_option linter.all false
set_option maxRecDepth 20000
set_option maxHeartbeats 16000000
section
attribute [local go_sem] af ah ae
theorem wY {m:Mx} (h:mvB m=true) {cs:Int} (hc:side cs=true) {x:Value} (w:World) (hx:RM w x m):Calls prog 226 #[x,.int .i64 cs] w (bD (jA m cs) w):=by
 obtain⟨l1,s1,s2,_⟩:=cZ h;obtain⟨rr,hrr,r11,r12⟩:=toN (bI s1);obtain⟨yq,hq,q11,q12⟩:=toN (bI s2);obtain⟨cc,rfl,c11,c12⟩:=toN (bI hc);have h25:=dy h;have hlv:rr<=m.v.length:=by
  have e:m.v.length=rr*yq:=by rw[hrr,hq] at l1;exact_mod_cast l1
  rw[e];exact Nat.le_mul_of_pos_right _ (by omega)
 obtain⟨f,hf⟩:∃ f:Nat->Int,f=xw m (cc:Int):=⟨_,rfl⟩;have HF:Hid (∀ r k,r<rr->k<cc->f (r*cc+k)=m.v.getD r 0):=fun r k _ hk=>by rw[hf];unfold xw;rw[show ((cc:Int)).toNat=cc from rfl];rw[Nat.mul_comm,Nat.mul_add_div (by omega),Nat.div_eq_of_lt hk,Nat.add_zero]
 have HJJ:Hid (∀ r k,r<rr->k<cc->r*cc+k<25):=fun r k hr hk=>by
  have h1:(r+1)*cc<=5*5:=Nat.mul_le_mul (by omega) c12
  rw[Nat.succ_mul] at h1
  omega
 have HW:Hid (jA m (cc:Int)=⟨(rr:Int),(cc:Int),fl f (rr*cc)⟩):=by show _=_;unfold jA;rw[hf,hrr];rfl
 obtain⟨A0,p,rfl,h1,_⟩:=hx;obtain⟨b,off,rfl,hb,hc'⟩:=h1.2 (by omega)
 have HC:=Qh hc';have HBL:=Qh hb;have HLV:=Qh hlv;unfold MV;rw[hrr];clear l1 s1 s2 hrr hq q11 q12 h25 hlv hf h1 hb hc' h hc;refine zE ?_;intro u1 H;replace H:=H.nil;intros
 go_loopw [6] (fun i wr=>∃ (r J c:Nat) (A:Option Addr),r<=rr/\i= .int .i64 r/\J=r*cc/\Hid (Hq w [qO w.heap.size A J c (fl f J),qB (w.heap.size+2) 37 [.int .i64 (rr:Int),.int .i64 (cc:Int),.slice A J c],qB (w.heap.size+1) 37 [.int .i64 0,.int .i64 0,.slice none 0 0],qB w.heap.size 37 [.int .i64 (rr:Int),.int .i64 m.c,.slice (some ⟨b,off,none⟩) m.v.length p]] wr)) (fun i _=>rr-(intOf i).toNat)
 case atStart=>exact⟨0,0,0,none,Nat.zero_le _,rfl,by omega,H⟩
 case round =>
 clear H;obtain⟨r,J,c,A,hr,rfl,hJ,H⟩:=hrel;have H:=H.out;have HJ:=Qh hJ;clear hJ
 by_cases hlt:r<rr
 ·have j0:(r:Int)<(rr:Int):=by omega
  have HR:=Qh hlt;refine zN ?_;clear H;intro u H;intros
  go_loopw [7] (fun i wr=>∃ (k J c:Nat) (A:Option Addr),k<=cc/\i= .int .i64 k/\J=r*cc+k/\Hid (Hq w [qO w.heap.size A J c (fl f J),qB (w.heap.size+2) 37 [.int .i64 (rr:Int),.int .i64 (cc:Int),.slice A J c],qB (w.heap.size+1) 37 [.int .i64 0,.int .i64 0,.slice none 0 0],qB w.heap.size 37 [.int .i64 (rr:Int),.int .i64 m.c,.slice (some ⟨b,off,none⟩) m.v.length p]] wr)) (fun i _=>cc-(intOf i).toNat)
  case atStart=>exact⟨0,J,c,A,Nat.zero_le _,rfl,HJ.out,H⟩
  case round =>
  clear H HJ;obtain⟨k,J,c,A,hk,rfl,hJ,H⟩:=hrel;have H:=H.out;have HJ:=Qh hJ;clear hJ
  by_cases hkc:k<cc
  ·have k0:(k:Int)<(cc:Int):=by omega
   have r0:(0:Int)<=(r:Int):=by omega
   have r1:(r:Int)<(m.v.length:Int):=by have:=HLV.out;omega
   have hj:J<25:=by rw[HJ.out];exact HJJ.out r k hlt hkc
   obtain⟨x,hx⟩:∃ x,x=m.v.getD r 0:=⟨_,rfl⟩;have HX:=Qh (show w.cell? ⟨b,off+r,none⟩=some (.int .i64 x) from by rw[hx];exact HC.out r (by have:=HLV.out;omega))
   have HE:Hid (fl f (J+1)=fl f J++[x]):=by show _=_;rw[dd,show f J=x from by rw[HJ.out,HF.out r k hlt hkc,hx]]
   clear hx;refine zN ?_;clear H;intro u31 H;have zb:=Nat.lt_of_lt_of_le HBL.out H.m;refine zXZ (tg [(w.heap.size+2),w.heap.size,b]) ?_;clear H;intro S w32 hne H;refine zD ((And.intro (H.c 1) (H.c 3))) ?_;intro G;have rx:=H.row (show World.cell? _ ⟨b,off+r,none⟩=some (.int .i64 x) from(H.O.cell (p:=⟨b,off+r,none⟩) HBL.out).trans HX.out)
   have hAb:blk A≠some b:=fun e=>by have h:=(OS.aj (H.o 0) _ e).1;have h2:=HBL.out;omega
   refine yM ?_;clear H;intro w33 H;replace H:=H.r 1;refine yA (dQ (H.k 1)) True.intro ?_;clear H;intro A' c' w34 H;intros;refine zCr ?_;intro C;intros
   repeat (first|(refine lc' ?_;intro K hK;go_big_quiet_op;go_big_quiet_on)|refine lk' ?_)
   refine aV rfl (by rfl) (by rfl) (fun K hK=>?_)
   unfold Oper.gives
   go_simp
   refine hK _ _ ?_;replace H:=H.H;refine aI ?_;clear C G;rw[<-HE.out] at H;replace H:=(H.d 1);refine zC ?_;intro C;intros;go_wp2
   go_roundw
   case rel=>exact⟨k+1,J+1,c',A',by omega,by go_num,by have:=HJ.out;omega,(Qh hq)⟩
   case measure=>simp[intOf];omega
  ·obtain rfl:k=cc:=by omega
   refine zC ?_;intro C;intros;go_wp2
   go_roundw
   case rel=>exact⟨r+1,J,c,A,by have:=HR.out;omega,by go_num,by rw[HJ.out,Nat.succ_mul],H⟩
   case measure=>have:=HR.out;simp[intOf];omega
 ·have HJE:Hid (J=rr*cc):=by show _=_;rw[HJ.out,show r=rr from by omega]
  refine zS_ ?_;clear H;intro u61 H
  exact(by show bD _ _ _ _;unfold bD;rw[HW.out,<-HJE.out];exact⟨A,c,by dsimp only;rw[aD],by dsimp only;rw[aD];exact(H.o 0),H.O⟩)
theorem yj {p:Mx×Mx} (hp:okS p=true) {cs:Int} (hc:side cs=true) {x:Value} (w:World) (hx:RS w x p):Calls prog 186 #[x,.int .i64 cs] w (jW (iu p cs) w):=by
 have HP1:=Qh (ai hp).1;have HP2:=Qh (ai hp).2.1;obtain⟨A1,A2,p1,p2,rfl,h1,h2,h3,h4,h5,h6⟩:=hx;have HM1:=Qh (RM.mk h1 h2 h3);have HM2:=Qh (RM.mk h4 h5 h6);clear h1 h2 h3 h4 h5 h6;have HP:=Qh hp;have HC:=Qh hc;clear hp hc;refine zE ?_;intro u1 H;refine zX (tg [w.heap.size]) ?_;clear H;intro S w2 hne H;refine zD (H.c 1) ?_;intro G;refine yO (wY HP1.out HC.out w2 (RM.below HM1.out H.O)) ?_;clear H;intro w3 P cP H;refine yO (wY HP2.out HC.out w3 (RM.below HM2.out H.O)) ?_;clear H;intro w4 Q cQ H;refine yS ?_;clear H;intro w5 H;refine yN ?_;clear H G;intro u6 H;refine zS_ ?_;clear H;intro u7 H
 exact⟨P,Q,cP,cQ,rfl,(H.o 1),(H.o 0),H.O⟩
theorem kK {x y:Mx×Mx} {s:Int} (ha:okS x=true) (hb:okS y=true) (hxy:x.1.c=y.1.r) (hs:sdB s=true) {u v:Value} (w:World) (hx:RS w u x) (hy:RS w v y) :
  Calls prog 190 #[u,v,.int .i64 s] w (bo (eI x y s).1 (eI x y s).2 75 w):=by
 obtain⟨hz1,hz2,hz3,hz4⟩:=kI ha hb hxy hs;obtain⟨z,hz⟩:∃ z,z=dG x y s:=⟨_,rfl⟩;rw[<-hz] at hz1 hz2 hz3 hz4;obtain⟨yq,hu⟩:∃ yq,yq=dv (fnv 1) z.1 z.2:=⟨_,rfl⟩;have HUC:Hid (eI x y s=yq):=by show dv (fnv 1) (dG x y s).1 (dG x y s).2=yq;rw[hu,hz]
 have HHX:=Qh hx;obtain⟨A1,A2,p1,p2,rfl,-⟩:=hx;have HHY:=Qh hy;obtain⟨B1,B2,q1,q2,rfl,-⟩:=hy;have HA:=Qh ha;have HB:=Qh hb;have HXY:=Qh hxy;have HS:=Qh hs;have HZ:=Qh hz;have HZ1:=Qh hz1;have HZ4:=Qh hz4;have HU:=Qh hu;clear ha hb hxy hs hz hz1 hz4 hu;clear hz2 hz3;refine zE ?_;intro u1 H;refine zG ((show Calls prog 184 #[_,_,_] u1 (bo z.1 z.2 50 u1) from by rw[HZ.out];exact fV HA.out HB.out HXY.out HS.out u1 (RS.below HHX.out H.O) (RS.below HHY.out H.O))) ?_
 rintro e w2 ⟨PA,pa,PB,pb,C,n,kk,v,rfl,f1,f2,f3,hn,hb⟩;replace H:=H.so hb f1 f2 f3;have HN:=Qh hn;clear hn;refine zN ?_;clear H;intro u3 H;refine zG ((show Calls prog 139 #[_,_,_] u3 (bo yq.1 yq.2 25 u3) from by rw[HU.out];exact dA (by omega) HZ1.out HZ4.out u3 (qS.rs (Ow.P1 (H.p 1))))) ?_
 rintro e w4 ⟨QA,qa,QB,qb,D,m,ll,v2,rfl,f1,f2,f3,hm,hb⟩;replace H:=H.so hb f1 f2 f3;have HM:=Qh hm;clear hm;replace H:=(H.r 2).zQ;refine zN ?_;clear H;intro u5 H;refine zX (tg [w4.heap.size]) ?_;clear H;intro S w6 hne H;refine zD (H.c 0) ?_;intro G;replace H:=H.r 1;refine yA (OS.si (Ow.P2 (H.p 2))) ((And.intro HM.out HN.out)) ?_;clear H;intro C2 e2 w7 H;refine yS ?_;clear H;intro w8 H;refine yN ?_;clear H G;intro u9 H;refine zS_ ?_;clear H;intro u10 H
 exact(by rw[HUC.out];exact⟨QA,qa,QB,qb,C2,_,e2,_,rfl,(qS.a (Ow.P1 (H.p 2))),(qS.b (Ow.P1 (H.p 2))),(H.o 0),(by have:=HN.out;have:=HM.out;omega),H.O⟩)
theorem mM {pw pb px:Mx×Mx} {s:Int} (how:okS pw=true) (hob:okS pb=true) (hox:okS px=true) (hwx:pw.1.c=px.1.r) (hbr:pb.1.r=pw.1.r) (hbc:pb.1.c=1) (hs:sdB s=true) {u v t:Value} (w:World) (hw:RS w u pw) (hb:RS w v pb) (hx:RS w t px) :
  Calls prog 138 #[u,v,t,.int .i64 s] w (bo (ec pw pb px s).1 (ec pw pb px s).2 75 w):=by
 obtain⟨hz1,hz2,hz3,hz4⟩:=kI how hox hwx hs;obtain⟨z,hz⟩:∃ z,z=dG pw px s:=⟨_,rfl⟩;rw[<-hz] at hz1 hz2 hz3 hz4;obtain⟨hu1,hu2,hu3,hu4⟩:=ja (fnv 1) hz1 hz4;obtain⟨yq,hu⟩:∃ yq,yq=dv (fnv 1) z.1 z.2:=⟨_,rfl⟩;rw[<-hu] at hu1 hu2 hu3 hu4;have hsx:=(aA (ai hox).1).2;have hw1:=oF hob hsx;have hw2:yq.1.1.r=(iu pb px.1.c).1.r:=by rw[hu2,hz2,<-hbr];rfl
 have hw3:yq.1.1.c=(iu pb px.1.c).1.c:=by rw[hu3,hz3];rfl
 obtain⟨y,hy⟩:∃ y,y=jX yq.1 (iu pb px.1.c):=⟨_,rfl⟩;have HDC:Hid (ec pw pb px s=(y,yq.2)):=by show (jX (eI pw px s).1 (iu pb px.1.c),(eI pw px s).2)=_;unfold eI;rw[<-hz,<-hu,hy]
 have hn1:(pb.1.c != 1)=false:=by rw[hbc];simp
 have hn2:(pb.1.r != pw.1.r)=false:=by rw[hbr];simp
 have hn3:(z.2 == 0)=false:=by have:=dH hz4;simp;omega
 have HHW:=Qh hw;obtain⟨A1,A2,p1,p2,rfl,-⟩:=hw;have HHB:=Qh hb;obtain⟨B1,B2,q1,q2,rfl,-⟩:=hb;have HHX:=Qh hx;obtain⟨C1,C2,r1,r2,rfl,-⟩:=hx;have HOW:=Qh how;have HOB:=Qh hob;have HOX:=Qh hox;have HWX:=Qh hwx;have HS:=Qh hs;have HZ:=Qh hz;have HZ1:=Qh hz1;have HZ4:=Qh hz4;have HU:=Qh hu;have HU1:=Qh hu1;have HSX:=Qh hsx;have HW1:=Qh hw1;have HW2:=Qh hw2;have HW3:=Qh hw3;have HY:=Qh hy;clear how hob hox hwx hs hz hz1 hz4 hu hu1 hsx hw1 hw2 hw3 hy;clear hz2 hz3 hu2 hu3 hu4 hbr hbc;refine zE ?_;intro u1 H;refine zW (eC HOW.out u1 (RS.below HHW.out H.O)) ?_;clear H;intro w2 FW1 FW2 fwc fwd u2 H;refine zW (eC HOB.out u2 (RS.below HHB.out H.O)) ?_;clear H;intro w3 FB1 FB2 fbc fbd u3 H;refine zW (eC HOX.out u3 (RS.below HHX.out H.O)) ?_;clear H;intro w4 FX1 FX2 fxc fxd u4 H;refine zB (iR HOB.out u4 (H.rs 1)) ?_;clear H;intro w5 u5 H;refine zG ((show Calls prog 184 #[_,_,_] u5 (bo z.1 z.2 50 u5) from by rw[HZ.out];exact fV HOW.out HOX.out HWX.out HS.out u5 (H.rs 2) (H.rs 0))) ?_
 rintro e w6 ⟨PA,pa,PB,pb,C,n,kk,v,rfl,f1,f2,f3,hn,hb⟩;replace H:=H.so hb f1 f2 f3;have HN:=Qh hn;clear hn;replace H:=H.d 3;replace H:=H.d 1;refine zN ?_;clear H;intro u7 H;refine zG ((show Calls prog 139 #[_,_,_] u7 (bo yq.1 yq.2 25 u7) from by rw[HU.out];exact dA (by omega) HZ1.out HZ4.out u7 (qS.rs (Ow.P1 (H.p 1))))) ?_
 rintro e w8 ⟨QA,qa,QB,qb,D,m,ll,v2,rfl,f1,f2,f3,hm,hb⟩;replace H:=H.so hb f1 f2 f3;have HM:=Qh hm;clear hm;replace H:=(H.r 2).zQ;refine zN ?_;clear H;intro u9 H;refine zX (tg [w8.heap.size,w.heap.size+2,w.heap.size+1]) ?_;clear H;intro S w10 hne H;refine zD ((And.intro (H.c 0) (And.intro (H.c 6) (H.c 7)))) ?_;intro G;refine yW (yj HOB.out HSX.out w10 (H.rs 4)) ?_;clear H;intro w11 WA WB wa wb H;refine yW ((show Calls prog 185 #[_,_] w11 (jW y w11) from by rw[HY.out];exact vi HU1.out HW1.out HW2.out HW3.out w11 (qS.rs (Ow.P1 (H.p 3))) (H.rs 0))) ?_;clear H;intro w12 YA YB ya yb H
 replace H:=H.r 3;refine yA (OS.si (Ow.P2 (H.p 4))) ((And.intro HM.out HN.out)) ?_;clear H;intro D2 e2 w13 H;refine yS ?_;clear H;intro w14 H;refine yN ?_;clear H G;intro u15 H;refine zS_ ?_;clear H;intro u16 H
 exact(by rw[HDC.out];exact⟨YA,ya,YB,yb,D2,_,e2,_,rfl,(qS.a (H.p 1)),(qS.b (H.p 1)),(H.o 0),(by have:=HN.out;have:=HM.out;omega),H.O⟩)
end
section
attribute [local go_sem] af ah ae
theorem mK {p yq:Mx×Mx} {s:Int} (hop:okS p=true) (hoq:okS yq=true) (hr:yq.1.r=p.1.r) (hc1:yq.1.c=1) (hs:sdB s=true) {x y:Value} (w:World) (hx:RS w x p) (hy:RS w y yq) :
  Calls prog 193 #[x,y,.int .i64 s] w (bo (c_ p yq s).1 (c_ p yq s).2 50 w):=by
 have HNN:=Qh (bt (show az p.1 p.2=true from hop)).1
 have HQN:=Qh (bt (show az yq.1 yq.2=true from hoq)).1
 have HN25:=Qh (dy (ai hop).1);have HNA:Hid (0<p.1.v.length):=by have:=HN25.out;unfold Hid;omega
 have HNB:Hid (0<p.2.v.length):=by have:=dy (ai hop).2.1;unfold Hid;omega
 have HNC:Hid (0<yq.1.v.length):=by have:=dy (ai hoq).1;unfold Hid;omega
 have HND:Hid (0<yq.2.v.length):=by have:=dy (ai hoq).2.1;unfold Hid;omega
 obtain⟨l1,s1,s2,_⟩:=cZ (ai hop).1;obtain⟨l2,_,_,_⟩:=cZ (ai hoq).1;obtain⟨rr,hrr,r11,r12⟩:=toN (bI s1);obtain⟨cc,hcc,c11,c12⟩:=toN (bI s2);have HLC:Hid (p.1.v.length=rr*cc):=by show _=_;rw[hrr,hcc] at l1;exact_mod_cast l1
 have HQL:Hid (yq.1.v.length=rr):=by show _=_;rw[hr,hc1,hrr,Int.mul_one] at l2;exact_mod_cast l2
 have HCC:=Qh hcc;have HC1:=Qh c11;have HRR:=Qh r12;have hnr:(yq.1.r != p.1.r)=false:=by rw[hr];simp
 have hn1:(yq.1.c != 1)=false:=by rw[hc1];simp
 have HMP:Hid (c_ p yq s=((⟨p.1.r,p.1.c,fl (sc1 p yq s) p.1.v.length⟩,⟨p.1.r,p.1.c,fl (sc2 p yq s) p.1.v.length⟩),scS s p.1.v.length)):=rfl;have HHX:=Qh hx;have HHY:=Qh hy;obtain⟨A1,A2,p1,p2,rfl,-⟩:=hx;obtain⟨B1,B2,q1,q2,rfl,-⟩:=hy;have HP:=Qh hop;have HQ:=Qh hoq;have HS:=Qh hs;clear hop hoq hs;clear l1 l2 s1 s2 hrr hcc hr hc1 c11 c12 r11 r12;refine zE ?_;intro u1 H;refine zW (eC HP.out u1 (RS.below HHX.out H.O)) ?_;clear H;intro w2 FX1 FX2 fxc fxd u2 H;refine zW (eC HQ.out u2 (RS.below HHY.out H.O)) ?_;clear H;intro w3 FY1 FY2 fyc fyd u3 H;refine zB (iR HP.out u3 (H.rs 2)) ?_;clear H;intro w4 u4 H;refine zB (iR HQ.out u4 (H.rs 1)) ?_;clear H;intro w5 u5 H;refine zP (cz _ HS.out u5) ?_;clear H;intro u6 H;replace H:=H.nil.nil;obtain⟨ga,rfl,-,-⟩:=OS.pos (qS.a (H.p 5)) HNA.out;obtain⟨gb,rfl,-,-⟩:=OS.pos (qS.b (H.p 5)) HNB.out;obtain⟨gc,rfl,-,-⟩:=OS.pos (qS.a (H.p 4)) HNC.out;obtain⟨gd,rfl,-,-⟩:=OS.pos (qS.b (H.p 4)) HND.out;replace H:=(((((((((H.r 7).r 8).r 8).r 7).r 8).r 7).r 6).r 7).r 8);intros
 go_loopw [2,9,11] (fun s2 s9 s11 wr=>∃ (j c a b:Nat) (C A B:Option Addr) (v:List Int),j<=p.1.v.length/\s11= .int .i64 j/\s2= .int .i64 (scS s j)/\s9= .slice C (2*j) c/\Hid (Hq w [qO w.heap.size C (2*j) c v,qO w.heap.size A j a (fl (sc1 p yq s) j),qO w.heap.size B j b (fl (sc2 p yq s) j),qB u5.heap.size 82 [.int .i64 p.1.r,.int .i64 p.1.c,.slice A j a,.int .i64 p.1.r,.int .i64 p.1.c,.slice B j b],qS w.heap.size (some ⟨ga,0,none⟩) fxc (some ⟨gb,0,none⟩) fxd p,qS w.heap.size (some ⟨gc,0,none⟩) fyc (some ⟨gd,0,none⟩) fyd yq,qB (w.heap.size+2) 82 [.int .i64 0,.int .i64 0,.slice none 0 0,.int .i64 0,.int .i64 0,.slice none 0 0],qB w.heap.size 82 [.int .i64 p.1.r,.int .i64 p.1.c,.slice (some ⟨ga,0,none⟩) p.1.v.length fxc,.int .i64 p.2.r,.int .i64 p.2.c,.slice (some ⟨gb,0,none⟩) p.2.v.length fxd],qB (w.heap.size+1) 82 [.int .i64 yq.1.r,.int .i64 yq.1.c,.slice (some ⟨gc,0,none⟩) yq.1.v.length fyc,.int .i64 yq.2.r,.int .i64 yq.2.c,.slice (some ⟨gd,0,none⟩) yq.2.v.length fyd]] wr)) (fun _ _ i _=>p.1.v.length-(intOf i).toNat)
 case atStart=>exact⟨0,0,0,0,_,none,none,[],Nat.zero_le _,rfl,rfl,rfl,H⟩
 case round =>
 clear H;obtain⟨j,c,a,b,C,A,B,v,hj,rfl,rfl,rfl,H⟩:=hrel;have H:=H.out
 by_cases hlt:j<p.1.v.length
 ·obtain⟨σ,hσ⟩:∃ x,x=scS s j:=⟨_,rfl⟩;obtain⟨d,hd⟩:∃ x,x=j/cc:=⟨_,rfl⟩;have hdm:d<rr:=by rw[hd];exact Nat.div_lt_of_lt_mul (by rw[Nat.mul_comm,<-HLC.out];exact hlt)
  have hdq:(j:Int)/p.1.c=(d:Int):=by rw[hd,HCC.out];exact(Int.natCast_ediv j cc).symm
  have hdq2:Int.tdiv (j:Int) p.1.c=(d:Int):=by rw[Int.tdiv_eq_ediv_of_nonneg (by omega)];exact hdq
  have hwd:=IntWalk.i64_in (d:Int) (by have:=HRR.out;omega)
  have hpc:¬p.1.c=0:=by rw[HCC.out];have:=HC1.out;omega
  obtain⟨a1,ha1⟩:∃ x,x=p.1.v.getD j 0:=⟨_,rfl⟩;obtain⟨a2,ha2⟩:∃ x,x=p.2.v.getD j 0:=⟨_,rfl⟩;obtain⟨b1,hb1⟩:∃ x,x=yq.1.v.getD d 0:=⟨_,rfl⟩;obtain⟨b2,hb2⟩:∃ x,x=yq.2.v.getD d 0:=⟨_,rfl⟩;have hsv:sv a1 a2=true:=by rw[ha1,ha2];exact fX (dE (ai HP.out).1 j) (dE (ai HP.out).2.1 j)
  have htv:sv b1 b2=true:=by rw[hb1,hb2];exact fX (dE (ai HQ.out).1 d) (dE (ai HQ.out).2.1 d)
  have hso:sdB σ=true:=by rw[hσ];exact qH HS.out j
  have hnx:scS s (j+1)=sds σ 5:=by rw[hσ];rfl
  have hct:p.1.c.toNat=cc:=by rw[HCC.out];rfl
  obtain⟨d1,hd1⟩:∃ x,x=mP1 (rn σ 4) (rn σ 2) (rn σ 0) (mD a1 a2 (rn σ 0) (rn σ 1)) (mD b1 b2 (rn σ 2) (rn σ 3)):=⟨_,rfl⟩;obtain⟨d2,hd2⟩:∃ x,x=mP2 ((tC σ-rn σ 4)%4096) (rn σ 3) (rn σ 1) (mD a1 a2 (rn σ 0) (rn σ 1)) (mD b1 b2 (rn σ 2) (rn σ 3)):=⟨_,rfl⟩;have HE1:Hid (fl (sc1 p yq s) (j+1)=fl (sc1 p yq s) j++[d1]):=by show _=_;rw[dd,show sc1 p yq s j=d1 from by rw[hd1];unfold sc1 scD scE;rw[hct,<-hd,<-hσ,ha1,ha2,hb1,hb2]]
  have HE2:Hid (fl (sc2 p yq s) (j+1)=fl (sc2 p yq s) j++[d2]):=by show _=_;rw[dd,show sc2 p yq s j=d2 from by rw[hd2];unfold sc2 scD scE;rw[hct,<-hd,<-hσ,ha1,ha2,hb1,hb2]]
  rw[<-hσ];have j0:(0:Int)<=(j:Int):=by omega
  have j1:(j:Int)<(p.1.v.length:Int):=by omega
  have j2:(j:Int)<(p.2.v.length:Int):=by have:=HNN.out;omega
  have hlt2:j<p.2.v.length:=by have:=HNN.out;omega
  have j3:(d:Int)<(yq.1.v.length:Int):=by have:=HQL.out;omega
  have j4:(d:Int)<(yq.2.v.length:Int):=by have:=HQL.out;have:=HQN.out;omega
  have j5:(0:Int)<=(d:Int):=by omega
  have hl3:d<yq.1.v.length:=by omega
  have hl4:d<yq.2.v.length:=by omega
  have h25:j<25:=by have:=HN25.out;omega
  have HSV:=Qh hsv;have HTV:=Qh htv;have HSO:=Qh hso;have HNX:=Qh hnx;have HA1:=Qh ha1;have HA2:=Qh ha2;have HB1:=Qh hb1;have HB2:=Qh hb2;have HD1:=Qh hd1;have HD2:=Qh hd2;clear hsv htv hso hnx ha1 ha2 hb1 hb2 hd1 hd2 hσ hd hct;refine zN ?_;clear H;intro u41 H;refine zB (qx (dH HSO.out) u41) ?_;clear H;intro w42 u42 H;have eza1:ga<u42.heap.size:=(OS.aj (qS.a (H.p 5)) ga rfl).2;have eza2:gb<u42.heap.size:=(OS.aj (qS.b (H.p 5)) gb rfl).2;have ezb1:gc<u42.heap.size:=(OS.aj (qS.a (H.p 6)) gc rfl).2;have ezb2:gd<u42.heap.size:=(OS.aj (qS.b (H.p 6)) gd rfl).2;have E:=H.el;refine zXF (tgF [w42.heap.size,w.heap.size,(w.heap.size+1),ga,gb,gc,gd] 32 15 (.cells #[.int .i64 0,.int .i64 0] 213)) ?_;clear H;intro S w43 hne H;refine zD ((And.intro (H.c 0) (And.intro (H.c 8) (H.c 9)))) ?_;intro G;have ra1:=H.row (show World.cell? _ ⟨ga,j,none⟩=some (.int .i64 a1) from by rw[HA1.out];exact OS.cellAt (qS.a (H.p 5)) hlt)
  have ra2:=H.row (show World.cell? _ ⟨gb,j,none⟩=some (.int .i64 a2) from by rw[HA2.out];exact OS.cellAt (qS.b (H.p 5)) hlt2)
  have rb1:=H.row (show World.cell? _ ⟨gc,d,none⟩=some (.int .i64 b1) from by rw[HB1.out];exact OS.cellAt (qS.a (H.p 6)) hl3)
  have rb2:=H.row (show World.cell? _ ⟨gd,d,none⟩=some (.int .i64 b2) from by rw[HB2.out];exact OS.cellAt (qS.b (H.p 6)) hl4)
  intros;refine f_ (fun w44 (hb:Bw w43 w44)=>su HSV.out HTV.out (fX (dB σ 0) (dB σ 1)) (fX (dB σ 2) (dB σ 3)) (fX (dB σ 4) (by omega)) (kX σ) w44) ?_;clear H
  rintro w44 K hK H e w45 ⟨D,cd,rfl,hos,hb⟩;replace H:=H.os hb hos;rw[<-HD1.out,<-HD2.out];refine fK ?_;clear hK K hb;refine yG ?_;clear H;intro w46 g46 hg46 H;refine yS ?_;clear H;intro w47 H;intros
  repeat (first|(refine lc' ?_;intro K hK;go_big_quiet_op;go_big_quiet_on)|refine lk' ?_)
  refine aI ?_;replace H:=H.H;clear G;refine zC ?_;intro C;intros
  go_wp2_with (at_builtin;refine zM ?_)
  clear H C;intro u49 H;replace H:=H.r 5;refine zA (dQ (H.k 1)) True.intro ?_;clear H;intro A' a' w49 H;replace H:=H.d 1;refine zC ?_;intro C;intros
  go_wp2_with (at_builtin;refine zM ?_)
  clear H C;intro u50 H;replace H:=H.r 6;refine zA (dQ (H.k 1)) True.intro ?_;clear H;intro B' b' w50 H;replace H:=H.d 1;refine zC ?_;intro C;intros
  go_wp2_with (at_builtin;refine zM ?_)
  clear H C;intro u51 H;replace H:=H.r 5;refine zA (OS.si (H.o 4)) True.intro ?_;clear H;intro C' c' w51 H;rw[<-HE1.out,<-HE2.out] at H;replace H:=((((((((((((H.d 3).d 3).d 3).r 8).r 8).r 8).r 8).r 8).r 8).r 7).r 8).r 8);refine zC ?_;intro C;intros;go_wp2
  go_roundw
  case rel=>exact⟨j+1,c',a',b',C',A',B',_,by omega,by go_num,by rw[HNX.out],rfl,H⟩
  case measure=>simp[intOf];omega
 ·have hjn:p.1.v.length=j:=by omega
  refine zS_ ?_;clear H;intro u81 H
  exact(by rw[HMP.out,hjn];exact⟨A,a,B,b,C,2*j,c,v,by dsimp only;rw[aD,aD];rfl,by dsimp only;rw[aD];exact(H.o 1),by dsimp only;rw[aD];exact(H.o 2),(H.o 0),by have:=HN25.out;omega,H.O⟩)
end
theorem sB (a:Mx) (ha:mvB a=true) (A1:Option Addr) (p1:Nat) (w:World) (hx0:SI w A1 a.v.length a.v) :
  Calls prog 192 #[MV a.r a.c A1 a.v.length p1] w (bD (il a) w):=by
 obtain⟨ar,ac,v1⟩:=a
 dsimp only at hx0 ⊢
 obtain⟨la,sar,sac,_⟩:=cZ ha
 dsimp only at la sar sac
 obtain⟨r1,rfl,r11,r12⟩:=toN (bI sar);obtain⟨c1,rfl,c11,c12⟩:=toN (bI sac);have la':v1.length=r1*c1:=by exact_mod_cast la
 have hla:v1.length<=25:=by rw[la'];exact Nat.mul_le_mul r12 c12
 have pla:0<v1.length:=by rw[la'];exact Nat.mul_pos r11 c11
 have hlX:v1.length<=1048576:=by omega
 have HX:=Qh hx0;have MX:=Qh ha;have LX:=Qh la';obtain⟨F,hF⟩:∃ F:Nat->Int,F=fun i=>ew ⟨(r1:Int),(c1:Int),v1⟩ c1 i c1%4096:=⟨_,rfl⟩
 have HM:Hid (il ⟨(r1:Int),(c1:Int),v1⟩=⟨(r1:Int),1,fl F r1⟩):=by rw[hF];exact qu ha
 have HF:Hid (∀ r,ew ⟨(r1:Int),(c1:Int),v1⟩ c1 r c1%4096=F r):=by rw[hF];exact fun r=>rfl
 clear la la' sar sac hx0 ha hF;refine zE ?_;intro u1 H;refine zG (aQ (r1:Int) (c1:Int) v1 A1 _ p1 u1 (SI.below HX.out H.O) hlX) ?_;rintro e w2 ⟨AX,cX,rfl,hos,hb⟩;replace H:=H.os hb hos
 dsimp only at H ⊢
 refine zN ?_;clear H;intro u3 H;refine zB ((show Calls prog 89 #[_] u3 (fun e w'=>e= .returned (.bool true)/\Below u3.heap.size u3 w') from(show mvB ⟨(r1:Int),(c1:Int),v1⟩=true from MX.out) ▸ aM (r1:Int) (c1:Int) v1 AX _ cX u3 (OS.si (H.o 0)) (by omega))) ?_;clear H;intro w4 u4 H
 replace H:=H.nil;obtain⟨gT,hgT⟩:∃ g,g=w4.heap.size:=⟨_,rfl⟩;rw[<-hgT] at H ⊢;clear hgT;obtain⟨gX,rfl,_,_⟩:=(H.o 2).pos (by omega)
 intros
 go_loopw [4] (fun i wr=>∃ (r J c':Nat) (A':Option Addr),r<=r1/\i= .int .i64 r/\J=r/\Hid (Hq w [qO w.heap.size A' J c' (fl F J),qB gT 37 [.int .i64 (r1:Int),.int .i64 1,.slice A' J c'],qO w.heap.size (some ⟨gX,0,none⟩) v1.length cX v1,qB (w.heap.size+1) 37 [.int .i64 0,.int .i64 0,.slice none 0 0],qB w.heap.size 37 [.int .i64 (r1:Int),.int .i64 (c1:Int),.slice (some ⟨gX,0,none⟩) v1.length cX]] wr)) (fun i _=>r1-(intOf i).toNat)
 case atStart=>exact⟨0,0,0,none,Nat.zero_le _,rfl,by omega,H⟩
 case round =>
 clear H;obtain⟨r,J,c',A',hr,rfl,hJ,H⟩:=hrel;have HJ:=Qh hJ;clear hJ;have H:=H.out
 by_cases hlt:r<r1
 ·have J25:J<25:=by have:=HJ.out;omega
  refine zN ?_;clear H;intro u H;intros
  go_loopw [5,6] (fun v i wr=>∃ k:Nat,k<=c1/\i= .int .i64 k/\v= .int .i64 (ew ⟨(r1:Int),(c1:Int),v1⟩ c1 r k)/\Hid (Hq w [qO w.heap.size A' J c' (fl F J),qB gT 37 [.int .i64 (r1:Int),.int .i64 1,.slice A' J c'],qO w.heap.size (some ⟨gX,0,none⟩) v1.length cX v1,qB (w.heap.size+1) 37 [.int .i64 0,.int .i64 0,.slice none 0 0],qB w.heap.size 37 [.int .i64 (r1:Int),.int .i64 (c1:Int),.slice (some ⟨gX,0,none⟩) v1.length cX]] wr)) (fun _ i _=>c1-(intOf i).toNat)
  case atStart=>exact⟨0,Nat.zero_le _,rfl,rfl,H⟩
  case round =>
  clear H;obtain⟨k,hk,rfl,rfl,H⟩:=hrel;have H:=H.out
  by_cases hkc:k<c1
  ·have hi1:r*c1+k<v1.length:=by rw[LX.out];exact e9 hlt hkc
   obtain⟨x0,x1⟩:=dE MX.out (r*c1+k);obtain⟨s0,s1⟩:=n9 MX.out c1 r k
   dsimp only at x0 x1
   have HDS:Hid (ew ⟨(r1:Int),(c1:Int),v1⟩ c1 r (k+1)=ew ⟨(r1:Int),(c1:Int),v1⟩ c1 r k+v1.getD (r*c1+k) 0):=rfl;obtain⟨i1,hi1e,m1,w1,t1,j1,j2⟩:=ub hi1 hla;rw[hi1e] at hi1 x0 x1 HDS;clear hi1e;obtain⟨s,hs⟩:∃ s,s=ew ⟨(r1:Int),(c1:Int),v1⟩ c1 r k:=⟨_,rfl⟩;have Es:=Qh hs;obtain⟨x,hx⟩:∃ x,x=v1.getD (i1+k) 0:=⟨_,rfl⟩;have Ex:=Qh hx;rw[<-hs,<-hx] at HDS;rw[<-hs] at s0 s1 ⊢;rw[<-hx] at x0 x1;clear hs hx Es;have w4:=IntWalk.i64_in (s+x) (by omega)
   have ezX:=(a7 (H.o 2) hi1).1;have rX:=(a7 (H.o 2) hi1).2.1;rw[<-Ex.out] at rX;replace H:=(((((H.r 4).r 4).r 4).r 4).r 4);refine zC ?_;intro C;intros;go_wp2
   go_roundw
   case rel=>exact⟨k+1,by omega,by go_num,by rw[HDS.out],H⟩
   case measure=>simp[intOf];omega
  ·obtain rfl:k=c1:=by omega
   obtain⟨s,hs⟩:∃ s,s=ew ⟨(r1:Int),(k:Int),v1⟩ k r k:=⟨_,rfl⟩;have Es:=Qh hs;have HFJ:=HF.out r;rw[<-hs,<-HJ.out] at HFJ;rw[<-hs];obtain⟨v,hv⟩:∃ v,v=s%4096:=⟨_,rfl⟩;rw[<-hv] at HFJ;have HRG:Hid (∀ W:World,Calls prog 132 #[.int .i64 s] W fun e w'=>e= .returned (.int .i64 v)/\W=w'):=by rw[hv];exact fun W=>bG s W
   have HS:Hid (fl F J++[v]=fl F (J+1)):=by rw[HFJ];exact(dd F J).symm
   clear hv HFJ hs Es;refine zC ?_;intro C;intros;go_upto_region 13 with fail;refine zM ?_;clear H C;intro u51 H;refine zXZ (tg [gT]) ?_;clear H;intro S w52 hne H;refine zD (H.c 1) ?_;intro G;refine yP (HRG.out w52) ?_;refine yM ?_;clear H;intro w53 H;replace H:=H.r 1;refine yA (dQ (H.k 1)) True.intro ?_;clear H;intro C1 k1 w54 H;intros;refine zCr ?_;intro C;intros
   repeat (first|(refine lc' ?_;intro K hK;go_big_quiet_op;go_big_quiet_on)|refine lk' ?_)
   refine aV rfl (by rfl) (by rfl) (fun K hK=>?_)
   unfold Oper.gives
   go_simp
   refine hK _ _ ?_;replace H:=H.H;refine aI ?_;clear C G;replace H:=((((((H.d 1).r 4).r 4).r 4).r 4).r 4);refine zC ?_;intro C;intros;go_wp2
   go_roundw
   case rel=>exact⟨r+1,J+1,k1,C1,by omega,by go_num,by have:=HJ.out;omega,(by rw[HS.out] at H;exact(Qh hq))⟩
   case measure=>simp[intOf];omega
 ·obtain rfl:r=r1:=by omega
  refine zS_ ?_;clear H;intro u91 H
  exact(by rw[HM.out,<-HJ.out];exact⟨A',c',by dsimp only;rw[aD],by dsimp only;rw[aD];exact(H.o 0),H.O⟩)
section
attribute [local go_sem] af ah ae
theorem wV {m:Mx} (h:mvB m=true) {x:Value} (w:World) (hx:RM w x m):Calls prog 192 #[x] w (bD (il m) w):=by
 obtain⟨A,c,rfl,h1,_⟩:=hx
 exact sB m h A c w h1
theorem DY {ma mb mc px:Mx×Mx} {s:Int} (ho0:okS ma=true) (ho1:okS mb=true) (ho2:okS mc=true) (hox:okS px=true) (ha1:ma.1.r=px.1.c) (ha2:ma.1.c=px.1.c) (hb1:mb.1.r=px.1.c) (hb2:mb.1.c=px.1.c) (hc1:mc.1.r=px.1.c) (hc2:mc.1.c=px.1.c) (hs:sdB s=true)
  {A:Option Addr} {cap:Nat} {F:List Nat} {x:Value} (w:World) (hl:RI smE w A 3 cap [ma,mb,mc] F) (hx:RS w x px):Calls prog 140 #[.slice A 3 cap,x,.int .i64 s] w (bo (nR ma mb mc px s).1 (nR ma mb mc px s).2 500 w):=by
 have hall:∀ p,p∈[ma,mb,mc]->okS p=true/\p.1.r=px.1.c/\p.1.c=px.1.c:=by
  intro p hp;simp only[List.mem_cons,List.not_mem_nil,or_false] at hp;rcases hp with rfl|rfl|rfl
  ·exact⟨ho0,ha1,ha2⟩
  ·exact⟨ho1,hb1,hb2⟩
  ·exact⟨ho2,hc1,hc2⟩
 have hsm:∀ p,p∈[ma,mb,mc]->smS p:=fun p hp=>by
  have:=fs (hall p hp).1
  exact⟨by unfold mS;omega,by unfold mS;omega⟩
 have hR:=AB ma mb mc px s;obtain⟨z,hz⟩:∃ z,z=yc ma mb mc px s:=⟨_,rfl⟩;rw[<-hz] at hR;have hZ:=AD hR ho0 ho1 ho2 hox ha1 ha2 hb1 hb2 hc1 hc2 hs;have hm:nR ma mb mc px s=z.o:=by unfold nR;rw[hz]
 rw[hm];have HA:=Qh (⟨ho0,ha1,ha2⟩:okS ma=true/\ma.1.r=px.1.c/\ma.1.c=px.1.c);have HB:=Qh (⟨ho1,hb1,hb2⟩:okS mb=true/\mb.1.r=px.1.c/\mb.1.c=px.1.c);have HC:=Qh (⟨ho2,hc1,hc2⟩:okS mc=true/\mc.1.r=px.1.c/\mc.1.c=px.1.c);have HX:=Qh hox;have HHX:=Qh hx;obtain⟨A1,A2,p1,p2,rfl,-⟩:=hx;have HALL:=Qh hall;have HSM:=Qh hsm;have HR:=Qh hR;have HZ:=Qh hZ;have HL:=Qh hl;have HS:=Qh hs;clear hall hsm hR hZ hl hs;clear hz hm ho0 ho1 ho2 ha1 ha2 hb1 hb2 hc1 hc2 hox;refine zE ?_;intro u1 H;refine zG (ef _ _ _ _ _ u1 (RI.below HL.out H.O) (by decide) HSM.out) ?_
 rintro e w2 ⟨AL,cl,FL,rfl,ri,fr,hb⟩;replace H:=H.rf hb ri fr;obtain⟨ab,ao,_,_,rfl,-⟩:=RI.at (H.f 0).1 (i:=0) (x:=ma) rfl;refine zN ?_;clear H;intro u3 H;refine zW (eC HX.out u3 (RS.below HHX.out H.O)) ?_;clear H;intro w4 FX1 FX2 fxc fxd u4 H;refine zB (iR HX.out u4 (H.rs 0)) ?_;clear H;intro w5 u5 H;refine zP (cz _ HS.out u5) ?_;clear H;intro u6 H;intros
 go_loopw [9] (fun i wr=>∃ k:Nat,k<=3/\i= .int .i64 k/\Hid (Hq w [qS w.heap.size FX1 fxc FX2 fxd px,qR smE w.heap.size (some ⟨ab,ao,none⟩) 3 cl [ma,mb,mc] FL,qB (w.heap.size+1) 82 [.int .i64 0,.int .i64 0,.slice none 0 0,.int .i64 0,.int .i64 0,.slice none 0 0],qB w.heap.size 82 [.int .i64 px.1.r,.int .i64 px.1.c,.slice FX1 px.1.v.length fxc,.int .i64 px.2.r,.int .i64 px.2.c,.slice FX2 px.2.v.length fxd]] wr)) (fun i _=>3-(intOf i).toNat)
 case atStart=>exact⟨0,by omega,rfl,H⟩
 case round =>
 clear H;obtain⟨k,hk,rfl,H⟩:=hrel;have H:=H.out
 by_cases hlt:k<3
 ·obtain⟨p,hp,hmem⟩:=aH (xs:=[ma,mb,mc]) (j:=k) hlt;have hall:=HALL.out p hmem;have HP:=Qh hp;have hn1:(p.1.r != px.1.c)=false:=by rw[hall.2.1];simp
  have hn2:(p.1.c != px.1.c)=false:=by rw[hall.2.2];simp
  have HO:=Qh hall.1;have k0:(0:Int)<=(k:Int):=by omega
  have k1:(k:Int)<3:=by omega
  clear hp hmem hall;refine zN ?_;clear H;intro u21 H;have ezb:=(RI.blt' (H.f 1).1 (by decide)).1
  refine zX (tg [w.heap.size,ab]) ?_;clear H;intro S w22 hne H;refine zD (H.c 3) ?_;intro G;obtain⟨E1,e1,E2,e2,he,hr⟩:=sm_at (H.f 1).1 HP.out rfl;have rx:=an6 (H.row he.1) (H.row he.2.1) (H.row he.2.2.1) (H.row he.2.2.2.1) (H.row he.2.2.2.2.1) (H.row he.2.2.2.2.2);clear he;refine yB (iR HO.out w22 hr) ?_;clear H;intro w23 H;refine yL ?_;refine yL ?_;intros
  repeat (first|(refine lc' ?_;intro K hK;go_big_quiet_op;go_big_quiet_on)|refine lk' ?_)
  refine aI ?_;replace H:=H.H;clear G;refine zC ?_;intro C;intros;go_wp2
  go_roundw
  case rel=>exact⟨k+1,by omega,by go_num,H⟩
  case measure=>simp[intOf];omega
 ·obtain rfl:k=3:=by omega
  refine zN ?_;clear H;intro u41 H;have ezb:=(RI.blt' (H.f 1).1 (by decide)).1
  have E:=H.el;refine zXF (tgF [w.heap.size,ab] 10 10 (.cells #[.int .i64 0,.int .i64 0,.slice none 0 0,.int .i64 0,.int .i64 0,.slice none 0 0] 82)) ?_;clear H;intro S w42 hne H;refine zD (H.c 3) ?_;intro G;obtain⟨E1,e1,E2,e2,he,hr⟩:=sm_at (H.f 1).1 (i:=0) (p:=ma) rfl rfl;simp only[Nat.zero_mul,Nat.add_zero,Nat.one_mul,Nat.reduceMul] at he;have rx:=an6 (H.row he.1) (H.row he.2.1) (H.row he.2.2.1) (H.row he.2.2.2.1) (H.row he.2.2.2.2.1) (H.row he.2.2.2.2.2);clear he;intros;refine f_ (fun w43 (hb:Bw w42 w43)=>(show Calls prog 190 #[_,_,_] w43 (bo z.q.1 z.q.2 75 w43) from by rw[HR.out.q];exact kK HX.out HA.out.1 HA.out.2.1.symm HS.out w43 ((H.b hb).rs 0) (RS.below hr hb))) ?_;clear H
  rintro w43 K hK H e w44 ⟨Pq1,aq1,Pq2,aq2,Cq,nq,kq,vq,rfl,f1,f2,f3,hn,hb⟩;replace H:=H.so hb f1 f2 f3;have Nq:=Qh hn;clear hn;refine fK ?_;clear hK K hb;refine yG ?_;clear H;intro w45 g45 hg45 H;refine yS ?_;clear H;intro w46 H;refine yN ?_;clear H G;intro u47 H;have ezb:=(RI.blt' (H.f 3).1 (by decide)).1
  have E:=H.el;refine zXF (tgF [w.heap.size,ab] 10 13 (.cells #[.int .i64 0,.int .i64 0,.slice none 0 0,.int .i64 0,.int .i64 0,.slice none 0 0] 82)) ?_;clear H;intro S w48 hne H;refine zD (H.c 5) ?_;intro G;obtain⟨E1,e1,E2,e2,he,hr⟩:=sm_at (H.f 3).1 (i:=1) (p:=mb) rfl rfl;simp only[Nat.zero_mul,Nat.add_zero,Nat.one_mul,Nat.reduceMul] at he;have rx:=an6 (H.row he.1) (H.row he.2.1) (H.row he.2.2.1) (H.row he.2.2.2.1) (H.row he.2.2.2.2.1) (H.row he.2.2.2.2.2);clear he;intros;refine f_ (fun w49 (hb:Bw w48 w49)=>(show Calls prog 190 #[_,_,_] w49 (bo z.k.1 z.k.2 75 w49) from by rw[HR.out.k];exact kK HX.out HB.out.1 HB.out.2.1.symm HZ.out.q.2.2.2 w49 ((H.b hb).rs 2) (RS.below hr hb))) ?_;clear H
  rintro w49 K hK H e w50 ⟨Pk1,ak1,Pk2,ak2,Ck,nk,kk,vk,rfl,f1,f2,f3,hn,hb⟩;replace H:=H.so hb f1 f2 f3;have Nk:=Qh hn;clear hn;refine fK ?_;clear hK K hb;refine yG ?_;clear H;intro w51 g51 hg51 H;refine yS ?_;clear H;intro w52 H;refine yN ?_;clear H G;intro u53 H;have ezb:=(RI.blt' (H.f 5).1 (by decide)).1
  have E:=H.el;refine zXF (tgF [w.heap.size,ab] 10 16 (.cells #[.int .i64 0,.int .i64 0,.slice none 0 0,.int .i64 0,.int .i64 0,.slice none 0 0] 82)) ?_;clear H;intro S w54 hne H;refine zD (H.c 7) ?_;intro G;obtain⟨E1,e1,E2,e2,he,hr⟩:=sm_at (H.f 5).1 (i:=2) (p:=mc) rfl rfl;simp only[Nat.zero_mul,Nat.add_zero,Nat.one_mul,Nat.reduceMul] at he;have rx:=an6 (H.row he.1) (H.row he.2.1) (H.row he.2.2.1) (H.row he.2.2.2.1) (H.row he.2.2.2.2.1) (H.row he.2.2.2.2.2);clear he;intros;refine f_ (fun w55 (hb:Bw w54 w55)=>(show Calls prog 190 #[_,_,_] w55 (bo z.v.1 z.v.2 75 w55) from by rw[HR.out.v];exact kK HX.out HC.out.1 HC.out.2.1.symm HZ.out.k.2.2.2 w55 ((H.b hb).rs 4) (RS.below hr hb))) ?_;clear H
  rintro w55 K hK H e w56 ⟨Pv1,av1,Pv2,av2,Cv,nv,kv,vv,rfl,f1,f2,f3,hn,hb⟩;replace H:=H.so hb f1 f2 f3;have Nv:=Qh hn;clear hn;refine fK ?_;clear hK K hb;refine yG ?_;clear H;intro w57 g57 hg57 H;refine yS ?_;clear H;intro w58 H;refine yN ?_;clear H G;intro u59 H;replace H:=H.d 9;replace H:=H.d 7;replace H:=H.d 6;have E:=H.el;refine zXF (tgF [g51,g45] 9 19 (.cells #[.int .i64 0,.int .i64 0,.slice none 0 0,.int .i64 0,.int .i64 0,.slice none 0 0] 82)) ?_;clear H;intro S w60 hne H;refine zD ((And.intro (H.c 2) (H.c 4))) ?_;intro G;refine fW (fun w61 (hb:Bw w60 w61)=>ot HZ.out.k.1 w61 (qS.rs (Ow.P1 ((H.b hb).p 3)))) ?_;clear H;intro w62 U1 U2 u1_ u2_ H
  intros;refine f_ (fun w63 (hb:Bw w62 w63)=>(show Calls prog 190 #[_,_,_] w63 (bo z.t.1 z.t.2 75 w63) from by rw[HR.out.t];exact kK HZ.out.q.1 (kY HZ.out.k.1).1 (by rw[HZ.out.q.2.2.1,(kY HZ.out.k.1).2.1,HZ.out.k.2.2.1]) HZ.out.v.2.2.2 w63 (qS.rs (Ow.P1 ((H.b hb).p 6))) ((H.b hb).rs 0))) ?_;clear H
  rintro w63 K hK H e w64 ⟨Pt1,at1,Pt2,at2,Ct,nt,kt,vt,rfl,f1,f2,f3,hn,hb⟩;replace H:=H.so hb f1 f2 f3;have Nt:=Qh hn;clear hn;refine fK ?_;clear hK K hb;refine yG ?_;clear H;intro w65 g65 hg65 H;refine yS ?_;clear H;intro w66 H;refine yN ?_;clear H G;intro u67 H;replace H:=H.d 7;replace H:=H.d 5;replace H:=H.d 2;refine zG ((show Calls prog 139 #[_,_,_] u67 (bo z.g.1 z.g.2 25 u67) from by rw[HR.out.g];exact dA (by omega) HZ.out.t.1 HZ.out.t.2.2.2 u67 (qS.rs (Ow.P1 (H.p 1))))) ?_
  rintro e w68 ⟨Pg1,ag1,Pg2,ag2,Cg,ng,kg,vg,rfl,f1,f2,f3,hn,hb⟩;replace H:=H.so hb f1 f2 f3;have Ng:=Qh hn;clear hn;replace H:=H.d 1;refine zN ?_;clear H;intro u69 H;have E:=H.el;refine zXF (tgF [w68.heap.size] 7 25 (.cells #[.int .i64 0,.int .i64 0,.slice none 0 0,.int .i64 0,.int .i64 0,.slice none 0 0] 82)) ?_;clear H;intro S w70 hne H;refine zD (H.c 0) ?_;intro G;refine fO (fun w71 (hb:Bw w70 w71)=>wV (ai HZ.out.g.1).1 w71 (RS.m1 (qS.rs (Ow.P1 ((H.b hb).p 1))))) ?_;clear H;intro w72 W1 w1_ H
  refine fO (fun w73 (hb:Bw w72 w73)=>wV (ai HZ.out.g.1).2.1 w73 (RS.m2 (qS.rs (Ow.P1 ((H.b hb).p 2))))) ?_;clear H;intro w74 W2 w2_ H
  refine yG ?_;clear H;intro w75 g75 hg75 H;refine yS ?_;clear H;intro w76 H;refine yN ?_;clear H G;intro u77 H;refine zG ((show Calls prog 139 #[_,_,_] u77 (bo z.m.1 z.m.2 25 u77) from by rw[HR.out.m];exact dA (by omega) (n_ HZ.out.g.1).1 HZ.out.g.2.2.2 u77 (RS.aB (p:=mi z.g.1) (H.o 2) (H.o 1)))) ?_
  rintro e w78 ⟨Pm1,am1,Pm2,am2,Cm,nm,km,vm,rfl,f1,f2,f3,hn,hb⟩;replace H:=H.so hb f1 f2 f3;have Nm:=Qh hn;clear hn;replace H:=H.d 1;refine zN ?_;clear H;intro u79 H;refine zG ((show Calls prog 193 #[_,_,_] u79 (bo z.e.1 z.e.2 50 u79) from by rw[HR.out.e];exact mK HZ.out.g.1 HZ.out.m.1 (by rw[HZ.out.m.2.1,HZ.out.g.2.1]) HZ.out.m.2.2.1 HZ.out.m.2.2.2 u79 (qS.rs (Ow.P1 (H.p 5))) (qS.rs (Ow.P1 (H.p 1))))) ?_
  rintro e w80 ⟨Pe1,ae1,Pe2,ae2,Ce,ne,ke,ve,rfl,f1,f2,f3,hn,hb⟩;replace H:=H.so hb f1 f2 f3;have Ne:=Qh hn;clear hn;replace H:=H.d 5;replace H:=H.d 1;replace H:=H.d 3;replace H:=H.d 2;refine zN ?_;clear H;intro u81 H;refine zG ((show Calls prog 139 #[_,_,_] u81 (bo z.h.1 z.h.2 25 u81) from by rw[HR.out.h];exact dA (by omega) HZ.out.e.1 HZ.out.e.2.2.2 u81 (qS.rs (Ow.P1 (H.p 1))))) ?_
  rintro e w82 ⟨Ph1,ah1,Ph2,ah2,Ch,nh,kh,vh,rfl,f1,f2,f3,hn,hb⟩;replace H:=H.so hb f1 f2 f3;have Nh:=Qh hn;clear hn;replace H:=H.d 1;refine zN ?_;clear H;intro u83 H;refine zG ((show Calls prog 190 #[_,_,_] u83 (bo z.o.1 z.o.2 75 u83) from by rw[HR.out.o];exact kK HZ.out.h.1 HZ.out.v.1 (by rw[HZ.out.h.2.2.1,HZ.out.v.2.1]) HZ.out.h.2.2.2 u83 (qS.rs (Ow.P1 (H.p 1))) (qS.rs (Ow.P1 (H.p 7))))) ?_
  rintro e w84 ⟨Po1,ao1,Po2,ao2,Co,no,ko,vo,rfl,f1,f2,f3,hn,hb⟩;replace H:=H.so hb f1 f2 f3;have No:=Qh hn;clear hn;replace H:=H.d 1;replace H:=H.d 6;replace H:=(H.r 8).zQ;refine zC ?_;intro C;intros
  go_wp2_with (at_builtin;refine zM ?_)
  clear H C;intro u85 H;replace H:=H.r 1;refine zA (OS.si (Ow.P2 (H.p 9))) ((And.intro Ne.out (And.intro Ng.out (And.intro Nh.out (And.intro Nk.out (And.intro Nm.out (And.intro No.out (And.intro Nq.out (And.intro Nt.out Nv.out))))))))) ?_;clear H;intro C0 c0_ w85 H;refine zC ?_;intro C;intros
  go_wp2_with (at_builtin;refine zM ?_)
  clear H C;intro u86 H;refine zA (OS.si (Ow.P2 (H.p 8))) ((And.intro Ne.out (And.intro Ng.out (And.intro Nh.out (And.intro Nk.out (And.intro Nm.out (And.intro No.out (And.intro Nq.out (And.intro Nt.out Nv.out))))))))) ?_;clear H;intro C1 c1_ w86 H;refine zC ?_;intro C;intros
  go_wp2_with (at_builtin;refine zM ?_)
  clear H C;intro u87 H;refine zA (OS.si (Ow.P2 (H.p 7))) ((And.intro Ne.out (And.intro Ng.out (And.intro Nh.out (And.intro Nk.out (And.intro Nm.out (And.intro No.out (And.intro Nq.out (And.intro Nt.out Nv.out))))))))) ?_;clear H;intro C2 c2_ w87 H;refine zC ?_;intro C;intros
  go_wp2_with (at_builtin;refine zM ?_)
  clear H C;intro u88 H;refine zA (OS.si (Ow.P2 (H.p 6))) ((And.intro Ne.out (And.intro Ng.out (And.intro Nh.out (And.intro Nk.out (And.intro Nm.out (And.intro No.out (And.intro Nq.out (And.intro Nt.out Nv.out))))))))) ?_;clear H;intro C3 c3_ w88 H;refine zC ?_;intro C;intros;go_wp2_with fail;refine zM ?_;clear H C;intro u89 H;refine zX (tg [w84.heap.size]) ?_;clear H;intro S w90 hne H;refine zD (H.c 1) ?_;intro G;refine yA (OS.si (Ow.P2 (H.p 5))) ((And.intro Ne.out (And.intro Ng.out (And.intro Nh.out (And.intro Nk.out (And.intro Nm.out (And.intro No.out (And.intro Nq.out (And.intro Nt.out Nv.out))))))))) ?_;clear H;intro D0 d0_ w91 H;refine yA (OS.si (Ow.P2 (H.p 4))) ((And.intro Ne.out (And.intro Ng.out (And.intro Nh.out (And.intro Nk.out (And.intro Nm.out (And.intro No.out (And.intro Nq.out (And.intro Nt.out Nv.out))))))))) ?_;clear H;intro D1 d1_ w92 H;refine yA (OS.si (Ow.P2 (H.p 3))) ((And.intro Ne.out (And.intro Ng.out (And.intro Nh.out (And.intro Nk.out (And.intro Nm.out (And.intro No.out (And.intro Nq.out (And.intro Nt.out Nv.out))))))))) ?_;clear H;intro D2 d2_ w93 H;refine yA (OS.si (Ow.P2 (H.p 2))) ((And.intro Ne.out (And.intro Ng.out (And.intro Nh.out (And.intro Nk.out (And.intro Nm.out (And.intro No.out (And.intro Nq.out (And.intro Nt.out Nv.out))))))))) ?_;clear H;intro D3 d3_ w94 H;refine yS ?_;clear H;intro w95 H;refine yN ?_;clear H G;intro u96 H;refine zS_ ?_;clear H;intro u97 H
  exact(by show bo z.o.1 z.o.2 _ _ _ _;exact⟨Po1,ao1,Po2,ao2,D3,_,d3_,_,rfl,(qS.a (Ow.P1 (H.p 2))),(qS.b (Ow.P1 (H.p 2))),(by have hC:=(H.o 0);simp only[Nat.add_assoc] at hC;exact hC),(by have:=Nq.out;have:=Nk.out;have:=Nv.out;have:=Nt.out;have:=Ng.out;have:=Nm.out;have:=Ne.out;have:=Nh.out;have:=No.out;omega),H.O⟩)
end
section
attribute [local go_sem] af ah ae
theorem bo.le {p:Mx×Mx} {s:Int} {N M:Nat} (h:N<=M) {w:World} {e:Ending} {w':World} (k:bo p s N w e w'):bo p s M w e w':=by
 obtain⟨A,c,B,d,C,n,q,v,e,f1,f2,f3,hn,hb⟩:=k
 exact⟨A,c,B,d,C,n,q,v,e,f1,f2,f3,by omega,hb⟩
theorem yk {a b:Mx×Mx} {z y:(Mx×Mx)×Int} (hf:okS a=true/\okS b=true/\a.1.c=z.1.1.r/\b.1.r=a.1.r/\b.1.c=1) (hs:sdB z.2=true) (hz:okS z.1=true) {A:Option Addr} {c:Nat} {F:List Nat} {x:Value} (w:World) (hl:RI smE w A 2 c [a,b] F) (hx:RS w x z.1) (hy:y=ec a b z.1 z.2) :
  Calls prog 97 #[.agg #[.int .i64 1,.slice A 2 c],x,.int .i64 z.2] w (bo y.1 y.2 500 w):=by
 obtain⟨ab,ao,_,_,rfl,hbl,-⟩:=RI.at hl (i:=0) (x:=a) rfl;have HBL:=Qh hbl;clear hbl;have HHX:=Qh hx;obtain⟨A1,A2,p1,p2,rfl,-⟩:=hx;have HS:=Qh hs;have HZ:=Qh hz;have HL:=Qh hl;have HY:=Qh hy;have HF:=Qh hf;clear hs hz hl hy hf;refine zE ?_;intro u1 H;have hab:=HBL.out;have ezb:=Nat.lt_of_lt_of_le hab H.m;refine zX (tg [w.heap.size+1,w.heap.size,ab]) ?_;clear H;intro S w2 hne H;refine zD ((And.intro (H.c 1) (H.c 2))) ?_;intro G;obtain⟨D0,d0,E0,e0,he,hr0⟩:=sm_at (RI.below HL.out H.O) (i:=0) (p:=a) rfl rfl;simp only[Nat.zero_mul,Nat.add_zero,Nat.one_mul,Nat.reduceMul] at he;have rx0:=an6 (H.row he.1) (H.row he.2.1) (H.row he.2.2.1) (H.row he.2.2.2.1) (H.row he.2.2.2.2.1) (H.row he.2.2.2.2.2);clear he;obtain⟨D1,d1,E1,e1,he,hr1⟩:=sm_at (RI.below HL.out H.O) (i:=1) (p:=b) rfl rfl;simp only[Nat.zero_mul,Nat.add_zero,Nat.one_mul,Nat.reduceMul] at he;have rx1:=an6 (H.row he.1) (H.row he.2.1) (H.row he.2.2.1) (H.row he.2.2.2.1) (H.row he.2.2.2.2.1) (H.row he.2.2.2.2.2);clear he;intros;refine y_ ((show Calls prog 138 _ w2 (bo y.1 y.2 75 w2) from by rw[HY.out];exact mM HF.out.1 HF.out.2.1 HZ.out HF.out.2.2.1 HF.out.2.2.2.1 HF.out.2.2.2.2 HS.out w2 hr0 hr1 (RS.below HHX.out H.O))) ?_
 rintro K hK e w3 ⟨PA,pa,PB,pb,C,n,kk,v,rfl,f1,f2,f3,hn,hb⟩;replace H:=H.so hb f1 f2 f3;have HN:=Qh hn;clear hn;refine yK ?_;clear hK K;refine yS ?_;clear H;intro w4 H;refine yN ?_;clear H G;intro u5 H;refine zS_ ?_;clear H;intro u6 H
 exact⟨PA,pa,PB,pb,C,n,kk,v,rfl,(qS.a (Ow.P1 (H.p 0))),(qS.b (Ow.P1 (H.p 0))),(Ow.P2 (H.p 0)),by have:=HN.out;omega,H.O⟩
theorem yl {_u:Mx×Mx} {z y:(Mx×Mx)×Int}  (hs:sdB z.2=true) (hz:okS z.1=true) {A:Option Addr} {c:Nat} {F:List Nat} {x:Value} (w:World) (hl:RI smE w A 0 c [] F) (hx:RS w x z.1) (hy:y=dv (fnv 2) z.1 z.2) :
  Calls prog 97 #[.agg #[.int .i64 2,.slice A 0 c],x,.int .i64 z.2] w (bo y.1 y.2 500 w):=by
 have HHX:=Qh hx;obtain⟨A1,A2,p1,p2,rfl,-⟩:=hx;have HS:=Qh hs;have HZ:=Qh hz;have HL:=Qh hl;have HY:=Qh hy;clear hs hz hl hy;refine zE ?_;intro u1 H;refine zG ((show Calls prog 139 _ u1 (bo y.1 y.2 25 u1) from by rw[HY.out];exact dA (by omega) HZ.out HS.out u1 (RS.below HHX.out H.O))) ?_
 rintro e w2 ⟨PA,pa,PB,pb,C,n,kk,v,rfl,f1,f2,f3,hn,hb⟩;replace H:=H.so hb f1 f2 f3;have HN:=Qh hn;clear hn;refine zS_ ?_;clear H;intro u3 H
 exact⟨PA,pa,PB,pb,C,n,kk,v,rfl,(qS.a (Ow.P1 (H.p 0))),(qS.b (Ow.P1 (H.p 0))),(Ow.P2 (H.p 0)),by have:=HN.out;omega,H.O⟩
theorem ym {a b t:Mx×Mx} {z y:(Mx×Mx)×Int} (hf:okS a=true/\okS b=true/\okS t=true/\a.1.r=z.1.1.c/\a.1.c=z.1.1.c/\b.1.r=z.1.1.c/\b.1.c=z.1.1.c/\t.1.r=z.1.1.c/\t.1.c=z.1.1.c) (hs:sdB z.2=true) (hz:okS z.1=true) {A:Option Addr} {c:Nat} {F:List Nat} {x:Value} (w:World) (hl:RI smE w A 3 c [a,b,t] F) (hx:RS w x z.1) (hy:y=nR a b t z.1 z.2) :
  Calls prog 97 #[.agg #[.int .i64 3,.slice A 3 c],x,.int .i64 z.2] w (bo y.1 y.2 500 w):=by
 obtain⟨ab,ao,_,_,rfl,hbl,-⟩:=RI.at hl (i:=0) (x:=a) rfl;have HBL:=Qh hbl;clear hbl;have HHX:=Qh hx;obtain⟨A1,A2,p1,p2,rfl,-⟩:=hx;have HS:=Qh hs;have HZ:=Qh hz;have HL:=Qh hl;have HY:=Qh hy;have HF:=Qh hf;clear hs hz hl hy hf;refine zE ?_;intro u1 H;refine zG ((show Calls prog 140 _ u1 (bo y.1 y.2 500 u1) from by rw[HY.out];exact DY HF.out.1 HF.out.2.1 HF.out.2.2.1 HZ.out HF.out.2.2.2.1 HF.out.2.2.2.2.1 HF.out.2.2.2.2.2.1 HF.out.2.2.2.2.2.2.1 HF.out.2.2.2.2.2.2.2.1 HF.out.2.2.2.2.2.2.2.2 HS.out u1 (RI.below HL.out H.O) (RS.below HHX.out H.O))) ?_
 rintro e w2 ⟨PA,pa,PB,pb,C,n,kk,v,rfl,f1,f2,f3,hn,hb⟩;replace H:=H.so hb f1 f2 f3;have HN:=Qh hn;clear hn;refine zS_ ?_;clear H;intro u3 H
 exact⟨PA,pa,PB,pb,C,n,kk,v,rfl,(qS.a (Ow.P1 (H.p 0))),(qS.b (Ow.P1 (H.p 0))),(Ow.P2 (H.p 0)),by have:=HN.out;omega,H.O⟩
theorem qC {l:SL} (hb:aL l.1 (l.2.map aq)=true) {z:(Mx×Mx)×Int} {r c:Int} (hz:OKD z r c) {rc':Int×Int} (e:dr (df l) (r,c)=some rc') {A:Option Addr} {cap:Nat} {F:List Nat} {x:Value} (w:World) (hl:RI smE w A l.2.length cap l.2 F) (hx:RS w x z.1) :
  Calls prog 97 #[.agg #[.int .i64 l.1,.slice A l.2.length cap],x,.int .i64 z.2] w (bo (jm l z).1 (jm l z).2 500 w):=by
 rcases sD hb hz e with⟨a,b,rfl,hf,hL⟩|⟨rfl,hL⟩|⟨a,b,t,rfl,hf,hL⟩
 ·exact yk hf hz.2.2.2 hz.1 w hl hx hL
 ·exact yl (_u:=z.1) hz.2.2.2 hz.1 w hl hx hL
 ·exact ym hf hz.2.2.2 hz.1 w hl hx hL
end
section
attribute [local go_sem] af ah ae
theorem ts {a q:Mx} {r c:Int} (hb:aL 1 [a,q]=true) (hq:(a.c == r)=true) {A:Option Addr} {cap:Nat} {F:List Nat} (w:World) (hx:RI mxE w A 2 cap [a,q] F) (hms:∀ m,m∈([a,q]:List Mx)->mS m) :
  Calls prog 100 #[.agg #[.int .i64 1,.slice A 2 cap],.int .i64 r,.int .i64 c] w (fun e w'=>e= .returned (.tuple #[.int .i64 a.r,.int .i64 c])/\Below w.heap.size w w'):=by
 obtain⟨b,off,cs,F1,rfl,hbl,hc',_,P1,q1,rfl,hp1⟩:=hx.cells (i:=0) (x:=a) rfl 3 rfl;have HC0:Hid (w.cell? ⟨b,off,none⟩=some (.int .i64 a.r)):=by have:=hc' 0 (by omega);show _=_;simpa using this
 have HC1:Hid (w.cell? ⟨b,off+1,none⟩=some (.int .i64 a.c)):=by have:=hc' 1 (by omega);show _=_;simpa using this
 have HBL:=Qh hbl;clear hbl hc' hp1;have HLB:=Qh hb;have HMS:=Qh hms;have HX:=Qh hx;clear hb hms hx;refine zE ?_;intro u1 H;refine zG ((by have h:=dx 1 (some ⟨b,off,none⟩) 2 cap [a,q] F u1 (RI.below HX.out H.O) HMS.out (by omega);rw[HLB.out] at h;exact h:Calls prog 90 _ u1 (fun e w'=>e= .returned (.bool true)/\Below u1.heap.size u1 w'))) ?_
 rintro e w2 ⟨rfl,hb⟩;replace H:=H.b hb;have c0:=(H.O.cell (p:=⟨b,off,none⟩) HBL.out).trans HC0.out;have c1:=(H.O.cell (p:=⟨b,off+1,none⟩) HBL.out).trans HC1.out;refine zR ?_;clear H;intro u3 H
 exact⟨rfl,H.O⟩
theorem tr {a q:Mx} {r c:Int} (hb:aL 1 [a,q]=true) (hq:(a.c == r)=false) {A:Option Addr} {cap:Nat} {F:List Nat} (w:World) (hx:RI mxE w A 2 cap [a,q] F) (hms:∀ m,m∈([a,q]:List Mx)->mS m) :
  Calls prog 100 #[.agg #[.int .i64 1,.slice A 2 cap],.int .i64 r,.int .i64 c] w (fun e w'=>e= .returned (.tuple #[.int .i64 0,.int .i64 0])/\Below w.heap.size w w'):=by
 obtain⟨b,off,cs,F1,rfl,hbl,hc',_,P1,q1,rfl,hp1⟩:=hx.cells (i:=0) (x:=a) rfl 3 rfl;have HC0:Hid (w.cell? ⟨b,off,none⟩=some (.int .i64 a.r)):=by have:=hc' 0 (by omega);show _=_;simpa using this
 have HC1:Hid (w.cell? ⟨b,off+1,none⟩=some (.int .i64 a.c)):=by have:=hc' 1 (by omega);show _=_;simpa using this
 have HBL:=Qh hbl;clear hbl hc' hp1;have HLB:=Qh hb;have HMS:=Qh hms;have HX:=Qh hx;clear hb hms hx;refine zE ?_;intro u1 H;refine zG ((by have h:=dx 1 (some ⟨b,off,none⟩) 2 cap [a,q] F u1 (RI.below HX.out H.O) HMS.out (by omega);rw[HLB.out] at h;exact h:Calls prog 90 _ u1 (fun e w'=>e= .returned (.bool true)/\Below u1.heap.size u1 w'))) ?_
 rintro e w2 ⟨rfl,hb⟩;replace H:=H.b hb;have c0:=(H.O.cell (p:=⟨b,off,none⟩) HBL.out).trans HC0.out;have c1:=(H.O.cell (p:=⟨b,off+1,none⟩) HBL.out).trans HC1.out;refine zR ?_;clear H;intro u3 H
 exact⟨rfl,H.O⟩
theorem vn {_u:Mx} {r c:Int} (hb:aL 2 []=true)  {A:Option Addr} {cap:Nat} {F:List Nat} (w:World) (hx:RI mxE w A 0 cap [] F) (hms:∀ m,m∈([]:List Mx)->mS m) :
  Calls prog 100 #[.agg #[.int .i64 2,.slice A 0 cap],.int .i64 r,.int .i64 c] w (fun e w'=>e= .returned (.tuple #[.int .i64 r,.int .i64 c])/\Below w.heap.size w w'):=by
 have HLB:=Qh hb;have HMS:=Qh hms;have HX:=Qh hx;clear hb hms hx;refine zE ?_;intro u1 H;refine zB ((by have h:=dx 2 A 0 cap [] F u1 (RI.below HX.out H.O) HMS.out (by omega);rw[HLB.out] at h;exact h:Calls prog 90 _ u1 (fun e w'=>e= .returned (.bool true)/\Below u1.heap.size u1 w'))) ?_;clear H;intro w2 u2 H
 refine zR ?_;clear H;intro u3 H
 exact⟨rfl,H.O⟩
theorem tv {a q t:Mx} {r c:Int} (hb:aL 3 [a,q,t]=true) (hq:(a.r == c)=true) {A:Option Addr} {cap:Nat} {F:List Nat} (w:World) (hx:RI mxE w A 3 cap [a,q,t] F) (hms:∀ m,m∈([a,q,t]:List Mx)->mS m) :
  Calls prog 100 #[.agg #[.int .i64 3,.slice A 3 cap],.int .i64 r,.int .i64 c] w (fun e w'=>e= .returned (.tuple #[.int .i64 r,.int .i64 c])/\Below w.heap.size w w'):=by
 obtain⟨b,off,cs,F1,rfl,hbl,hc',_,P1,q1,rfl,hp1⟩:=hx.cells (i:=0) (x:=a) rfl 3 rfl;have HC0:Hid (w.cell? ⟨b,off,none⟩=some (.int .i64 a.r)):=by have:=hc' 0 (by omega);show _=_;simpa using this
 have HC1:Hid (w.cell? ⟨b,off+1,none⟩=some (.int .i64 a.c)):=by have:=hc' 1 (by omega);show _=_;simpa using this
 have HBL:=Qh hbl;clear hbl hc' hp1;have HLB:=Qh hb;have HMS:=Qh hms;have HX:=Qh hx;clear hb hms hx;refine zE ?_;intro u1 H;refine zG ((by have h:=dx 3 (some ⟨b,off,none⟩) 3 cap [a,q,t] F u1 (RI.below HX.out H.O) HMS.out (by omega);rw[HLB.out] at h;exact h:Calls prog 90 _ u1 (fun e w'=>e= .returned (.bool true)/\Below u1.heap.size u1 w'))) ?_
 rintro e w2 ⟨rfl,hb⟩;replace H:=H.b hb;have c0:=(H.O.cell (p:=⟨b,off,none⟩) HBL.out).trans HC0.out;have c1:=(H.O.cell (p:=⟨b,off+1,none⟩) HBL.out).trans HC1.out;refine zR ?_;clear H;intro u3 H
 exact⟨rfl,H.O⟩
theorem tu {a q t:Mx} {r c:Int} (hb:aL 3 [a,q,t]=true) (hq:(a.r == c)=false) {A:Option Addr} {cap:Nat} {F:List Nat} (w:World) (hx:RI mxE w A 3 cap [a,q,t] F) (hms:∀ m,m∈([a,q,t]:List Mx)->mS m) :
  Calls prog 100 #[.agg #[.int .i64 3,.slice A 3 cap],.int .i64 r,.int .i64 c] w (fun e w'=>e= .returned (.tuple #[.int .i64 0,.int .i64 0])/\Below w.heap.size w w'):=by
 obtain⟨b,off,cs,F1,rfl,hbl,hc',_,P1,q1,rfl,hp1⟩:=hx.cells (i:=0) (x:=a) rfl 3 rfl;have HC0:Hid (w.cell? ⟨b,off,none⟩=some (.int .i64 a.r)):=by have:=hc' 0 (by omega);show _=_;simpa using this
 have HC1:Hid (w.cell? ⟨b,off+1,none⟩=some (.int .i64 a.c)):=by have:=hc' 1 (by omega);show _=_;simpa using this
 have HBL:=Qh hbl;clear hbl hc' hp1;have HLB:=Qh hb;have HMS:=Qh hms;have HX:=Qh hx;clear hb hms hx;refine zE ?_;intro u1 H;refine zG ((by have h:=dx 3 (some ⟨b,off,none⟩) 3 cap [a,q,t] F u1 (RI.below HX.out H.O) HMS.out (by omega);rw[HLB.out] at h;exact h:Calls prog 90 _ u1 (fun e w'=>e= .returned (.bool true)/\Below u1.heap.size u1 w'))) ?_
 rintro e w2 ⟨rfl,hb⟩;replace H:=H.b hb;have c0:=(H.O.cell (p:=⟨b,off,none⟩) HBL.out).trans HC0.out;have c1:=(H.O.cell (p:=⟨b,off+1,none⟩) HBL.out).trans HC1.out;refine zR ?_;clear H;intro u3 H
 exact⟨rfl,H.O⟩
theorem kO {l:PL} (hb:aL l.1 l.2=true) {r c:Int} {A:Option Addr} {cap:Nat} {F:List Nat} (w:World) (hx:RI mxE w A l.2.length cap l.2 F) (hms:∀ m,m∈l.2->mS m) :
  Calls prog 100 #[.agg #[.int .i64 l.1,.slice A l.2.length cap],.int .i64 r,.int .i64 c] w (fun e w'=>e= .returned (.tuple #[.int .i64 ((dr l (r,c)).getD (0,0)).1,.int .i64 ((dr l (r,c)).getD (0,0)).2])/\Below w.heap.size w w'):=by
 obtain⟨k,ms⟩:=l;rcases eM hb with⟨h1,a,b,h2,_⟩|⟨h1,h2⟩|⟨h1,a,b,t,h2,_⟩
 ·dsimp only at h1 h2 hx hms ⊢
  subst h1 h2
  by_cases hq:a.c=r
  ·have e:dr (1,[a,b]) (r,c)=some (a.r,c):=if_pos hq;rw[e]
   exact ts hb (by rw[hq];simp) w hx hms
  ·have e:dr (1,[a,b]) (r,c)=none:=if_neg hq;rw[e]
   exact tr hb (by simpa using hq) w hx hms
 ·dsimp only at h1 h2 hx hms ⊢
  subst h1 h2
  exact vn (_u:=Mx.z) hb w hx hms
 ·dsimp only at h1 h2 hx hms ⊢
  subst h1 h2
  by_cases hq:a.r=c
  ·have e:dr (3,[a,b,t]) (r,c)=some (r,c):=if_pos hq;rw[e]
   exact tv hb (by rw[hq];simp) w hx hms
  ·have e:dr (3,[a,b,t]) (r,c)=none:=if_neg hq;rw[e]
   exact tu hb (by simpa using hq) w hx hms
theorem vp {l:PL} (hb:aL l.1 l.2=true) {r c:Int} (hr:side r=true) (hc:side c=true) {rc:Int×Int} (e:dr l (r,c)=some rc):side rc.1=true/\side rc.2=true:=by
 obtain⟨k,ms⟩:=l;rcases eM hb with⟨h1,a,b,h2,ha,_⟩|⟨h1,h2⟩|⟨h1,a,b,t,h2,_⟩
 ·dsimp only at h1 h2
  subst h1 h2
  by_cases hq:a.c=r
  ·have e':dr (1,[a,b]) (r,c)=some (a.r,c):=if_pos hq;rw[e'] at e;injection e with e;subst e
   exact⟨(aA ha).1,hc⟩
  ·have e':dr (1,[a,b]) (r,c)=none:=if_neg hq;rw[e'] at e;cases e
 ·dsimp only at h1 h2
  subst h1 h2;injection e with e;subst e;exact⟨hr,hc⟩
 ·dsimp only at h1 h2
  subst h1 h2
  by_cases hq:a.r=c
  ·have e':dr (3,[a,b,t]) (r,c)=some (r,c):=if_pos hq;rw[e'] at e;injection e with e;subst e;exact⟨hr,hc⟩
  ·have e':dr (3,[a,b,t]) (r,c)=none:=if_neg hq;rw[e'] at e;cases e
theorem eB {net:List PL} (hv:tb net) {A:Option Addr} {cap:Nat} {F:List Nat} {r c:Int} (hr:side r=true) (hc:side c=true) (w:World) (hx:RI (kE mxE) w A net.length cap net F) (hms:∀ l,l∈net->∀ m,m∈l.2->mS m) :
  Calls prog 49 #[.slice A net.length cap,.int .i64 r,.int .i64 c] w (NSd (bE net (some (r,c))).isSome w):=by
 have HV:=Qh hv;have HX:=Qh hx;have HMS:=Qh hms;have HR:=Qh hr;have HC:=Qh hc;clear hv hx hms hr hc;have n4:(net.length:Int)<=4:=by have:=HV.out.1;omega
 refine zE ?_;intro u1 H;refine zP (aT _ HR.out u1) ?_;clear H;intro u2 H;refine zP (aT _ HC.out u2) ?_;clear H;intro u3 H
 go_wp2_with fail
 intros
 go_loopw [1,2,9] (fun s1 s2 i wr=>∃ (j:Nat) (rr cc:Int),j<=net.length/\i= .int .i64 j/\s1= .int .i64 rr/\s2= .int .i64 cc/\Hid (bE (net.take j) (some (r,c))=some (rr,cc)/\side rr=true/\side cc=true)/\Hid (Hq w [] wr)) (fun _ _ i _=>net.length-(intOf i).toNat)
 case atStart=>exact⟨0,r,c,Nat.zero_le _,rfl,rfl,rfl,⟨rfl,HR.out,HC.out⟩,H⟩
 case round =>
 clear H;obtain⟨j,rr,cc,hj,rfl,rfl,rfl,hz,H⟩:=hrel;have H:=H.out
 by_cases hlt:j<net.length
 ·obtain⟨l,hlj,hmem⟩:=aH hlt;have HLJ:=Qh hlj;have HLB:=Qh (HV.out.2 l hmem);have HEM:=Qh (HMS.out l hmem);obtain⟨b,off,cs,F1,rfl,hbl,hc',_,A2,c2,rfl,he⟩:=HX.out.cells hlj 2 rfl;have HD0:Hid (w.cell? ⟨b,off+j*2,none⟩=some (.int .i64 l.1)):=hc' 0 (by omega)
  have HD1:Hid (w.cell? ⟨b,off+j*2+1,none⟩=some (.slice A2 l.2.length c2)):=hc' 1 (by omega)
  have HBL:=Qh hbl;have HE:=Qh he;have j0:(0:Int)<=(j:Int):=by omega
  have j1:(j:Int)<(net.length:Int):=by omega
  clear hlj hmem hbl hc' he;have d0:=(H.O.cell (p:=⟨b,off+j*2,none⟩) HBL.out).trans HD0.out;have d1:=(H.O.cell (p:=⟨b,off+j*2+1,none⟩) HBL.out).trans HD1.out;refine zN ?_;clear H;intro u21 H;refine zG (kO HLB.out u21 (RI.below HE.out H.O) HEM.out) ?_;rintro e w22 ⟨rfl,hb⟩;replace H:=H.b hb;clear hb;obtain⟨x,hx⟩:∃ x,x=dr l (rr,cc):=⟨_,rfl⟩;rw[<-hx]
  cases x with
  | none =>
   have HN:Hid ((bE net (some (r,c))).isSome=false):=by show _=_;rw[gJ (j:=j+1) (by rw[eh HLJ.out,hz.out.1];exact hx.symm)];rfl
   clear hx
   dsimp only[Option.getD]
   intros;go_wp2
   (try simp only[Exit.inBlock,Exit.then])
   exact bodyPost_ret (v:= .tuple #[.int .i64 0,.int .i64 0,.bool false]) (by simp[results,results49,go_sem]) rfl (by rw[HN.out];exact⟨_,_,rfl,H.O⟩)
  | some rc =>
   obtain⟨r',c'⟩:=rc;have hs:=vp HLB.out hz.out.2.1 hz.out.2.2 hx.symm;have HZ:Hid (bE (net.take (j+1)) (some (r,c))=some (r',c')/\side r'=true/\side c'=true):=⟨by rw[eh HLJ.out,hz.out.1];exact hx.symm,hs⟩
   have hr0:(r' == 0)=false:=by have:=bI hs.1;simp;omega
   clear hx hs hz
   dsimp only[Option.getD]
   intros;go_wp2
   go_roundw
   case rel=>exact⟨j+1,r',c',by omega,by go_num,rfl,rfl,HZ,H⟩
   case measure=>simp[intOf];omega
 ·have hjn:j=net.length:=by omega
  have HN:Hid ((bE net (some (r,c))).isSome=true):=by show _=_;have h:=hz.out.1;rw[hjn,List.take_length] at h;rw[h];rfl
  go_wp2
  (try simp only[Exit.inBlock,Exit.then])
  exact bodyPost_ret (v:= .tuple #[.int .i64 rr,.int .i64 cc,.bool true]) (by simp[results,results49,go_sem]) rfl (by rw[HN.out];exact⟨_,_,rfl,H.O⟩)
end
end Go.Proofs.YtjciicheoghcdaaGreatDoor

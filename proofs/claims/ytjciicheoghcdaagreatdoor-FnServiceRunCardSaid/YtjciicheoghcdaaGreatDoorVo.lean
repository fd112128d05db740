/- Part of the proof: the law FnServiceRun is true for every input. -/
import Derived.Test.YtjciicheoghcdaaGreatDoorVl
import Derived.Test.YtjciicheoghcdaaGreatDoorVm
import Derived.Test.YtjciicheoghcdaaGreatDoorVn
namespace Go.Proofs.YtjciicheoghcdaaGreatDoor
open Go.RowKit Go.Proofs.Tryz
set_option linter.all false
set_option maxRecDepth 20000
set_option maxHeartbeats 16000000
section
attribute [local go_sem] af ah ae
theorem Al {f m1 m2:Mx} (h1:az f m1=true) (h2:az (aE aJ f m1) m2=true) {A0 A1 A2:Option Addr} {c0 c1 c2 gO:Nat} (w:World) (hf:RM w (MV f.r f.c A0 f.v.length c0) f) (k1:RM w (MV m1.r m1.c A1 m1.v.length c1) m1) (k2:RM w (MV m2.r m2.c A2 m2.v.length c2) m2) (hO:Blk w gO 37 #[.int .i64 m1.r,.int .i64 m1.c,.slice A1 m1.v.length c1,.int .i64 m2.r,.int .i64 m2.c,.slice A2 m2.v.length c2]) :
  Calls prog 295 #[MV f.r f.c A0 f.v.length c0,.slice (some ⟨gO,0,none⟩) 2 2] w (bD (aE aJ (aE aJ f m1) m2) w):=by
 have HF:=Qh hf;have H1:=Qh h1;have H2:=Qh h2;have K1:=Qh k1;have K2:=Qh k2;clear hf h1 h2 k1 k2;refine zD hO.el ?_;intro Z
 go_in;have H:=Hq.start w
 go_wp2_with fail
 refine wp_loop_rounds 3 ?_;rw[rounds_succ];refine zM ?_;clear H;intro u1 H;refine zN ?_;clear H;intro u2 H;refine zG (rp H1.out u2 (RM.below HF.out H.O) (RM.below K1.out H.O)) ?_;rintro e w3 ⟨P1,p1,rfl,hos,hb⟩;replace H:=H.os hb hos;clear hb;refine zC ?_;intro C;intros
 go_wp2_with fail
 rw[rounds_succ];refine zM ?_;clear H C;intro u4 H;refine zN ?_;clear H;intro u5 H;refine zG (rp H2.out u5 (RM.aB (H.o 1)) (RM.below K2.out H.O)) ?_;rintro e w6 ⟨P2,p2,rfl,hos,hb⟩;replace H:=H.os hb hos;clear hb;refine zC ?_;intro C;intros
 go_wp2_with fail
 rw[rounds_succ];refine zM ?_;clear H C;intro u7 H;refine zS_ ?_;clear H;intro u8 H
 exact⟨P2,p2,rfl,(H.o 0),H.O⟩
theorem An {f m1 m2 m3:Mx} (h1:az f m1=true) (h2:az (aE aJ f m1) m2=true) (h3:az (aE aJ (aE aJ f m1) m2) m3=true) {A0 A1 A2 A3:Option Addr} {c0 c1 c2 c3 gO:Nat} (w:World) (hf:RM w (MV f.r f.c A0 f.v.length c0) f) (k1:RM w (MV m1.r m1.c A1 m1.v.length c1) m1) (k2:RM w (MV m2.r m2.c A2 m2.v.length c2) m2) (k3:RM w (MV m3.r m3.c A3 m3.v.length c3) m3) (hO:Blk w gO 37 #[.int .i64 m1.r,.int .i64 m1.c,.slice A1 m1.v.length c1,.int .i64 m2.r,.int .i64 m2.c,.slice A2 m2.v.length c2,.int .i64 m3.r,.int .i64 m3.c,.slice A3 m3.v.length c3]) :
  Calls prog 295 #[MV f.r f.c A0 f.v.length c0,.slice (some ⟨gO,0,none⟩) 3 3] w (bD (aE aJ (aE aJ (aE aJ f m1) m2) m3) w):=by
 have HF:=Qh hf;have H1:=Qh h1;have H2:=Qh h2;have H3:=Qh h3;have K1:=Qh k1;have K2:=Qh k2;have K3:=Qh k3;clear hf h1 h2 h3 k1 k2 k3;refine zD hO.el ?_;intro Z
 go_in;have H:=Hq.start w
 go_wp2_with fail
 refine wp_loop_rounds 4 ?_;rw[rounds_succ];refine zM ?_;clear H;intro u1 H;refine zN ?_;clear H;intro u2 H;refine zG (rp H1.out u2 (RM.below HF.out H.O) (RM.below K1.out H.O)) ?_;rintro e w3 ⟨P1,p1,rfl,hos,hb⟩;replace H:=H.os hb hos;clear hb;refine zC ?_;intro C;intros
 go_wp2_with fail
 rw[rounds_succ];refine zM ?_;clear H C;intro u4 H;refine zN ?_;clear H;intro u5 H;refine zG (rp H2.out u5 (RM.aB (H.o 1)) (RM.below K2.out H.O)) ?_;rintro e w6 ⟨P2,p2,rfl,hos,hb⟩;replace H:=H.os hb hos;clear hb;refine zC ?_;intro C;intros
 go_wp2_with fail
 rw[rounds_succ];refine zM ?_;clear H C;intro u7 H;refine zN ?_;clear H;intro u8 H;refine zG (rp H3.out u8 (RM.aB (H.o 1)) (RM.below K3.out H.O)) ?_;rintro e w9 ⟨P3,p3,rfl,hos,hb⟩;replace H:=H.os hb hos;clear hb;refine zC ?_;intro C;intros
 go_wp2_with fail
 rw[rounds_succ];refine zM ?_;clear H C;intro u10 H;refine zS_ ?_;clear H;intro u11 H
 exact⟨P3,p3,rfl,(H.o 0),H.O⟩
def vz (x y:Mx×Mx) (t:MTr) (w:World) (e:Ending) (w':World):Prop:=∃ A B D E c1 c2 d e',e= .returned (.tuple #[SMV (dw x y t).r (dw x y t).c A (dw x y t).v.length c1 (dF x y t).r (dF x y t).c B (dF x y t).v.length c2,MV (pD x t).r (pD x t).c D (pD x t).v.length d,MV (pE y t).r (pE y t).c E (pE y t).v.length e',.bool true])/\OS w' w.heap.size A (dw x y t).v.length c1 (dw x y t).v/\OS w' w.heap.size B (dF x y t).v.length c2 (dF x y t).v/\OS w' w.heap.size D (pD x t).v.length d (pD x t).v/\OS w' w.heap.size E (pE y t).v.length e' (pE y t).v/\Below w.heap.size w w'
theorem RS.fst {w:World} {p:Mx×Mx} {r r' c c':Int} {A B:Option Addr} {n a m b:Nat} (h:RS w (SMV r c A n a r' c' B m b) p):RM w (MV r c A n a) p.1/\RM w (MV r' c' B m b) p.2:=by
 obtain⟨A',B',a',b',e,h1,h2,h3,h4,h5,h6⟩:=h;injection e with e;injection e with e;simp only[List.cons.injEq,Value.int.injEq,Value.slice.injEq,true_and,and_true] at e;obtain⟨rfl,rfl,⟨rfl,rfl,rfl⟩,rfl,rfl,rfl,rfl,rfl⟩:=e
 exact⟨RM.mk h1 h2 h3,RM.mk h4 h5 h6⟩
theorem iy {x y:Mx×Mx} {t:MTr} (hP:POK x y t) {u v z:Value} (w:World) (hx:RS w u x) (hy:RS w v y) (ht:RT w z t.a t.b t.c):Calls prog 281 #[u,v,z] w (vz x y t w):=by
 obtain⟨X1,X2,x1,x2,rfl,a1,a2,a3,a4,a5,a6⟩:=hx;obtain⟨Y1,Y2,y1,y2,rfl,b1,b2,b3,b4,b5,b6⟩:=hy;have hT:=ht;obtain⟨TA1,TA2,TB1,TB2,TC1,TC2,p1,p2,q1,q2,r1,r2,rfl,ha,hb,hc⟩:=ht;have hX:=RS.mk a1 a2 a3 a4 a5 a6;have hX1:=RM.mk a1 a2 a3;have hY:=RS.mk b1 b2 b3 b4 b5 b6;have hY1:=RM.mk b1 b2 b3;obtain⟨hA1,hA2⟩:=ha.fst;obtain⟨hB1,hB2⟩:=hb.fst;obtain⟨hC1,hC2⟩:=hc.fst;have hA:=ha;have hB:=hb;clear a1 a2 a3 a4 a5 a6 b1 b2 b3 b4 b5 b6 ha hb hc;have HP:=Qh hP;have HT:=Qh hT;have HX:=Qh hX;have HX1:=Qh hX1;have HY:=Qh hY;have HY1:=Qh hY1;have HA:=Qh hA;have HB:=Qh hB;have HA1:=Qh hA1;have HA2:=Qh hA2;have HB1:=Qh hB1;have HB2:=Qh hB2;have HC1:=Qh hC1;have HC2:=Qh hC2;clear hP hT hX hX1 hY hY1 hA hB hA1 hA2 hB1 hB2 hC1 hC2;unfold MTV;refine zE ?_;intro u1 H;refine zB (gC HP.out.ox u1 (RS.below HX.out H.O)) ?_;clear H;intro w2 u2 H;refine zG (gC HP.out.oy u2 (RS.below HY.out H.O)) ?_;rintro e w3 ⟨rfl,hb⟩;replace H:=H.b hb;clear hb;refine zC ?_;intro C;intros
 go_wp2_with (with_reducible refine lT 244 rfl ?_)
 refine zM ?_;clear H C;intro u4 H;intros;refine Qh ?_;refine b_ (by rfl) rfl rfl (H.k 3) underlying244 rfl (by kernel_rfl) ?_
 refine zN ?_;clear H;intro u5 H;refine zB (iw HP.out.tk u5 (RT.below HT.out H.O)) ?_;clear H;intro w6 u6 H;refine zB (sZ HP.out.ar HP.out.ac u6 (RM.below HX1.out H.O) (RM.below HA1.out H.O)) ?_;clear H;intro w7 u7 H;refine zB (sZ HP.out.br HP.out.bc u7 (RM.below HY1.out H.O) (RM.below HB1.out H.O)) ?_;clear H;intro w8 u8 H;have E:=H.el;refine zXF (tgF [w.heap.size+2,w.heap.size] 6 10 (.cells #[.int .i64 0,.int .i64 0,.slice none 0 0] 37)) ?_;clear H;intro S w9 hne H;refine zD ((And.intro (H.c 3) (H.c 5))) ?_;intro G;refine fO (fun w10 (hb:Bw w9 w10)=>iJ HP.out.ox w10 (RS.below HX.out (H.b hb).O)) ?_;clear H;intro w11 Q1 cQ1 H
 refine fO (fun w12 (hb:Bw w11 w12)=>iJ HP.out.tk.va w12 (RS.below HA.out (H.b hb).O)) ?_;clear H;intro w13 Q2 cQ2 H
 refine fO (fun w14 (hb:Bw w13 w14)=>(show Calls prog 168 #[_,_] w14 (bD (pD x t) w14) from tY HP.out.ld w14 (RM.aB ((H.b hb).o 1)) (RM.aB ((H.b hb).o 0)))) ?_;clear H;intro w15 D1 cD1 H
 refine yG ?_;clear H;intro w16 g16 hg16 H;refine yS ?_;clear H;intro w17 H;refine yN ?_;clear H G;intro u18 H;replace H:=H.d 3;replace H:=H.d 2;have E:=H.el;refine zXF (tgF [w.heap.size+2,w.heap.size+1] 6 11 (.cells #[.int .i64 0,.int .i64 0,.slice none 0 0] 37)) ?_;clear H;intro S w19 hne H;refine zD ((And.intro (H.c 5) (H.c 6))) ?_;intro G;refine fO (fun w20 (hb:Bw w19 w20)=>iJ HP.out.oy w20 (RS.below HY.out (H.b hb).O)) ?_;clear H;intro w21 Q1 cQ1 H
 refine fO (fun w22 (hb:Bw w21 w22)=>iJ HP.out.tk.vb w22 (RS.below HB.out (H.b hb).O)) ?_;clear H;intro w23 Q2 cQ2 H
 refine fO (fun w24 (hb:Bw w23 w24)=>(show Calls prog 168 #[_,_] w24 (bD (pE y t) w24) from tY HP.out.le w24 (RM.aB ((H.b hb).o 1)) (RM.aB ((H.b hb).o 0)))) ?_;clear H;intro w25 E1 cE1 H
 refine yG ?_;clear H;intro w26 g26 hg26 H;refine yS ?_;clear H;intro w27 H;refine yN ?_;clear H G;intro u28 H;replace H:=H.d 3;replace H:=H.d 2;have E:=H.el;refine zXF (tgF [g26,g16,w.heap.size+2] 18 12 (.cells #[.int .i64 0,.int .i64 0,.slice none 0 0] 37)) ?_;clear H;intro S w29 hne H;refine zD ((And.intro (H.c 0) (And.intro (H.c 2) (H.c 7)))) ?_;intro G;refine fO (fun w30 (hb:Bw w29 w30)=>pg HP.out.db1 w30 (RM.aB ((H.b hb).o 3)) (RM.below HB1.out (H.b hb).O)) ?_;clear H;intro w31 Q1 cQ1 H
 refine fO (fun w32 (hb:Bw w31 w32)=>pg HP.out.ae1 w32 (RM.below HA1.out (H.b hb).O) (RM.aB ((H.b hb).o 2))) ?_;clear H;intro w33 Q2 cQ2 H
 refine fO (fun w34 (hb:Bw w33 w34)=>pg HP.out.de w34 (RM.aB ((H.b hb).o 5)) (RM.aB ((H.b hb).o 3))) ?_;clear H;intro w35 Q3 cQ3 H
 refine fM ?_;clear H;intro w36 w37 H;refine fO (fun w38 (hb:Bw w37 w38)=>(show Calls prog 295 #[_,_] w38 (bD (dw x y t) w38) from An HP.out.c1 HP.out.s1 HP.out.l1 w38 (RM.below HC1.out (H.b hb).O) (RM.aB ((H.b hb).o 3)) (RM.aB ((H.b hb).o 2)) (RM.aB ((H.b hb).o 1)) ((H.b hb).k 0))) ?_;clear H;intro w39 O1 cO1 H
 replace H:=H.d 1;refine yG ?_;clear H;intro w40 g40 hg40 H;refine yS ?_;clear H;intro w41 H;refine yN ?_;clear H G;intro u42 H;replace H:=H.d 4;replace H:=H.d 3;replace H:=H.d 2;have E:=H.el;refine zXF (tgF [g26,g16,w.heap.size+2] 15 13 (.cells #[.int .i64 0,.int .i64 0,.slice none 0 0] 37)) ?_;clear H;intro S w43 hne H;refine zD ((And.intro (H.c 2) (And.intro (H.c 4) (H.c 9)))) ?_;intro G;refine fO (fun w44 (hb:Bw w43 w44)=>pg HP.out.db2 w44 (RM.aB ((H.b hb).o 5)) (RM.below HB2.out (H.b hb).O)) ?_;clear H;intro w45 Q1 cQ1 H
 refine fO (fun w46 (hb:Bw w45 w46)=>pg HP.out.ae2 w46 (RM.below HA2.out (H.b hb).O) (RM.aB ((H.b hb).o 4))) ?_;clear H;intro w47 Q2 cQ2 H
 refine fM ?_;clear H;intro w48 w49 H;refine fO (fun w50 (hb:Bw w49 w50)=>(show Calls prog 295 #[_,_] w50 (bD (dF x y t) w50) from Al HP.out.c2 HP.out.s2 w50 (RM.below HC2.out (H.b hb).O) (RM.aB ((H.b hb).o 2)) (RM.aB ((H.b hb).o 1)) ((H.b hb).k 0))) ?_;clear H;intro w51 O2 cO2 H
 replace H:=H.d 1;refine yG ?_;clear H;intro w52 g52 hg52 H;refine yS ?_;clear H;intro w53 H;refine yN ?_;clear H G;intro u54 H;replace H:=H.d 3;replace H:=H.d 2;refine zX (tg [g52,g40,g26,g16]) ?_;clear H;intro S w55 hne H;refine zD ((And.intro (H.c 0) (And.intro (H.c 2) (And.intro (H.c 4) (H.c 6))))) ?_;intro G;refine yS ?_;clear H;intro w56 H;refine yS ?_;clear H;intro w57 H;refine yS ?_;clear H;intro w58 H;refine yN ?_;clear H G;intro u59 H;refine zRe ?_;clear H;intro u60 H
 exact bodyPost_ret (mh rfl rfl rfl rfl (H.k 10) (H.k 9) (H.k 8) underlying82 underlying37 underlying37 rfl rfl rfl (by kernel_rfl) (by kernel_rfl) (by kernel_rfl)) rfl ⟨O1,O2,D1,E1,cO1,cO2,cD1,cE1,rfl,(H.o 3),(H.o 1),(H.o 7),(H.o 5),H.O⟩
end
section
attribute [local go_sem] af ah ae
def xA (a b c:Mx×Mx) (s:Int) (w:World) (e:Ending) (w':World):Prop:=∃ A1 A2 B1 B2 C1 C2 p1 p2 q1 q2 r1 r2,e= .returned (.tuple #[MTV a b c A1 A2 B1 B2 C1 C2 p1 p2 q1 q2 r1 r2,.int .i64 s])/\OS w' w.heap.size A1 a.1.v.length p1 a.1.v/\OS w' w.heap.size A2 a.2.v.length p2 a.2.v/\OS w' w.heap.size B1 b.1.v.length q1 b.1.v/\OS w' w.heap.size B2 b.2.v.length q2 b.2.v/\OS w' w.heap.size C1 c.1.v.length r1 c.1.v/\OS w' w.heap.size C2 c.2.v.length r2 c.2.v/\Below w.heap.size w w'
theorem iK {r i c s:Int} (hr:side r=true) (hi:side i=true) (hc:side c=true) (hs:sdB s=true) (w:World):Calls prog 280 #[.int .i64 r,.int .i64 i,.int .i64 c,.int .i64 s] w (xA (ig r i c s).a (ig r i c s).b (ig r i c s).c (oC r i c s) w):=by
 obtain⟨s1,hd1⟩:∃ x,x=sds s (nm r i):=⟨_,rfl⟩;obtain⟨s2,hd2⟩:∃ x,x=sds s1 (nm r i):=⟨_,rfl⟩;obtain⟨s3,hd3⟩:∃ x,x=sds s2 (nm i c):=⟨_,rfl⟩;obtain⟨s4,hd4⟩:∃ x,x=sds s3 (nm i c):=⟨_,rfl⟩;obtain⟨s5,hd5⟩:∃ x,x=sds s4 (nm r c):=⟨_,rfl⟩;obtain⟨ma,hma⟩:∃ x,x=cT r i s:=⟨_,rfl⟩;obtain⟨mb,hmb⟩:∃ x,x=cT r i s1:=⟨_,rfl⟩;obtain⟨mc,hmc⟩:∃ x,x=cT i c s2:=⟨_,rfl⟩;obtain⟨md,hmd⟩:∃ x,x=cT i c s3:=⟨_,rfl⟩;obtain⟨me,hme⟩:∃ x,x=cT r c s4:=⟨_,rfl⟩;have HS1:Hid (sdB s1=true):=hd1 ▸ cS hs _;have HS2:Hid (sdB s2=true):=hd2 ▸ cS HS1.out _;have HS3:Hid (sdB s3=true):=hd3 ▸ cS HS2.out _;have HS4:Hid (sdB s4=true):=hd4 ▸ cS HS3.out _;have oa:okS (ma,mb)=true:=by rw[hma,hmb];exact aY (bU hr hi) (bU hr hi) rfl rfl
 have ob:okS (mc,md)=true:=by rw[hmc,hmd];exact aY (bU hi hc) (bU hi hc) rfl rfl
 have hab:ma.c=mc.r:=by rw[hma,hmc];rfl
 have hmm:=eV (eZ oa ob hab);have hlk:az (mulM (aq (ma,mb)) (aq (mc,md))) me=true:=aY hmm.1 (by rw[hme];exact bU hr hc) (by rw[hmm.2.1,(aN oa).2.1,hme];show ma.r=r;rw[hma];rfl) (by rw[hmm.2.2,(aN ob).2.2,hme];show mc.c=c;rw[hmc];rfl)
 have HT:Hid (ig r i c s=⟨(ma,mb),(mc,md),(me,aE bC (mulM (aq (ma,mb)) (aq (mc,md))) me)⟩):=by
  show ig r i c s=_
  rw[hma,hmb,hmc,hmd,hme,hd4,hd3,hd2,hd1]
  rfl
 have HN:Hid (oC r i c s=s5):=by
  show oC r i c s=_
  rw[hd5,hd4,hd3,hd2,hd1]
  rfl
 have HOA:=Qh oa;have HOB:=Qh ob;have HAB:=Qh hab;have HLK:=Qh hlk;have HR:=Qh hr;have HI:=Qh hi;have HC:=Qh hc;have HS:=Qh hs;have Hma:=Qh hma;have Hmb:=Qh hmb;have Hmc:=Qh hmc;have Hmd:=Qh hmd;have Hme:=Qh hme;have HD1:=Qh hd1;have HD2:=Qh hd2;have HD3:=Qh hd3;have HD4:=Qh hd4;have HD5:=Qh hd5;clear oa ob hab hmm hlk hr hi hc hs hma hmb hmc hmd hme hd1 hd2 hd3 hd4 hd5;refine zE ?_;intro u1 H;refine zP (dj HR.out u1) ?_;clear H;intro u2 H;refine zP (dj HI.out u2) ?_;clear H;intro u3 H;refine zP (dj HC.out u3) ?_;clear H;intro u4 H;refine zP (aU (dH HS.out) u4) ?_;clear H;intro u5 H;refine zO ((show Calls prog 167 #[_,_,_] u5 (ij ma s1 u5) from by rw[Hma.out,HD1.out];exact b8 HR.out HI.out HS.out u5)) ?_;clear H;intro w6 P0 n0 u6 H
 refine zO ((show Calls prog 167 #[_,_,_] u6 (ij mb s2 u6) from by rw[Hmb.out,HD2.out];exact b8 HR.out HI.out HS1.out u6)) ?_;clear H;intro w7 P1 n1 u7 H
 refine zO ((show Calls prog 167 #[_,_,_] u7 (ij mc s3 u7) from by rw[Hmc.out,HD3.out];exact b8 HI.out HC.out HS2.out u7)) ?_;clear H;intro w8 P2 n2 u8 H
 refine zO ((show Calls prog 167 #[_,_,_] u8 (ij md s4 u8) from by rw[Hmd.out,HD4.out];exact b8 HI.out HC.out HS3.out u8)) ?_;clear H;intro w9 P3 n3 u9 H
 refine zO ((show Calls prog 167 #[_,_,_] u9 (ij me s5 u9) from by rw[Hme.out,HD5.out];exact b8 HR.out HC.out HS4.out u9)) ?_;clear H;intro w10 P4 n4 u10 H
 refine zXZ (tg [u4.heap.size]) ?_;clear H;intro S w11 hne H;refine zD (H.c 5) ?_;intro G;intros;refine lc' fun K hK=>?_
 refine ev rfl rfl (H.bl (H.k 5) (by simp)) underlying244 rfl (by kernel_rfl) ?_
 go_simp
 refine hK _ ?_;refine yO (nw (a:=(ma,mb)) (b:=(mc,md)) (c:=(me,Mx.z)) HOA.out HOB.out HAB.out w11 ⟨P0,P1,P2,P3,P4,none,n0,n1,n2,n3,n4,0,rfl,RS.aB (H.o 4) (H.o 3),RS.aB (H.o 2) (H.o 1),RS.aB (H.o 0) (OS.nil _ w.heap.size)⟩) ?_;clear H;intro w12 R cR H;refine yO (tY HLK.out w12 (RM.aB (H.o 0)) (RM.aB (H.o 1))) ?_;clear H;intro w13 Q cQ H;intros;refine zCr ?_;intro C;intros
 repeat (first|(refine lc' ?_;intro K hK;go_big_quiet_op;go_big_quiet_on)|refine lk' ?_)
 refine aV rfl (by rfl) (by rfl) (fun K hK=>?_)
 unfold Oper.gives
 go_simp
 refine hK _ _ ?_;replace H:=H.H;refine aI ?_;clear C G;refine zC ?_;intro C;intros
 go_wp2_with (with_reducible refine lT 244 rfl ?_)
 refine zM ?_;clear H C;intro u14 H;intros;refine Qh ?_;refine b_ (by rfl) rfl rfl (H.k 7) underlying244 rfl (by kernel_rfl) ?_
 refine zC ?_;intro C;intros
 go_wp2_with (with_reducible refine gn 244 rfl ?_)
 refine zM ?_;clear H C;intro u15 H;intros;refine Qh ?_;refine zSt ?_;clear H;intro w15 H;refine zS_ ?_;clear H;intro u16 H
 exact(by rw[HT.out,HN.out];exact⟨P0,P1,P2,P3,P4,Q,n0,n1,n2,n3,n4,cQ,rfl,(H.o 6),(H.o 5),(H.o 4),(H.o 3),(H.o 2),(H.o 0),H.O⟩)
end
section
attribute [local go_sem] af ah ae
theorem uO {m1 m2 c1 c2 gO:Nat} {D1 D2:Option Addr} {x1 x2:List Int} (hm1:0<m1) (hm2:0<m2) (hb:m1+m2<=1000) (w:World) (h1:SI w D1 m1 x1) (h2:SI w D2 m2 x2) (hO:Blk w gO 35 #[.slice D1 m1 c1,.slice D2 m2 c2]) :
  Calls prog 282 #[.slice (some ⟨gO,0,none⟩) 2 2] w (vy (m1+m2) (x1++x2) w):=by
 have H1:=Qh h1;have H2:=Qh h2;clear h1 h2;refine zD hO.el ?_;intro Z
 go_in;have H:=(Hq.start w).nil
 refine zC ?_;intro C;go_wp2;refine wp_loop_rounds 3 ?_;rw[rounds_succ];clear C;refine zC ?_;intro C;intros
 go_wp2_with (at_builtin;refine zM ?_)
 clear H C;intro u1 H;refine zA (SI.below H1.out H.O) True.intro ?_;clear H;intro E1 e1 w1 H;refine zC ?_;intro C;intros
 go_wp2_with fail
 rw[rounds_succ];refine zM ?_;clear H C;intro u2 H;refine zC ?_;intro C;intros
 go_wp2_with (at_builtin;refine zM ?_)
 clear H C;intro u3 H;refine zA (SI.below H2.out H.O) True.intro ?_;clear H;intro E2 e2 w3 H;refine zC ?_;intro C;intros
 go_wp2_with fail
 rw[rounds_succ];refine zM ?_;clear H C;intro u4 H;refine zR ?_;clear H;intro u5 H
 exact⟨E2,e2,rfl,(H.o 0),H.O⟩
theorem ka {x y:Mx×Mx} {s:Int} (hox:okS x=true) (hoy:okS y=true) (hxy:x.1.c=y.1.r) (hs:sdB s=true) {u v:Value} (w:World) (hx:RS w u x) (hy:RS w v y) :
  Calls prog 247 #[u,v,.int .i64 s] w (bo (dG x y s).1 (dG x y s).2 50 w):=by
 obtain⟨X1,X2,x1,x2,rfl,a1,a2,a3,a4,a5,a6⟩:=hx;obtain⟨Y1,Y2,y1,y2,rfl,b1,b2,b3,b4,b5,b6⟩:=hy;have hX:=RS.mk a1 a2 a3 a4 a5 a6;have hY:=RS.mk b1 b2 b3 b4 b5 b6;clear a1 a2 a3 a4 a5 a6 b1 b2 b3 b4 b5 b6;have hP:=qq (s:=s) hox hoy hxy;obtain⟨hR,hI⟩:=aA (ai hox).1;obtain⟨_,hC⟩:=aA (ai hoy).1;obtain⟨t,htr⟩:∃ t,t=ig x.1.r x.1.c y.1.c s:=⟨_,rfl⟩;have hTR:t=ig x.1.r x.1.c y.1.c s:=htr;rw[<-htr] at hP;have hPS:dG x y s=((dw x y t,dF x y t),oC x.1.r x.1.c y.1.c s):=by rw[htr];rfl
 have hLD:=dy hP.d.1;have hLE:=dy hP.e.1;clear htr;have hne:(x.1.c != y.1.r)=false:=by simp[hxy]
 clear hxy;have HOX:=Qh hox;have HOY:=Qh hoy;have HS:=Qh hs;have HX:=Qh hX;have HY:=Qh hY;have HP:=Qh hP;have HR:=Qh hR;have HI:=Qh hI;have HC:=Qh hC;have HTR:=Qh hTR;have HPS:=Qh hPS;have HLD:=Qh hLD;have HLE:=Qh hLE;clear hox hoy hs hX hY hP hR hI hC hTR hPS hLD hLE;refine zE ?_;intro u1 H;refine zB (gC HOX.out u1 (RS.below HX.out H.O)) ?_;clear H;intro w2 u2 H;refine zB (gC HOY.out u2 (RS.below HY.out H.O)) ?_;clear H;intro w3 u3 H;refine zP (aU (dH HS.out) u3) ?_;clear H;intro u4 H;refine zG ((show Calls prog 280 #[_,_,_,_] u4 (xA t.a t.b t.c (oC x.1.r x.1.c y.1.c s) u4) from by rw[HTR.out];exact iK HR.out HI.out HC.out HS.out u4)) ?_
 rintro e w5 ⟨T1,T2,T3,T4,T5,T6,k1,k2,k3,k4,k5,k6,rfl,f1,f2,f3,f4,f5,f6,hb⟩;replace H:=H.tt hb ⟨f1,f2⟩ ⟨f3,f4⟩ ⟨f5,f6⟩;unfold MTV;refine zC ?_;intro C;intros
 go_wp2_with (with_reducible refine gn 244 rfl ?_)
 refine zM ?_;clear H C;intro u6 H;intros;refine Qh ?_;refine zSt ?_;clear H;intro w6 H;refine zC ?_;intro C;intros
 go_wp2_with (with_reducible refine lT 244 rfl ?_)
 refine zM ?_;clear H C;intro u7 H;intros;refine Qh ?_;refine b_ (by rfl) rfl rfl (H.k 0) underlying244 rfl (by kernel_rfl) ?_
 refine zN ?_;clear H;intro u8 H;refine zG (iy HP.out u8 (RS.below HX.out H.O) (RS.below HY.out H.O) (wU (qS.rs (Ow.P1 (H.p 1))) (qS.rs (Ow.P1 (Ow.P2 (H.p 1)))) (qS.rs (Ow.P2 (Ow.P2 (H.p 1)))))) ?_;rintro e w9 ⟨P,Q,D,E,cP,cQ,cD,cE,rfl,f1,f2,f3,f4,hb⟩;replace H:=H.soo hb (p:=(dw x y t,dF x y t)) f1 f2 f3 f4;replace H:=H.d 2;replace H:=H.d 1;refine zN ?_;clear H;intro u10 H;refine zX (tg [w9.heap.size+2,w9.heap.size+1,w9.heap.size]) ?_;clear H;intro S w11 hne H;refine zD ((And.intro (H.c 0) (And.intro (H.c 1) (H.c 2)))) ?_;intro G;refine yM ?_;clear H;intro w12 H;refine yO (uO HLD.out.1 HLE.out.1 (by have:=HLD.out.2;have:=HLE.out.2;omega) w12 (OS.si (Ow.P1 (Ow.P2 (H.p 4)))) (OS.si (Ow.P2 (Ow.P2 (H.p 4)))) (H.k 0)) ?_;clear H;intro w13 L cL H
 refine yS ?_;clear H;intro w14 H;refine yN ?_;clear H G;intro u15 H;refine zS_ ?_;clear H;intro u16 H
 exact⟨P,cP,Q,cQ,L,_,cL,_,(by rw[HPS.out];rfl),by rw[HPS.out];exact qS.a (Ow.P1 (H.p 5)),by rw[HPS.out];exact qS.b (Ow.P1 (H.p 5)),(H.o 0),(by have:=HLD.out;have:=HLE.out;omega),H.O⟩
end
theorem iq (k:Nat) (hk:k<4096): -2048<=sgn (k:Int)/\sgn (k:Int)<=2047:=by
 rw[qJ k hk];split <;> omega
theorem lv1 (k:Nat) (hk:k<4096) (h:sgn (k:Int)<0):lv k=1:=by
 unfold lv;rw[qJ k hk] at h
 split at h
 ·rw[if_pos (by assumption)]
 ·omega
theorem lv0 (k:Nat) (hk:k<4096) (h:¬sgn (k:Int)<0):lv k=0:=by
 unfold lv;rw[qJ k hk] at h
 split at h
 ·omega
 ·rw[if_neg (by assumption)]
theorem gy (k:Nat) (hk:k<4096) (w:World):Calls prog 297 #[.int .i64 (k:Int)] w fun e w'=>e= .returned (.int .i64 (fnv 1 k))/\w=w':=by
 have hr:0<=(k:Int)/\(k:Int)<=4095:=by omega
 obtain⟨q,hq⟩:∃ q,q=sgn (k:Int):=⟨_,rfl⟩;have HS:=dL (k:Int) w;have HV:Hid (fnv 1 k=(q/16)%4096):=by rw[hq];exact rfl
 rw[<-hq] at HS;have HS:=Qh HS;have hb:=iq k hk;rw[<-hq] at hb;obtain⟨hb1,hb2⟩:=hb;clear hq
 go_enter func297,ntmps297
 go_wp2_with fail
 refine Qc (an (k:Int) hr w) ?_
 go_wp2_with fail
 refine HS.out.mono ?_;rintro e w' ⟨rfl,rfl⟩
 go_wp2_with fail
 refine Qc (dK _ w) ?_;go_wp2
 go_ret
 exact⟨ag HV.out.symm,rfl⟩
theorem aC {K:Int} (h:1<=K/\K<=5) (w:World):Calls prog 248 #[.int .i64 K] w fun e w'=>e= .returned (.bool true)/\w=w':=by
 obtain⟨h1,h2⟩:=h
 go_enter func248,ntmps248
 go_wp2
 go_ret
 exact⟨rfl,rfl⟩
theorem oG (k:Nat) (hk:k<4096) (w:World):Calls prog 283 #[.int .i64 1,.int .i64 (k:Int)] w fun e w'=>e= .returned (.int .i64 (fnv 1 k))/\w=w':=by
 have hr:0<=(k:Int)/\(k:Int)<=4095:=by omega
 obtain⟨q,hq⟩:∃ q,q=sgn (k:Int):=⟨_,rfl⟩;have HS:=dL (k:Int) w;rw[<-hq] at HS;have HS:=Qh HS;have hb:=iq k hk;rw[<-hq] at hb;obtain⟨hb1,hb2⟩:=hb;have HC:=Qh (gy k hk w)
 ·clear hq
  skip
  go_enter func283,ntmps283
  go_wp2_with fail
  refine Qc (aC (K:=1) (by omega) w) ?_
  go_wp2_with fail
  refine Qc (an (k:Int) hr w) ?_
  go_wp2_with fail
  refine HS.out.mono ?_;rintro e w' ⟨rfl,rfl⟩
  go_wp2_with fail
  refine Qc HC.out ?_;go_wp2
  go_ret
  exact⟨rfl,rfl⟩
theorem oH (k:Nat) (hk:k<4096) (w:World):Calls prog 283 #[.int .i64 2,.int .i64 (k:Int)] w fun e w'=>e= .returned (.int .i64 (fnv 2 k))/\w=w':=by
 have hr:0<=(k:Int)/\(k:Int)<=4095:=by omega
 obtain⟨q,hq⟩:∃ q,q=sgn (k:Int):=⟨_,rfl⟩;have HS:=dL (k:Int) w;rw[<-hq] at HS;have HS:=Qh HS;have hb:=iq k hk;rw[<-hq] at hb;obtain⟨hb1,hb2⟩:=hb;have HC:=Qh (gy k hk w);rcases(by omega:(0<=q)\/(q<0)) with hc|hc
 ·have HV:Hid (fnv 2 k=q):=by show (if 0<=sgn k then sgn k else 0)=q;rw[<-hq,if_pos hc]
  clear hq
  have hm1:max q 0=q:=by omega
  go_enter func283,ntmps283
  go_wp2_with fail
  refine Qc (aC (K:=2) (by omega) w) ?_
  go_wp2_with fail
  refine Qc (an (k:Int) hr w) ?_
  go_wp2_with fail
  refine HS.out.mono ?_;rintro e w' ⟨rfl,rfl⟩;go_wp2
  go_ret
  first|exact⟨ag HV.out.symm,rfl⟩|exact⟨ag (by rw[HV.out];decide),rfl⟩
 ·have HV:Hid (fnv 2 k=0):=by show (if 0<=sgn k then sgn k else 0)=0;rw[<-hq,if_neg (by omega)]
  clear hq
  have hm1:max q 0=0:=by omega
  go_enter func283,ntmps283
  go_wp2_with fail
  refine Qc (aC (K:=2) (by omega) w) ?_
  go_wp2_with fail
  refine Qc (an (k:Int) hr w) ?_
  go_wp2_with fail
  refine HS.out.mono ?_;rintro e w' ⟨rfl,rfl⟩;go_wp2
  go_ret
  first|exact⟨ag HV.out.symm,rfl⟩|exact⟨ag (by rw[HV.out];decide),rfl⟩
theorem nu (k:Nat) (hk:k<4096) (w:World):Calls prog 283 #[.int .i64 3,.int .i64 (k:Int)] w fun e w'=>e= .returned (.int .i64 (fnv 3 k))/\w=w':=by
 have hr:0<=(k:Int)/\(k:Int)<=4095:=by omega
 obtain⟨q,hq⟩:∃ q,q=sgn (k:Int):=⟨_,rfl⟩;have HS:=dL (k:Int) w;rw[<-hq] at HS;have HS:=Qh HS;have hb:=iq k hk;rw[<-hq] at hb;obtain⟨hb1,hb2⟩:=hb;have HC:=Qh (gy k hk w);rcases(by omega:(q<0)\/(¬q<0)) with hc|hc
 ·have HV:Hid (fnv 3 k=1):=lv1 k hk (hq ▸ hc);clear hq
  skip
  go_enter func283,ntmps283
  go_wp2_with fail
  refine Qc (aC (K:=3) (by omega) w) ?_
  go_wp2_with fail
  refine Qc (an (k:Int) hr w) ?_
  go_wp2_with fail
  refine HS.out.mono ?_;rintro e w' ⟨rfl,rfl⟩;go_wp2
  go_ret
  first|exact⟨ag HV.out.symm,rfl⟩|exact⟨ag (by rw[HV.out];decide),rfl⟩
 ·have HV:Hid (fnv 3 k=0):=lv0 k hk (hq ▸ hc);clear hq
  skip
  go_enter func283,ntmps283
  go_wp2_with fail
  refine Qc (aC (K:=3) (by omega) w) ?_
  go_wp2_with fail
  refine Qc (an (k:Int) hr w) ?_
  go_wp2_with fail
  refine HS.out.mono ?_;rintro e w' ⟨rfl,rfl⟩;go_wp2
  go_ret
  first|exact⟨ag HV.out.symm,rfl⟩|exact⟨ag (by rw[HV.out];decide),rfl⟩
theorem oI (k:Nat) (hk:k<4096) (w:World):Calls prog 283 #[.int .i64 4,.int .i64 (k:Int)] w fun e w'=>e= .returned (.int .i64 (fnv 4 k))/\w=w':=by
 have hr:0<=(k:Int)/\(k:Int)<=4095:=by omega
 obtain⟨q,hq⟩:∃ q,q=sgn (k:Int):=⟨_,rfl⟩;have HS:=dL (k:Int) w;rw[<-hq] at HS;have HS:=Qh HS;have hb:=iq k hk;rw[<-hq] at hb;obtain⟨hb1,hb2⟩:=hb;have HC:=Qh (gy k hk w);rcases(by omega:(q < -64)\/(-64<=q/\q < -48)\/(-48<=q/\q < -32)\/(-32<=q/\q < -16)\/(-16<=q/\q<0)\/(0<=q/\q<16)\/(16<=q/\q<32)\/(32<=q/\q<48)\/(48<=q)) with hc|hc|hc|hc|hc|hc|hc|hc|hc
 ·have HV:Hid (fnv 4 k=1):=by show gro (sgn k)=1;rw[<-hq];unfold gro;(repeat' split) <;> omega
  clear hq;have hd:q/16 < -4:=(by omega);have hm1:max (q/16) (-4)= -4:=(by omega);have hm2:min (-4:Int) 2= -4:=by omega
  go_enter func283,ntmps283
  go_wp2_with fail
  refine Qc (aC (K:=4) (by omega) w) ?_
  go_wp2_with fail
  refine Qc (an (k:Int) hr w) ?_
  go_wp2_with fail
  refine HS.out.mono ?_;rintro e w' ⟨rfl,rfl⟩;go_wp2
  go_ret
  first|exact⟨ag HV.out.symm,rfl⟩|exact⟨ag (by rw[HV.out];decide),rfl⟩
 ·have HV:Hid (fnv 4 k=1):=by show gro (sgn k)=1;rw[<-hq];unfold gro;(repeat' split) <;> omega
  clear hq;have hd:q/16= -4:=(by omega);have hm1:max (-4:Int) (-4)= -4:=(by omega);have hm2:min (-4:Int) 2= -4:=by omega
  go_enter func283,ntmps283
  go_wp2_with fail
  refine Qc (aC (K:=4) (by omega) w) ?_
  go_wp2_with fail
  refine Qc (an (k:Int) hr w) ?_
  go_wp2_with fail
  refine HS.out.mono ?_;rintro e w' ⟨rfl,rfl⟩;go_wp2
  go_ret
  first|exact⟨ag HV.out.symm,rfl⟩|exact⟨ag (by rw[HV.out];decide),rfl⟩
 ·have HV:Hid (fnv 4 k=2):=by show gro (sgn k)=2;rw[<-hq];unfold gro;(repeat' split) <;> omega
  clear hq;have hd:q/16= -3:=(by omega);have hm1:max (-3:Int) (-4)= -3:=(by omega);have hm2:min (-3:Int) 2= -3:=by omega
  go_enter func283,ntmps283
  go_wp2_with fail
  refine Qc (aC (K:=4) (by omega) w) ?_
  go_wp2_with fail
  refine Qc (an (k:Int) hr w) ?_
  go_wp2_with fail
  refine HS.out.mono ?_;rintro e w' ⟨rfl,rfl⟩;go_wp2
  go_ret
  first|exact⟨ag HV.out.symm,rfl⟩|exact⟨ag (by rw[HV.out];decide),rfl⟩
 ·have HV:Hid (fnv 4 k=4):=by show gro (sgn k)=4;rw[<-hq];unfold gro;(repeat' split) <;> omega
  clear hq;have hd:q/16= -2:=(by omega);have hm1:max (-2:Int) (-4)= -2:=(by omega);have hm2:min (-2:Int) 2= -2:=by omega
  go_enter func283,ntmps283
  go_wp2_with fail
  refine Qc (aC (K:=4) (by omega) w) ?_
  go_wp2_with fail
  refine Qc (an (k:Int) hr w) ?_
  go_wp2_with fail
  refine HS.out.mono ?_;rintro e w' ⟨rfl,rfl⟩;go_wp2
  go_ret
  first|exact⟨ag HV.out.symm,rfl⟩|exact⟨ag (by rw[HV.out];decide),rfl⟩
 ·have HV:Hid (fnv 4 k=8):=by show gro (sgn k)=8;rw[<-hq];unfold gro;(repeat' split) <;> omega
  clear hq;have hd:q/16= -1:=(by omega);have hm1:max (-1:Int) (-4)= -1:=(by omega);have hm2:min (-1:Int) 2= -1:=by omega
  go_enter func283,ntmps283
  go_wp2_with fail
  refine Qc (aC (K:=4) (by omega) w) ?_
  go_wp2_with fail
  refine Qc (an (k:Int) hr w) ?_
  go_wp2_with fail
  refine HS.out.mono ?_;rintro e w' ⟨rfl,rfl⟩;go_wp2
  go_ret
  first|exact⟨ag HV.out.symm,rfl⟩|exact⟨ag (by rw[HV.out];decide),rfl⟩
 ·have HV:Hid (fnv 4 k=16):=by show gro (sgn k)=16;rw[<-hq];unfold gro;(repeat' split) <;> omega
  clear hq;have hd:q/16=0:=(by omega);have hm1:max (0:Int) (-4)=0:=(by omega);have hm2:min (0:Int) 2=0:=by omega
  go_enter func283,ntmps283
  go_wp2_with fail
  refine Qc (aC (K:=4) (by omega) w) ?_
  go_wp2_with fail
  refine Qc (an (k:Int) hr w) ?_
  go_wp2_with fail
  refine HS.out.mono ?_;rintro e w' ⟨rfl,rfl⟩;go_wp2
  go_ret
  first|exact⟨ag HV.out.symm,rfl⟩|exact⟨ag (by rw[HV.out];decide),rfl⟩
 ·have HV:Hid (fnv 4 k=32):=by show gro (sgn k)=32;rw[<-hq];unfold gro;(repeat' split) <;> omega
  clear hq;have hd:q/16=1:=(by omega);have hm1:max (1:Int) (-4)=1:=(by omega);have hm2:min (1:Int) 2=1:=by omega
  go_enter func283,ntmps283
  go_wp2_with fail
  refine Qc (aC (K:=4) (by omega) w) ?_
  go_wp2_with fail
  refine Qc (an (k:Int) hr w) ?_
  go_wp2_with fail
  refine HS.out.mono ?_;rintro e w' ⟨rfl,rfl⟩;go_wp2
  go_ret
  first|exact⟨ag HV.out.symm,rfl⟩|exact⟨ag (by rw[HV.out];decide),rfl⟩
 ·have HV:Hid (fnv 4 k=64):=by show gro (sgn k)=64;rw[<-hq];unfold gro;(repeat' split) <;> omega
  clear hq;have hd:q/16=2:=(by omega);have hm1:max (2:Int) (-4)=2:=(by omega);have hm2:min (2:Int) 2=2:=by omega
  go_enter func283,ntmps283
  go_wp2_with fail
  refine Qc (aC (K:=4) (by omega) w) ?_
  go_wp2_with fail
  refine Qc (an (k:Int) hr w) ?_
  go_wp2_with fail
  refine HS.out.mono ?_;rintro e w' ⟨rfl,rfl⟩;go_wp2
  go_ret
  first|exact⟨ag HV.out.symm,rfl⟩|exact⟨ag (by rw[HV.out];decide),rfl⟩
 ·have HV:Hid (fnv 4 k=64):=by show gro (sgn k)=64;rw[<-hq];unfold gro;(repeat' split) <;> omega
  clear hq;have hd:2<q/16:=(by omega);have hm1:max (q/16) (-4)=q/16:=(by omega);have hm2:min (q/16) 2=2:=by omega
  go_enter func283,ntmps283
  go_wp2_with fail
  refine Qc (aC (K:=4) (by omega) w) ?_
  go_wp2_with fail
  refine Qc (an (k:Int) hr w) ?_
  go_wp2_with fail
  refine HS.out.mono ?_;rintro e w' ⟨rfl,rfl⟩;go_wp2
  go_ret
  first|exact⟨ag HV.out.symm,rfl⟩|exact⟨ag (by rw[HV.out];decide),rfl⟩
theorem oJ (k:Nat) (hk:k<4096) (w:World):Calls prog 283 #[.int .i64 5,.int .i64 (k:Int)] w fun e w'=>e= .returned (.int .i64 (fnv 5 k))/\w=w':=by
 have hr:0<=(k:Int)/\(k:Int)<=4095:=by omega
 obtain⟨q,hq⟩:∃ q,q=sgn (k:Int):=⟨_,rfl⟩;have HS:=dL (k:Int) w;rw[<-hq] at HS;have HS:=Qh HS;have hb:=iq k hk;rw[<-hq] at hb;obtain⟨hb1,hb2⟩:=hb;have HC:=Qh (gy k hk w);rcases(by omega:(q<=0)\/(0<q)) with hc|hc
 ·have HV:Hid (fnv 5 k=0):=by show (if sgn k<=0 then 0 else 256/sgn k)=0;rw[<-hq,if_pos hc]
  clear hq
  skip
  go_enter func283,ntmps283
  go_wp2_with fail
  refine Qc (aC (K:=5) (by omega) w) ?_
  go_wp2_with fail
  refine Qc (an (k:Int) hr w) ?_
  go_wp2_with fail
  refine HS.out.mono ?_;rintro e w' ⟨rfl,rfl⟩;go_wp2
  go_ret
  first|exact⟨ag HV.out.symm,rfl⟩|exact⟨ag (by rw[HV.out];decide),rfl⟩
 ·have HV:Hid (fnv 5 k=256/q):=by show (if sgn k<=0 then 0 else 256/sgn k)=256/q;rw[<-hq,if_neg (by omega)]
  clear hq;have hq0:q≠0:=by omega
  go_enter func283,ntmps283
  go_wp2_with fail
  refine Qc (aC (K:=5) (by omega) w) ?_
  go_wp2_with fail
  refine Qc (an (k:Int) hr w) ?_
  go_wp2_with fail
  refine HS.out.mono ?_;rintro e w' ⟨rfl,rfl⟩;go_wp2
  go_ret
  first|exact⟨ag HV.out.symm,rfl⟩|exact⟨ag (by rw[HV.out];decide),rfl⟩
theorem p_ {K:Int} (h:1<=K/\K<=5) (k:Nat) (hk:k<4096) (w:World):Calls prog 283 #[.int .i64 K,.int .i64 (k:Int)] w fun e w'=>e= .returned (.int .i64 (fnv K k))/\w=w':=by
 rcases(by omega:K=1\/K=2\/K=3\/K=4\/K=5) with rfl|rfl|rfl|rfl|rfl
 ·exact oG k hk w
 ·exact oH k hk w
 ·exact nu k hk w
 ·exact oI k hk w
 ·exact oJ k hk w
theorem lh {K:Int} (h:1<=K/\K<=5) (w:World):Calls prog 249 #[.int .i64 K] w (vy 4096 (fl (fnv K) 4096) w):=by
 have hmk:∀ W:World,(Instr.makeSlice 35 (.int .i64 4096) (.int .i64 4096)).run prog W= .ok (.slice (some ⟨W.heap.size,0,none⟩) 4096 4096) (W.alloc (ZB 4096)):=fun W=>jc 4096 (by omega) W
 have HZ:=Qh (OS.sN w 4096 (by omega))
 have HW:=Qh ((Below.refl w.heap.size w).alloc Ql (ZB 4096));have HZ0:Hid (OS (w.alloc (ZB 4096)) w.heap.size (some ⟨w.heap.size,0,none⟩) 4096 4096 (fl (fnv K) 0++List.replicate (4096-0) 0)):=by
  have e0:fl (fnv K) 0=[]:=rfl;rw[e0,List.nil_append,Nat.sub_zero]
  exact HZ
 have HK:=Qh h;clear HZ h
 go_enter func249,ntmps249
 go_wp2_with fail
 refine Qc (aC HK.out w) ?_;go_wp2
 go_loopw [11] (fun i wr=>∃ j:Nat,j<=4096/\i= .int .i64 j/\Hid (OS wr w.heap.size (some ⟨w.heap.size,0,none⟩) 4096 4096 (fl (fnv K) j++List.replicate (4096-j) 0))/\Hid (Below w.heap.size w wr)) (fun i _=>4096-(intOf i).toNat)
 case atStart=>exact⟨0,Nat.zero_le _,rfl,HZ0,HW⟩
 case round =>
  obtain⟨j,hj,rfl,hos,hon⟩:=hrel
  by_cases hlt:j<4096
  ·obtain⟨u,cu⟩:∃ u,wr.cell? ⟨w.heap.size,j,none⟩=some (.int .i64 u):=by
    obtain⟨b',off',e,_,hc⟩:=hos.out.si.2 (by omega)
    injection e with e;injection e with e1 e2;subst e1 e2;have:=hc j hlt;rw[Nat.zero_add] at this
    exact⟨_,this⟩
   have fu:=hos.out.frozen j w.heap.size rfl;have i0:(0:Int)<=(j:Int):=by omega
   have i1:(j:Int)<4096:=by omega
   go_wp2_with fail
   refine Qc (p_ HK.out j hlt wr) ?_;go_wp2
   go_roundw
   case rel =>
    have st:=World.ownsRow.stored hos.out j (.int .i64 (fnv K j));refine⟨j+1,by omega,by go_num,?_,hon.out.setCell Ql _⟩
    have h:=st.1;rw[<-List.map_set,jF (fnv K) 4096 j hlt] at h
    exact h
   case measure=>simp[intOf];omega
  ·have hjn:j=4096:=by omega
   subst hjn;have hfin:OS wr w.heap.size (some ⟨w.heap.size,0,none⟩) 4096 4096 (fl (fnv K) 4096):=by
    have h:=hos.out;rw[Nat.sub_self,List.replicate_zero,List.append_nil] at h
    exact h
   have HF:=Qh hfin;clear hfin hos;go_wp2
   go_ret
   exact⟨some ⟨w.heap.size,0,none⟩,4096,rfl,HF.out,hon.out⟩
section
attribute [local go_sem] af ah ae
theorem Bh {a b r yq:Nat} {x:Int} (hd:b<yq):(if a<r\/(a=r/\b<yq) then x else 0)=if a<r+1\/(a=r+1/\b<0) then x else 0:=by
 by_cases h:a<r+1
 ·rw[if_pos (by omega),if_pos (by omega)]
 ·rw[if_neg (by omega),if_neg (by omega)]
theorem yw {a b r yq:Nat} {x:Int} (h3:¬(a=r/\b=yq)):(if a<r\/(a=r/\b<yq+1) then x else 0)=if a<r\/(a=r/\b<yq) then x else 0:=by
 by_cases h:a<r\/(a=r/\b<yq)
 ·rw[if_pos h,if_pos (by omega)]
 ·rw[if_neg h,if_neg (by omega)]
theorem iN {m:Mx} (h:mvB m=true) {x:Value} (w:World) (hx:RM w x m):Calls prog 255 #[x] w (bD (ir m) w):=by
 have hmm:=qN h;obtain⟨r1,c1,v1,rfl,r11,r12,c11,c12,l1,b1⟩:=nS h;obtain⟨A1,p1,rfl,hx0,hp1,hq1⟩:=hx
 dsimp only at hx0 hp1
 obtain⟨a1,o1,rfl,_,_⟩:=hx0.2 (by rw[l1];exact Nat.mul_pos r11 c11)
 obtain⟨n,hnn⟩:∃ n,n=c1*r1:=⟨_,rfl⟩;have hN:(c1:Int)*(r1:Int)=(n:Int):=by rw[hnn];push_cast;rfl
 have hn1:0<n:=by rw[hnn];exact Nat.mul_pos c11 r11
 have hn25:n<=25:=by rw[hnn];exact Nat.mul_le_mul c12 r12
 have hn2:n<=1048576:=by omega
 obtain⟨F,hF⟩:∃ F:Nat->Int,F=fun i=>v1.getD (i%r1*c1+i/r1) 0:=⟨_,rfl⟩
 have HMM:Hid (ir ⟨(r1:Int),(c1:Int),v1⟩=⟨(c1:Int),(r1:Int),fl F n⟩):=by
  show ir _=_
  rw[hmm,hF,hnn]
  rfl
 clear hmm;have HX:=Qh hx0;have HA:=Qh h;have HL1:=Qh l1;have HN:=Qh hN;have HNN:=Qh hnn;have HFN:=Qh hF;clear hx0 h l1 hN hnn hF;refine zE ?_;intro u1 H;refine zB (bP (m:=⟨(r1:Int),(c1:Int),v1⟩) HA.out u1 (SI.below HX.out H.O)) ?_;clear H;intro w2 u2 H;refine zG (di HN.out hn2 u2) ?_;rintro e w3 ⟨A,cG,rfl,hos,hb⟩;replace H:=H.os hb hos
 dsimp only at H ⊢
 rw[List.length_replicate] at H ⊢;obtain⟨g,rfl,hg0,hg1⟩:=OS.pos (H.o 0) hn1;refine zN ?_;clear H;intro u4 H;obtain⟨gT,hgT⟩:∃ g,g=w3.heap.size:=⟨_,rfl⟩;rw[<-hgT] at H ⊢;clear hgT;replace H:=((((H.r 3).r 3).r 2).r 3);intros
 go_loopw [18] (fun i wr=>∃ r:Nat,r<=r1/\i= .int .i64 r/\Hid (Hq w [qO w.heap.size (some ⟨g,0,none⟩) n cG (fl (fun i=>if i%r1<r\/(i%r1=r/\i/r1<0) then F i else 0) n),qB gT 37 [.int .i64 (c1:Int),.int .i64 (r1:Int),.slice (some ⟨g,0,none⟩) n cG],qB (w.heap.size+1) 37 [.int .i64 0,.int .i64 0,.slice none 0 0],qB w.heap.size 37 [.int .i64 (r1:Int),.int .i64 (c1:Int),.slice (some ⟨a1,o1,none⟩) v1.length p1]] wr)) (fun i _=>r1-(intOf i).toNat)
 case atStart=>exact⟨0,Nat.zero_le _,rfl,by rw[show fl (fun i=>if i%r1<0\/(i%r1=0/\i/r1<0) then F i else 0) n=List.replicate n 0 from by rw[<-j6];exact dT fun k _=>by simp];exact H⟩
 case round =>
 clear H;obtain⟨r,hr,rfl,H⟩:=hrel;have H:=H.out
 by_cases hlt:r<r1
 ·refine zN ?_;clear H;intro u21 H;refine zB (qj hlt r12 ⟨c11,c12⟩ HL1.out hp1 hq1 u21) ?_;clear H;intro w22 u22 H;intros
  go_loopw [25] (fun i wr=>∃ p:Nat,p<=c1/\i= .int .i64 p/\Hid (Hq w [qO w.heap.size (some ⟨g,0,none⟩) n cG (fl (fun i=>if i%r1<r\/(i%r1=r/\i/r1<p) then F i else 0) n),qB gT 37 [.int .i64 (c1:Int),.int .i64 (r1:Int),.slice (some ⟨g,0,none⟩) n cG],qB (w.heap.size+1) 37 [.int .i64 0,.int .i64 0,.slice none 0 0],qB w.heap.size 37 [.int .i64 (r1:Int),.int .i64 (c1:Int),.slice (some ⟨a1,o1,none⟩) v1.length p1]] wr)) (fun i _=>c1-(intOf i).toNat)
  case atStart=>exact⟨0,Nat.zero_le _,rfl,H⟩
  case round =>
  clear H;obtain⟨p,hp,rfl,H⟩:=hrel;have H:=H.out
  by_cases hqc:p<c1
  ·have hi1:r*c1+p<v1.length:=by rw[HL1.out];exact e9 hlt hqc
   have cx:=kR HX.out H.O Ql hi1;rw[<-Nat.add_assoc] at cx;obtain⟨jj,hjj⟩:∃ jj,jj=p*r1:=⟨_,rfl⟩;have hjl:jj+r<n:=by rw[hjj,HNN.out];exact e9 hqc hlt
   have hFv:v1.getD (r*c1+p) 0=F (jj+r):=by
    have e1:(p*r1+r)/r1=p:=by rw[Nat.mul_comm,Nat.mul_add_div (by omega),Nat.div_eq_of_lt hlt,Nat.add_zero]
    have e2:(p*r1+r)%r1=r:=by rw[Nat.mul_comm,Nat.mul_add_mod,Nat.mod_eq_of_lt hlt]
    rw[HFN.out,hjj]
    dsimp only
    rw[e1,e2]
   obtain⟨x,hx⟩:∃ x,x=v1.getD (r*c1+p) 0:=⟨_,rfl⟩;rw[<-hx] at cx hFv;have HST:Hid (fl (fun i=>if i%r1<r\/(i%r1=r/\i/r1<p+1) then F i else 0) n=(fl (fun i=>if i%r1<r\/(i%r1=r/\i/r1<p) then F i else 0) n).set (jj+r) x):=pW hjl fun i hi=>by
    have hd:=Nat.div_add_mod i r1
    by_cases e:i=jj+r
    ·have e1:i/r1=p:=by rw[e,hjj,Nat.mul_comm,Nat.mul_add_div (by omega),Nat.div_eq_of_lt hlt,Nat.add_zero]
     have e2:i%r1=r:=by rw[e,hjj,Nat.mul_comm,Nat.mul_add_mod,Nat.mod_eq_of_lt hlt]
     rw[if_pos e,if_pos (.inr ⟨e2,by omega⟩),e,hFv]
    ·rw[if_neg e]
     exact yw (fun⟨x,y⟩=>e (by rw[<-hd,x,y,hjj,Nat.mul_comm]))
   have hm2w:IntKind.i64.wrap ((p:Int)*(r1:Int))=(jj:Int):=gN (by rw[hjj];push_cast;rfl) (by omega)
   have j0:(0:Int)<=(jj:Int)+(r:Int):=by omega
   have j1:(jj:Int)+(r:Int)<(n:Int):=by omega
   have j2:((jj:Int)+(r:Int)).toNat=jj+r:=by omega
   have j3:=IntWalk.i64_in ((jj:Int)+(r:Int)) (by omega)
   have j4:(p:Int)<(c1:Int):=by omega
   clear hjj hx hFv hi1;obtain⟨zG,cG',fG⟩:=a7 (H.o 0) hjl;refine zC ?_;intro C;intros;go_wp2
   go_roundw
   case rel=>exact⟨p+1,by omega,by go_num,(by rw[HST.out];exact Qh hq)⟩
   case measure=>simp[intOf];omega
  ·obtain rfl:p=c1:=by omega
   have HSE:Hid (fl (fun i=>if i%r1<(r+1)\/(i%r1=(r+1)/\i/r1<0) then F i else 0) n=fl (fun i=>if i%r1<r\/(i%r1=r/\i/r1<p) then F i else 0) n):=dT fun i hi=>(Bh (by rw[HNN.out] at hi;exact Nat.div_lt_of_lt_mul (by rw[Nat.mul_comm];exact hi))).symm
   refine zC ?_;intro C;intros;go_wp2
   go_roundw
   case rel=>exact⟨r+1,by omega,by go_num,(by rw[HSE.out];exact H)⟩
   case measure=>simp[intOf];omega
 ·obtain rfl:r=r1:=by omega
  rw[show fl (fun i=>if i%r<r\/(i%r=r/\i/r<0) then F i else 0) n=fl F n from dT fun i hi=>by rw[if_pos (.inl (Nat.mod_lt _ r11))]] at H
  refine zS_ ?_;clear H;intro u81 H
  exact(by rw[HMM.out];exact⟨some ⟨g,0,none⟩,cG,by dsimp only;rw[aD],by dsimp only;rw[aD];exact(H.o 0),H.O⟩)
theorem lZ {m:Mx} (h:mvB m=true) {x:Value} (w:World) (hx:RM w x m):Calls prog 217 #[x] w (bD (il m) w):=by
 have hmm:=qu h;obtain⟨r1,c1,v1,rfl,r11,r12,c11,c12,l1,b1⟩:=nS h;obtain⟨A1,p1,rfl,hx0,hp1,hq1⟩:=hx
 dsimp only at hx0 hp1
 obtain⟨a1,o1,rfl,_,_⟩:=hx0.2 (by rw[l1];exact Nat.mul_pos r11 c11)
 obtain⟨n,hnn⟩:∃ n,n=r1:=⟨_,rfl⟩;have hN:(r1:Int)*1=(r1:Int):=by omega
 have hn2:r1<=1048576:=by omega
 obtain⟨F,hF⟩:∃ F:Nat->Int,F=fun r=>ew ⟨(r1:Int),(c1:Int),v1⟩ c1 r c1%4096:=⟨_,rfl⟩
 have HMM:Hid (il ⟨(r1:Int),(c1:Int),v1⟩=⟨(r1:Int),1,fl F r1⟩):=by
  show il _=_
  rw[hmm,hF]
  rfl
 clear hmm;have HX:=Qh hx0;have HA:=Qh h;have HL1:=Qh l1;have HN:=Qh hN;have HNN:=Qh hnn;have HFN:=Qh hF;clear hx0 h l1 hN hnn hF;refine zE ?_;intro u1 H;refine zB (bP (m:=⟨(r1:Int),(c1:Int),v1⟩) HA.out u1 (SI.below HX.out H.O)) ?_;clear H;intro w2 u2 H;refine zG (di HN.out hn2 u2) ?_;rintro e w3 ⟨A,cG,rfl,hos,hb⟩;replace H:=H.os hb hos
 dsimp only at H ⊢
 rw[List.length_replicate] at H ⊢;obtain⟨g,rfl,hg0,hg1⟩:=OS.pos (H.o 0) r11;refine zN ?_;clear H;intro u4 H;obtain⟨gT,hgT⟩:∃ g,g=w3.heap.size:=⟨_,rfl⟩;rw[<-hgT] at H ⊢;clear hgT;replace H:=((((H.r 3).r 3).r 2).r 3);intros
 go_loopw [16] (fun i wr=>∃ r:Nat,r<=r1/\i= .int .i64 r/\Hid (Hq w [qO w.heap.size (some ⟨g,0,none⟩) r1 cG (fl (fun i=>if i<r then F i else if i=r then ew ⟨(r1:Int),(c1:Int),v1⟩ c1 r 0%4096 else 0) r1),qB gT 37 [.int .i64 (r1:Int),.int .i64 (1:Int),.slice (some ⟨g,0,none⟩) r1 cG],qB (w.heap.size+1) 37 [.int .i64 0,.int .i64 0,.slice none 0 0],qB w.heap.size 37 [.int .i64 (r1:Int),.int .i64 (c1:Int),.slice (some ⟨a1,o1,none⟩) v1.length p1]] wr)) (fun i _=>r1-(intOf i).toNat)
 case atStart=>exact⟨0,Nat.zero_le _,rfl,by rw[show fl (fun i=>if i<0 then F i else if i=0 then ew ⟨(r1:Int),(c1:Int),v1⟩ c1 0 0%4096 else 0) r1=List.replicate r1 0 from by rw[<-j6];exact dT fun k _=>by simp[ew]];exact H⟩
 case round =>
 clear H;obtain⟨r,hr,rfl,H⟩:=hrel;have H:=H.out
 by_cases hlt:r<r1
 ·refine zN ?_;clear H;intro u21 H;refine zB (qj hlt r12 ⟨c11,c12⟩ HL1.out hp1 hq1 u21) ?_;clear H;intro w22 u22 H;intros
  go_loopw [23] (fun i wr=>∃ p:Nat,p<=c1/\i= .int .i64 p/\Hid (Hq w [qO w.heap.size (some ⟨g,0,none⟩) r1 cG (fl (fun i=>if i<r then F i else if i=r then ew ⟨(r1:Int),(c1:Int),v1⟩ c1 r p%4096 else 0) r1),qB gT 37 [.int .i64 (r1:Int),.int .i64 (1:Int),.slice (some ⟨g,0,none⟩) r1 cG],qB (w.heap.size+1) 37 [.int .i64 0,.int .i64 0,.slice none 0 0],qB w.heap.size 37 [.int .i64 (r1:Int),.int .i64 (c1:Int),.slice (some ⟨a1,o1,none⟩) v1.length p1]] wr)) (fun i _=>c1-(intOf i).toNat)
  case atStart=>exact⟨0,Nat.zero_le _,rfl,H⟩
  case round =>
  clear H;obtain⟨p,hp,rfl,H⟩:=hrel;have H:=H.out
  by_cases hqc:p<c1
  ·have hi1:r*c1+p<v1.length:=by rw[HL1.out];exact e9 hlt hqc
   have cx:=kR HX.out H.O Ql hi1;rw[<-Nat.add_assoc] at cx;obtain⟨x0,x1⟩:=dE HA.out (r*c1+p)
   dsimp only at x0 x1
   obtain⟨s,hs'⟩:∃ s,s=ew ⟨(r1:Int),(c1:Int),v1⟩ c1 r p%4096:=⟨_,rfl⟩;have hs:=Qh hs';obtain⟨x,hx⟩:∃ x,x=v1.getD (r*c1+p) 0:=⟨_,rfl⟩;have hadd:aJ s x=ew ⟨(r1:Int),(c1:Int),v1⟩ c1 r (p+1)%4096:=by
    rw[dX (by omega) (by rw[hx];exact⟨x0,x1⟩)]
    show (s+x)%4096=(ew ⟨(r1:Int),(c1:Int),v1⟩ c1 r p+v1.getD (r*c1+p) 0)%4096
    rw[<-hx,hs']
    omega
   obtain⟨y,hy⟩:∃ y,y=aJ s x:=⟨_,rfl⟩;have HPA:Hid (∀ W:World,Calls prog 146 #[.int .i64 s,.int .i64 x] W fun e w'=>e= .returned (.int .i64 y)/\W=w'):=by rw[hy];exact fun W=>iX s x W
   rw[<-hy] at hadd;have HST:Hid (fl (fun i=>if i<r then F i else if i=r then ew ⟨(r1:Int),(c1:Int),v1⟩ c1 r (p+1)%4096 else 0) r1=(fl (fun i=>if i<r then F i else if i=r then ew ⟨(r1:Int),(c1:Int),v1⟩ c1 r p%4096 else 0) r1).set r y):=pW hlt fun i hi=>by rw[hadd];by_cases e:i=r <;> by_cases e2:i<r <;> simp[e,e2] <;> omega
   rw[<-hx] at cx x0 x1;have j4:(p:Int)<(c1:Int):=by omega
   have j0:(0:Int)<=(r:Int):=by omega
   have j1:(r:Int)<(r1:Int):=by omega
   clear hx hi1 hs' hadd hy;refine zN ?_;clear H;intro u41 H;have ezG:=(a7 (H.o 0) hlt).1;refine zXZ (tg [gT,g]) ?_;clear H;intro S w42 hne H;refine zD (H.c 1) ?_;intro G;have rG:=(a7 (H.o 0) hlt).2.1;rw[show (fl (fun i=>if i<r then F i else if i=r then ew ⟨(r1:Int),(c1:Int),v1⟩ c1 r p%4096 else 0) r1).getD r 0=s from by rw[fL _ _ _ hlt];simp[hs.out]] at rG
   replace rG:=H.row rG;refine yP (HPA.out w42) ?_;have D:=a7 (H.o 0) hlt;refine nY ?_;clear H D;intro u42 H;refine zC ?_;intro C;intros;go_wp2
   go_roundw
   case rel=>exact⟨p+1,by omega,by go_num,(by rw[HST.out];exact H)⟩
   case measure=>simp[intOf];omega
  ·obtain rfl:p=c1:=by omega
   have HSE:Hid (fl (fun i=>if i<(r+1) then F i else if i=(r+1) then ew ⟨(r1:Int),(p:Int),v1⟩ p (r+1) 0%4096 else 0) r1=fl (fun i=>if i<r then F i else if i=r then ew ⟨(r1:Int),(p:Int),v1⟩ p r p%4096 else 0) r1):=dT fun i hi=>by
    by_cases h4:i<r
    ·rw[if_pos h4,if_pos (by omega)]
    ·by_cases h5:i=r
     ·rw[if_neg h4,if_pos h5,if_pos (by omega),HFN.out,h5]
     ·rw[if_neg h4,if_neg h5,if_neg (by omega)];split <;> simp[ew]
   refine zC ?_;intro C;intros;go_wp2
   go_roundw
   case rel=>exact⟨r+1,by omega,by go_num,(by rw[HSE.out];exact H)⟩
   case measure=>simp[intOf];omega
 ·obtain rfl:r=r1:=by omega
  rw[show fl (fun i=>if i<r then F i else if i=r then ew ⟨(r:Int),(c1:Int),v1⟩ c1 r 0%4096 else 0) r=fl F r from dT fun i hi=>by rw[if_pos hi]] at H
  refine zS_ ?_;clear H;intro u81 H
  exact(by rw[HMM.out];exact⟨some ⟨g,0,none⟩,cG,by dsimp only;rw[aD],by dsimp only;rw[aD];exact(H.o 0),H.O⟩)
theorem lp {m:Mx} (h:mvB m=true) {cs:Nat} (hcs:1<=cs/\cs<=5) {x:Value} (w:World) (hx:RM w x m):Calls prog 212 #[x,.int .i64 (cs:Int)] w (bD (jA m (cs:Int)) w):=by
 obtain⟨r1,c1,v1,rfl,r11,r12,c11,c12,l1,b1⟩:=nS h;obtain⟨A1,p1,rfl,hx0,hp1,hq1⟩:=hx
 dsimp only at hx0 hp1
 obtain⟨a1,o1,rfl,_,_⟩:=hx0.2 (by rw[l1];exact Nat.mul_pos r11 c11)
 obtain⟨n,hnn⟩:∃ n,n=r1*cs:=⟨_,rfl⟩;have hN:(r1:Int)*(cs:Int)=(n:Int):=by rw[hnn];push_cast;rfl
 have hn1:0<n:=by rw[hnn];exact Nat.mul_pos r11 hcs.1
 have hn25:n<=25:=by rw[hnn];exact Nat.mul_le_mul r12 hcs.2
 have hn2:n<=1048576:=by omega
 obtain⟨F,hF⟩:∃ F:Nat->Int,F=fun i=>v1.getD (i/cs) 0:=⟨_,rfl⟩
 have HMM:Hid (jA ⟨(r1:Int),(c1:Int),v1⟩ (cs:Int)=⟨(r1:Int),(cs:Int),fl F n⟩):=by
  show jA _ _=_
  rw[hF,hnn]
  rfl
 have HX:=Qh hx0;have HA:=Qh h;have HL1:=Qh l1;have HN:=Qh hN;have HNN:=Qh hnn;have HFN:=Qh hF;clear hx0 h l1 hN hnn hF;refine zE ?_;intro u1 H;refine zG (di HN.out hn2 u1) ?_;rintro e w2 ⟨A,cG,rfl,hos,hb⟩;replace H:=H.os hb hos
 dsimp only at H ⊢
 rw[List.length_replicate] at H ⊢;obtain⟨g,rfl,hg0,hg1⟩:=OS.pos (H.o 0) hn1;refine zN ?_;clear H;intro u3 H;obtain⟨gT,hgT⟩:∃ g,g=w2.heap.size:=⟨_,rfl⟩;rw[<-hgT] at H ⊢;clear hgT;replace H:=((((H.r 3).r 3).r 2).r 3);intros
 go_loopw [14] (fun i wr=>∃ j:Nat,j<=n/\i= .int .i64 j/\Hid (Hq w [qO w.heap.size (some ⟨g,0,none⟩) n cG (fl (fun i=>if i<j then F i else 0) n),qB gT 37 [.int .i64 (r1:Int),.int .i64 (cs:Int),.slice (some ⟨g,0,none⟩) n cG],qB (w.heap.size+1) 37 [.int .i64 0,.int .i64 0,.slice none 0 0],qB w.heap.size 37 [.int .i64 (r1:Int),.int .i64 (c1:Int),.slice (some ⟨a1,o1,none⟩) v1.length p1]] wr)) (fun i _=>n-(intOf i).toNat)
 case atStart=>exact⟨0,Nat.zero_le _,rfl,by rw[show fl (fun i=>if i<0 then F i else 0) n=List.replicate n 0 from by rw[<-j6];exact dT fun k _=>by simp];exact H⟩
 case round =>
 clear H;obtain⟨j,hj,rfl,H⟩:=hrel;have H:=H.out
 by_cases hlt:j<n
 ·have hdv:j/cs<v1.length:=by rw[HL1.out];rw[HNN.out] at hlt;exact Nat.div_lt_of_lt_mul (by rw[Nat.mul_comm];exact Nat.lt_of_lt_of_le hlt (Nat.mul_le_mul_right cs (Nat.le_mul_of_pos_right _ c11)))
  obtain⟨d,hd⟩:∃ d,d=j/cs:=⟨_,rfl⟩;rw[<-hd] at hdv;have hFv:Hid (v1.getD d 0=F j):=by unfold Hid;rw[HFN.out,hd]
  have hdq:(j:Int)/(cs:Int)=(d:Int):=by rw[hd];exact(Int.natCast_ediv j cs).symm
  have hdq2:Int.tdiv (j:Int) (cs:Int)=(d:Int):=by rw[Int.tdiv_eq_ediv_of_nonneg (by omega)];exact hdq
  have HST:Hid (fl (fun i=>if i<j+1 then F i else 0) n=(fl (fun i=>if i<j then F i else 0) n).set j (F j)):=pW hlt fun k _=>by
   by_cases h:k=j
   ·subst h;simp
   ·rw[if_neg h]
    by_cases h2:k<j
    ·rw[if_pos (by omega),if_pos h2]
    ·rw[if_neg (by omega),if_neg h2]
  clear hd;have d0:(0:Int)<=(d:Int):=by omega
  have d1:(d:Int)<(v1.length:Int):=by omega
  have cs0:¬(cs:Int)=0:=by omega
  have j0:(0:Int)<=(j:Int):=by omega
  have j1:(j:Int)<(n:Int):=by omega
  have la:a1<w.heap.size:=SI.aj HX.out (by omega) a1 rfl
  obtain⟨fj,hfj⟩:∃ y,y=F j:=⟨_,rfl⟩;rw[<-hfj] at hFv HST;clear hfj;refine zN ?_;clear H;intro u41 H;have ezA:=Nat.lt_of_lt_of_le la H.m;refine zXZ (tg [gT,w.heap.size,a1]) ?_;clear H;intro S w42 hne H;refine zD ((And.intro (H.c 1) (H.c 3))) ?_;intro G;have rA:=H.row (kR HX.out H.O Ql hdv);rw[hFv.out] at rA;have D:=a7 (H.o 0) hlt;refine nY ?_;clear H D;intro u42 H;refine zC ?_;intro C;intros;go_wp2
  go_roundw
  case rel=>exact⟨j+1,by omega,by go_num,(by rw[HST.out];exact H)⟩
  case measure=>simp[intOf];omega
 ·obtain rfl:j=n:=by omega
  rw[show fl (fun i=>if i<j then F i else 0) j=fl F j from dT fun i hi=>by rw[if_pos hi]] at H
  refine zS_ ?_;clear H;intro u81 H
  exact(by rw[HMM.out];exact⟨some ⟨g,0,none⟩,cG,by dsimp only;rw[aD],by dsimp only;rw[aD];exact(H.o 0),H.O⟩)
end
section
attribute [local go_sem] af ah ae
theorem Hq.spl {w0 w:World} {L:List Ow} {c d:Ow} (H:Hq w0 (c.and d::L) w) (hn:∀ i,c.F i->¬d.F i):Hq w0 (c::d::L) w:=by
 refine⟨⟨H.S.1.1,fun i hi e he=>?_,H.S.1.2,fun i hi e he=>H.S.2.1 i (.inr hi) e he,H.S.2.2⟩,fun e he i hi=>?_,H.O⟩
 ·rcases List.mem_cons.1 he with rfl|he
  ·exact hn i hi
  ·exact H.S.2.1 i (.inl hi) e he
 ·rcases List.mem_cons.1 he with rfl|he
  ·exact H.B (e.and d) (List.mem_cons_self ..) i (.inl hi)
  ·rcases List.mem_cons.1 he with rfl|he
   ·exact H.B (c.and e) (List.mem_cons_self ..) i (.inr hi)
   ·exact H.tl.B e he i hi
def Fi (r c:Int) (n:Nat) (w:World) (e:Ending) (w':World):Prop:=∃ gP gQ cP cQ:Nat,e= .returned (SMV r c (some ⟨gP,0,none⟩) n cP r c (some ⟨gQ,0,none⟩) n cQ)/\OS w' w.heap.size (some ⟨gP,0,none⟩) n cP (List.replicate n 0)/\OS w' w.heap.size (some ⟨gQ,0,none⟩) n cQ (List.replicate n 0)/\gP≠gQ/\Below w.heap.size w w'
theorem jr {r c:Int} {n:Nat} (hN:r*c=(n:Int)) (hn1:0<n) (hn2:n<=1048576) (w:World):Calls prog 250 #[.int .i64 r,.int .i64 c] w (Fi r c n w):=by
 have HN:=Qh hN;clear hN;refine zE ?_;intro u1 H;refine zO (di HN.out hn2 u1) ?_;clear H;intro w2 P cP u2 H;refine zO (di HN.out hn2 u2) ?_;clear H;intro w3 Q cQ u3 H
 (try dsimp only at H ⊢)
 rw[List.length_replicate] at H;obtain⟨gP,rfl,-,-⟩:=OS.pos (H.o 1) hn1;obtain⟨gQ,rfl,-,-⟩:=OS.pos (H.o 0) hn1;refine zS_ ?_;clear H;intro u4 H
 exact⟨gP,gQ,cP,cQ,rfl,(H.o 1),(H.o 0),fun e=>H.noo 0 1 gQ rfl (congrArg some e),H.O⟩
theorem jI {r c r' c':Int} {n p q i:Nat} {A B:Option Addr} {u v:List Int} (hi:i<n) (w:World) (hx:SI w A n u) (hy:SI w B n v) :
  Calls prog 253 #[SMV r c A n p r' c' B n q,.int .i64 (i:Int)] w fun e w'=>e= .returned (T2 (u.getD i 0) (v.getD i 0))/\Below w.heap.size w w':=by
 obtain⟨a,o,rfl,ha,hc⟩:=hx.2 (by omega)
 obtain⟨b,o',rfl,hb',hc'⟩:=hy.2 (by omega)
 have cx:=hc i hi;have cy:=hc' i hi;have j0:(0:Int)<=(i:Int):=by omega
 have j1:(i:Int)<(n:Int):=by omega
 clear hc hc' hx hy;refine zE ?_;intro u1 H;have la:=Nat.lt_of_lt_of_le ha H.m;have lb:=Nat.lt_of_lt_of_le hb' H.m;refine zX (tg [w.heap.size,a,b]) ?_;clear H;intro S w2 hne H;refine zD (H.c 1) ?_;intro G;have rx:=H.row ((H.O.cell (p:=⟨a,o+i,none⟩) ha).trans cx);have ry:=H.row ((H.O.cell (p:=⟨b,o'+i,none⟩) hb').trans cy);refine yS ?_;clear H;intro w3 H;refine yN ?_;clear H G;intro u4 H;refine zS_ ?_;clear H;intro u5 H
 exact⟨rfl,H.O⟩
theorem BE {r c r' c' x y:Int} {n p q i g h:Nat} {v1 v2:Value} (hi:i<n) (hne:g≠h) (w:World) (hg:g<w.heap.size) (hh:h<w.heap.size) (hc1:w.cell? ⟨g,i,none⟩=some v1) (hf1:w.frozen? ⟨g,i,none⟩=false) (hc2:w.cell? ⟨h,i,none⟩=some v2) (hf2:w.frozen? ⟨h,i,none⟩=false) :
  Calls prog 254 #[SMV r c (some ⟨g,0,none⟩) n p r' c' (some ⟨h,0,none⟩) n q,.int .i64 (i:Int),T2 x y] w fun e w'=>e= .returned undef/\Below ((w.setCell ⟨g,i,none⟩ (.int .i64 x)).setCell ⟨h,i,none⟩ (.int .i64 y)).heap.size ((w.setCell ⟨g,i,none⟩ (.int .i64 x)).setCell ⟨h,i,none⟩ (.int .i64 y)) w':=by
 have j0:(0:Int)<=(i:Int):=by omega
 have j1:(i:Int)<(n:Int):=by omega
 have n1:¬g=w.heap.size:=by omega
 have n2:¬g=w.heap.size+1:=by omega
 have n3:¬h=w.heap.size:=by omega
 have n4:¬h=w.heap.size+1:=by omega
 have n5:¬w.heap.size=g:=by omega
 have n6:¬w.heap.size+1=g:=by omega
 have n7:¬h=g:=fun e=>hne e.symm
 go_enter func254,ntmps254
 go_wp2
 go_end0
 exact⟨rfl,(Qb.alloc Ql _).alloc (by simp) _⟩
theorem vW {w0 w:World} {L:List Ow} {b g h n p n' i:Nat} {xs ys:List Int} {r c r' c' x y:Int} (H:Hq w0 (qO b (some ⟨g,0,none⟩) n p xs::qO b (some ⟨h,0,none⟩) n n' ys::L) w) (hi:i<n) :
  Calls prog 254 #[SMV r c (some ⟨g,0,none⟩) n p r' c' (some ⟨h,0,none⟩) n n',.int .i64 (i:Int),T2 x y] w fun e w'=>e= .returned undef/\Hq w0 (qO b (some ⟨g,0,none⟩) n p (xs.set i x)::qO b (some ⟨h,0,none⟩) n n' (ys.set i y)::L) w':=by
 obtain⟨z1,c1,f1⟩:=a7 (H.o 0) hi;obtain⟨z2,c2,f2⟩:=a7 (H.o 1) hi;refine(BE hi (fun e=>H.noo 0 1 g rfl (congrArg some e.symm)) w z1 z2 c1 f1 c2 f2).mono ?_
 rintro e w' ⟨rfl,hb⟩
 exact⟨rfl,Hq.b ((H.st Upd.o0).st (Upd.t0 Upd.o0)) hb⟩
def zJ (p:Mx×Mx) (w:World) (e:Ending) (w':World):Prop:=∃ (A B:Option Addr) (c d:Nat),e= .returned (SMV p.1.r p.1.c A p.1.v.length c p.2.r p.2.c B p.2.v.length d)/\OS w' w.heap.size A p.1.v.length c p.1.v/\OS w' w.heap.size B p.2.v.length d p.2.v/\eJ A B/\Below w.heap.size w w'
theorem tZ {p q:Mx×Mx} {f:FuncId} {caps:Array Value} {x:Value} (w:World) (hx:RS w x p) (hrun:∀ (W:World) (args:Array Value),(callFunc f args).run prog W= .ok (.enter f args) W)
  (hS:(∀ W v,Below w.heap.size w W->RM W v p.1->Calls prog f (#[v]++caps) W (bD q.1 W))/\(∀ W v,Below w.heap.size w W->RM W v p.2->Calls prog f (#[v]++caps) W (bD q.2 W))) :
  Calls prog 82 #[x,.func (.func f) #[] caps] w (zJ q w):=by
 obtain⟨A,B,a,b,rfl,h1,h2,h3,h4,h5,h6⟩:=hx;have HX:=Qh (RM.mk h1 h2 h3);have HY:=Qh (RM.mk h4 h5 h6);have HS:=Qh hS;clear h1 h2 h3 h4 h5 h6 hS;refine zE ?_;intro u1 H;refine zX (tg [w.heap.size]) ?_;clear H;intro S w2 hne H;refine zD (H.c 1) ?_;intro G;refine yO (HS.out.1 _ _ H.O (RM.below HX.out H.O)) ?_;clear H;intro w3 P cP H;refine yO (HS.out.2 _ _ H.O (RM.below HY.out H.O)) ?_;clear H;intro w4 Q cQ H;refine yS ?_;clear H;intro w5 H;refine yN ?_;clear H G;intro u6 H;refine zS_ ?_;clear H;intro u7 H
 exact⟨P,Q,cP,cQ,rfl,(H.o 1),(H.o 0),fun i hi hi'=>H.noo 0 1 i hi' hi,H.O⟩
theorem Ak {p q:Mx×Mx} {f:FuncId} {caps:Array Value} {x:Value} (w:World) (hx:RS w x p) (hrun:∀ (W:World) (args:Array Value),(callFunc f args).run prog W= .ok (.enter f args) W)
  (hS:(∀ W v,Below w.heap.size w W->RM W v p.1->Calls prog f (#[v]++caps) W (bD q.1 W))/\(∀ W v,Below w.heap.size w W->RM W v p.2->Calls prog f (#[v]++caps) W (bD q.2 W))) :
  Calls prog 82 #[x,.func (.func f) #[] caps] w (jW q w):=by
 refine(tZ w hx hrun hS).mono ?_;rintro e w' ⟨A,B,c,d,h1,h2,h3,_,h5⟩
 exact⟨A,B,c,d,h1,h2,h3,h5⟩
end
end Go.Proofs.YtjciicheoghcdaaGreatDoor

/- Part of the proof that the law FnServiceLine of the given program returns true for every input. -/
import Derived.Test.YtjciicheoghcdaaGreatDoorXo
import Derived.Test.YtjciicheoghcdaaGreatDoorXp
namespace Go.Proofs.YtjciicheoghcdaaGreatDoor
open Go.RowKit
set_option linter.unusedSimpArgs false
set_option linter.unusedVariables false
set_option maxRecDepth 20000
set_option maxHeartbeats 16000000
section
attribute [local go_sem] af ah ae
theorem Al {f m1 m2:Mx} (h1:az f m1=true) (h2:az (aE aJ f m1) m2=true) {A0 A1 A2:Option Addr} {c0 c1 c2 gO:Nat} (w:World) (hf:RM w (MV f.r f.c A0 f.v.length c0) f) (k1:RM w (MV m1.r m1.c A1 m1.v.length c1) m1) (k2:RM w (MV m2.r m2.c A2 m2.v.length c2) m2) (hO:Blk w gO 37 #[.int .i64 m1.r,.int .i64 m1.c,.slice A1 m1.v.length c1,.int .i64 m2.r,.int .i64 m2.c,.slice A2 m2.v.length c2]) :
  Calls Tryz.prog 295 #[MV f.r f.c A0 f.v.length c0,.slice (some ⟨gO,0,none⟩) 2 2] w (bD (aE aJ (aE aJ f m1) m2) w):=by
 have HF:=Lib.hid hf;have H1:=Lib.hid h1;have H2:=Lib.hid h2;have K1:=Lib.hid k1;have K2:=Lib.hid k2;clear hf h1 h2 k1 k2;refine zD hO.el ?_;intro Z
 go_in;have H:=Hq.start w
 go_wp2_with fail
 refine wp_loop_rounds 3 ?_;rw [rounds_succ];refine zM ?_;clear H;intro u1 H;refine zN ?_;clear H;intro u2 H;refine zG (rp H1.out u2 (RM.below HF.out H.O) (RM.below K1.out H.O)) ?_;rintro e w3 ⟨P1,p1,rfl,hos,hb⟩;replace H:=H.os hb hos;clear hb;refine zC ?_;intro C;intros
 go_wp2_with fail
 rw [rounds_succ];refine zM ?_;clear H C;intro u4 H;refine zN ?_;clear H;intro u5 H;refine zG (rp H2.out u5 (RM.aB (H.o 1)) (RM.below K2.out H.O)) ?_;rintro e w6 ⟨P2,p2,rfl,hos,hb⟩;replace H:=H.os hb hos;clear hb;refine zC ?_;intro C;intros
 go_wp2_with fail
 rw [rounds_succ];refine zM ?_;clear H C;intro u7 H;refine zS_ ?_;clear H;intro u8 H
 exact ⟨P2,p2,rfl,(H.o 0),H.O⟩
theorem An {f m1 m2 m3:Mx} (h1:az f m1=true) (h2:az (aE aJ f m1) m2=true) (h3:az (aE aJ (aE aJ f m1) m2) m3=true) {A0 A1 A2 A3:Option Addr} {c0 c1 c2 c3 gO:Nat} (w:World) (hf:RM w (MV f.r f.c A0 f.v.length c0) f) (k1:RM w (MV m1.r m1.c A1 m1.v.length c1) m1) (k2:RM w (MV m2.r m2.c A2 m2.v.length c2) m2) (k3:RM w (MV m3.r m3.c A3 m3.v.length c3) m3) (hO:Blk w gO 37 #[.int .i64 m1.r,.int .i64 m1.c,.slice A1 m1.v.length c1,.int .i64 m2.r,.int .i64 m2.c,.slice A2 m2.v.length c2,.int .i64 m3.r,.int .i64 m3.c,.slice A3 m3.v.length c3]) :
  Calls Tryz.prog 295 #[MV f.r f.c A0 f.v.length c0,.slice (some ⟨gO,0,none⟩) 3 3] w (bD (aE aJ (aE aJ (aE aJ f m1) m2) m3) w):=by
 have HF:=Lib.hid hf;have H1:=Lib.hid h1;have H2:=Lib.hid h2;have H3:=Lib.hid h3;have K1:=Lib.hid k1;have K2:=Lib.hid k2;have K3:=Lib.hid k3;clear hf h1 h2 h3 k1 k2 k3;refine zD hO.el ?_;intro Z
 go_in;have H:=Hq.start w
 go_wp2_with fail
 refine wp_loop_rounds 4 ?_;rw [rounds_succ];refine zM ?_;clear H;intro u1 H;refine zN ?_;clear H;intro u2 H;refine zG (rp H1.out u2 (RM.below HF.out H.O) (RM.below K1.out H.O)) ?_;rintro e w3 ⟨P1,p1,rfl,hos,hb⟩;replace H:=H.os hb hos;clear hb;refine zC ?_;intro C;intros
 go_wp2_with fail
 rw [rounds_succ];refine zM ?_;clear H C;intro u4 H;refine zN ?_;clear H;intro u5 H;refine zG (rp H2.out u5 (RM.aB (H.o 1)) (RM.below K2.out H.O)) ?_;rintro e w6 ⟨P2,p2,rfl,hos,hb⟩;replace H:=H.os hb hos;clear hb;refine zC ?_;intro C;intros
 go_wp2_with fail
 rw [rounds_succ];refine zM ?_;clear H C;intro u7 H;refine zN ?_;clear H;intro u8 H;refine zG (rp H3.out u8 (RM.aB (H.o 1)) (RM.below K3.out H.O)) ?_;rintro e w9 ⟨P3,p3,rfl,hos,hb⟩;replace H:=H.os hb hos;clear hb;refine zC ?_;intro C;intros
 go_wp2_with fail
 rw [rounds_succ];refine zM ?_;clear H C;intro u10 H;refine zS_ ?_;clear H;intro u11 H
 exact ⟨P3,p3,rfl,(H.o 0),H.O⟩
def vz (x y:Mx×Mx) (t:MTr) (w:World) (e:Ending) (w':World):Prop:=∃ A B D E c1 c2 d e',e= .returned (.tuple #[SMV (dw x y t).r (dw x y t).c A (dw x y t).v.length c1 (dF x y t).r (dF x y t).c B (dF x y t).v.length c2,MV (pD x t).r (pD x t).c D (pD x t).v.length d,MV (pE y t).r (pE y t).c E (pE y t).v.length e',.bool true])/\OS w' w.heap.size A (dw x y t).v.length c1 (dw x y t).v/\OS w' w.heap.size B (dF x y t).v.length c2 (dF x y t).v/\OS w' w.heap.size D (pD x t).v.length d (pD x t).v/\OS w' w.heap.size E (pE y t).v.length e' (pE y t).v/\Below w.heap.size w w'
theorem RS.fst {w:World} {p:Mx×Mx} {r r' c c':Int} {A B:Option Addr} {n a m b:Nat} (h:RS w (SMV r c A n a r' c' B m b) p):RM w (MV r c A n a) p.1/\RM w (MV r' c' B m b) p.2:=by
 obtain ⟨A',B',a',b',e,h1,h2,h3,h4,h5,h6⟩:=h;injection e with e;injection e with e;simp only [List.cons.injEq,Value.int.injEq,Value.slice.injEq,true_and,and_true] at e;obtain ⟨rfl,rfl,⟨rfl,rfl,rfl⟩,rfl,rfl,rfl,rfl,rfl⟩:=e
 exact ⟨RM.mk h1 h2 h3,RM.mk h4 h5 h6⟩
theorem iy {x y:Mx×Mx} {t:MTr} (hP:POK x y t) {u v z:Value} (w:World) (hx:RS w u x) (hy:RS w v y) (ht:RT w z t.a t.b t.c):Calls Tryz.prog 281 #[u,v,z] w (vz x y t w):=by
 obtain ⟨X1,X2,x1,x2,rfl,a1,a2,a3,a4,a5,a6⟩:=hx;obtain ⟨Y1,Y2,y1,y2,rfl,b1,b2,b3,b4,b5,b6⟩:=hy;have hT:=ht;obtain ⟨TA1,TA2,TB1,TB2,TC1,TC2,p1,p2,q1,q2,r1,r2,rfl,ha,hb,hc⟩:=ht;have hX:=RS.mk a1 a2 a3 a4 a5 a6;have hX1:=RM.mk a1 a2 a3;have hY:=RS.mk b1 b2 b3 b4 b5 b6;have hY1:=RM.mk b1 b2 b3;obtain ⟨hA1,hA2⟩:=ha.fst;obtain ⟨hB1,hB2⟩:=hb.fst;obtain ⟨hC1,hC2⟩:=hc.fst;have hA:=ha;have hB:=hb;clear a1 a2 a3 a4 a5 a6 b1 b2 b3 b4 b5 b6 ha hb hc;have HP:=Lib.hid hP;have HT:=Lib.hid hT;have HX:=Lib.hid hX;have HX1:=Lib.hid hX1;have HY:=Lib.hid hY;have HY1:=Lib.hid hY1;have HA:=Lib.hid hA;have HB:=Lib.hid hB;have HA1:=Lib.hid hA1;have HA2:=Lib.hid hA2;have HB1:=Lib.hid hB1;have HB2:=Lib.hid hB2;have HC1:=Lib.hid hC1;have HC2:=Lib.hid hC2;clear hP hT hX hX1 hY hY1 hA hB hA1 hA2 hB1 hB2 hC1 hC2;unfold MTV;refine zE ?_;intro u1 H;refine zB (gC HP.out.ox u1 (RS.below HX.out H.O)) ?_;clear H;intro w2 u2 H;refine zG (gC HP.out.oy u2 (RS.below HY.out H.O)) ?_;rintro e w3 ⟨rfl,hb⟩;replace H:=H.b hb;clear hb;refine zC ?_;intro C;intros
 go_wp2_with (with_reducible refine lT 244 rfl ?_)
 refine zM ?_;clear H C;intro u4 H;intros;refine Lib.hid ?_;refine b_ (by rfl) rfl rfl (H.k 3) Tryz.underlying244 rfl (by kernel_rfl) ?_
 refine zN ?_;clear H;intro u5 H;refine zB (iw HP.out.tk u5 (RT.below HT.out H.O)) ?_;clear H;intro w6 u6 H;refine zB (sZ HP.out.ar HP.out.ac u6 (RM.below HX1.out H.O) (RM.below HA1.out H.O)) ?_;clear H;intro w7 u7 H;refine zB (sZ HP.out.br HP.out.bc u7 (RM.below HY1.out H.O) (RM.below HB1.out H.O)) ?_;clear H;intro w8 u8 H;have E:=H.el;refine zXF (tgF [w.heap.size+2,w.heap.size] 6 10 (.cells #[.int .i64 0,.int .i64 0,.slice none 0 0] 37)) ?_;clear H;intro S w9 hne H;refine zD ((And.intro (H.c 3) (H.c 5))) ?_;intro G;refine fO (fun w10 (hb:Bw w9 w10)=>iJ HP.out.ox w10 (RS.below HX.out (H.b hb).O)) ?_;clear H;intro w11 Q1 cQ1 H
 refine fO (fun w12 (hb:Bw w11 w12)=>iJ HP.out.tk.va w12 (RS.below HA.out (H.b hb).O)) ?_;clear H;intro w13 Q2 cQ2 H
 refine fO (fun w14 (hb:Bw w13 w14)=>(show Calls Tryz.prog 168 #[_,_] w14 (bD (pD x t) w14) from tY HP.out.ld w14 (RM.aB ((H.b hb).o 1)) (RM.aB ((H.b hb).o 0)))) ?_;clear H;intro w15 D1 cD1 H
 refine yG ?_;clear H;intro w16 g16 hg16 H;refine yS ?_;clear H;intro w17 H;refine yN ?_;clear H G;intro u18 H;replace H:=H.d 3;replace H:=H.d 2;have E:=H.el;refine zXF (tgF [w.heap.size+2,w.heap.size+1] 6 11 (.cells #[.int .i64 0,.int .i64 0,.slice none 0 0] 37)) ?_;clear H;intro S w19 hne H;refine zD ((And.intro (H.c 5) (H.c 6))) ?_;intro G;refine fO (fun w20 (hb:Bw w19 w20)=>iJ HP.out.oy w20 (RS.below HY.out (H.b hb).O)) ?_;clear H;intro w21 Q1 cQ1 H
 refine fO (fun w22 (hb:Bw w21 w22)=>iJ HP.out.tk.vb w22 (RS.below HB.out (H.b hb).O)) ?_;clear H;intro w23 Q2 cQ2 H
 refine fO (fun w24 (hb:Bw w23 w24)=>(show Calls Tryz.prog 168 #[_,_] w24 (bD (pE y t) w24) from tY HP.out.le w24 (RM.aB ((H.b hb).o 1)) (RM.aB ((H.b hb).o 0)))) ?_;clear H;intro w25 E1 cE1 H
 refine yG ?_;clear H;intro w26 g26 hg26 H;refine yS ?_;clear H;intro w27 H;refine yN ?_;clear H G;intro u28 H;replace H:=H.d 3;replace H:=H.d 2;have E:=H.el;refine zXF (tgF [g26,g16,w.heap.size+2] 18 12 (.cells #[.int .i64 0,.int .i64 0,.slice none 0 0] 37)) ?_;clear H;intro S w29 hne H;refine zD ((And.intro (H.c 0) (And.intro (H.c 2) (H.c 7)))) ?_;intro G;refine fO (fun w30 (hb:Bw w29 w30)=>pg HP.out.db1 w30 (RM.aB ((H.b hb).o 3)) (RM.below HB1.out (H.b hb).O)) ?_;clear H;intro w31 Q1 cQ1 H
 refine fO (fun w32 (hb:Bw w31 w32)=>pg HP.out.ae1 w32 (RM.below HA1.out (H.b hb).O) (RM.aB ((H.b hb).o 2))) ?_;clear H;intro w33 Q2 cQ2 H
 refine fO (fun w34 (hb:Bw w33 w34)=>pg HP.out.de w34 (RM.aB ((H.b hb).o 5)) (RM.aB ((H.b hb).o 3))) ?_;clear H;intro w35 Q3 cQ3 H
 refine fM ?_;clear H;intro w36 w37 H;refine fO (fun w38 (hb:Bw w37 w38)=>(show Calls Tryz.prog 295 #[_,_] w38 (bD (dw x y t) w38) from An HP.out.c1 HP.out.s1 HP.out.l1 w38 (RM.below HC1.out (H.b hb).O) (RM.aB ((H.b hb).o 3)) (RM.aB ((H.b hb).o 2)) (RM.aB ((H.b hb).o 1)) ((H.b hb).k 0))) ?_;clear H;intro w39 O1 cO1 H
 replace H:=H.d 1;refine yG ?_;clear H;intro w40 g40 hg40 H;refine yS ?_;clear H;intro w41 H;refine yN ?_;clear H G;intro u42 H;replace H:=H.d 4;replace H:=H.d 3;replace H:=H.d 2;have E:=H.el;refine zXF (tgF [g26,g16,w.heap.size+2] 15 13 (.cells #[.int .i64 0,.int .i64 0,.slice none 0 0] 37)) ?_;clear H;intro S w43 hne H;refine zD ((And.intro (H.c 2) (And.intro (H.c 4) (H.c 9)))) ?_;intro G;refine fO (fun w44 (hb:Bw w43 w44)=>pg HP.out.db2 w44 (RM.aB ((H.b hb).o 5)) (RM.below HB2.out (H.b hb).O)) ?_;clear H;intro w45 Q1 cQ1 H
 refine fO (fun w46 (hb:Bw w45 w46)=>pg HP.out.ae2 w46 (RM.below HA2.out (H.b hb).O) (RM.aB ((H.b hb).o 4))) ?_;clear H;intro w47 Q2 cQ2 H
 refine fM ?_;clear H;intro w48 w49 H;refine fO (fun w50 (hb:Bw w49 w50)=>(show Calls Tryz.prog 295 #[_,_] w50 (bD (dF x y t) w50) from Al HP.out.c2 HP.out.s2 w50 (RM.below HC2.out (H.b hb).O) (RM.aB ((H.b hb).o 2)) (RM.aB ((H.b hb).o 1)) ((H.b hb).k 0))) ?_;clear H;intro w51 O2 cO2 H
 replace H:=H.d 1;refine yG ?_;clear H;intro w52 g52 hg52 H;refine yS ?_;clear H;intro w53 H;refine yN ?_;clear H G;intro u54 H;replace H:=H.d 3;replace H:=H.d 2;refine zX (tg [g52,g40,g26,g16]) ?_;clear H;intro S w55 hne H;refine zD ((And.intro (H.c 0) (And.intro (H.c 2) (And.intro (H.c 4) (H.c 6))))) ?_;intro G;refine yS ?_;clear H;intro w56 H;refine yS ?_;clear H;intro w57 H;refine yS ?_;clear H;intro w58 H;refine yN ?_;clear H G;intro u59 H;refine zRe ?_;clear H;intro u60 H
 exact bodyPost_ret (mh rfl rfl rfl rfl (H.k 10) (H.k 9) (H.k 8) Tryz.underlying82 Tryz.underlying37 Tryz.underlying37 rfl rfl rfl (by kernel_rfl) (by kernel_rfl) (by kernel_rfl)) rfl ⟨O1,O2,D1,E1,cO1,cO2,cD1,cE1,rfl,(H.o 3),(H.o 1),(H.o 7),(H.o 5),H.O⟩
end
section
attribute [local go_sem] af ah ae
def xA (a b c:Mx×Mx) (s:Int) (w:World) (e:Ending) (w':World):Prop:=∃ A1 A2 B1 B2 C1 C2 p1 p2 q1 q2 r1 r2,e= .returned (.tuple #[MTV a b c A1 A2 B1 B2 C1 C2 p1 p2 q1 q2 r1 r2,.int .i64 s])/\OS w' w.heap.size A1 a.1.v.length p1 a.1.v/\OS w' w.heap.size A2 a.2.v.length p2 a.2.v/\OS w' w.heap.size B1 b.1.v.length q1 b.1.v/\OS w' w.heap.size B2 b.2.v.length q2 b.2.v/\OS w' w.heap.size C1 c.1.v.length r1 c.1.v/\OS w' w.heap.size C2 c.2.v.length r2 c.2.v/\Below w.heap.size w w'
theorem iK {r i c s:Int} (hr:side r=true) (hi:side i=true) (hc:side c=true) (hs:sdB s=true) (w:World):Calls Tryz.prog 280 #[.int .i64 r,.int .i64 i,.int .i64 c,.int .i64 s] w (xA (ig r i c s).a (ig r i c s).b (ig r i c s).c (oC r i c s) w):=by
 obtain ⟨s1,hd1⟩:∃ x,x=sds s (nm r i):=⟨_,rfl⟩;obtain ⟨s2,hd2⟩:∃ x,x=sds s1 (nm r i):=⟨_,rfl⟩;obtain ⟨s3,hd3⟩:∃ x,x=sds s2 (nm i c):=⟨_,rfl⟩;obtain ⟨s4,hd4⟩:∃ x,x=sds s3 (nm i c):=⟨_,rfl⟩;obtain ⟨s5,hd5⟩:∃ x,x=sds s4 (nm r c):=⟨_,rfl⟩;obtain ⟨ma,hma⟩:∃ x,x=cT r i s:=⟨_,rfl⟩;obtain ⟨mb,hmb⟩:∃ x,x=cT r i s1:=⟨_,rfl⟩;obtain ⟨mc,hmc⟩:∃ x,x=cT i c s2:=⟨_,rfl⟩;obtain ⟨md,hmd⟩:∃ x,x=cT i c s3:=⟨_,rfl⟩;obtain ⟨me,hme⟩:∃ x,x=cT r c s4:=⟨_,rfl⟩;have HS1:Hid (sdB s1=true):=hd1 ▸ cS hs _;have HS2:Hid (sdB s2=true):=hd2 ▸ cS HS1.out _;have HS3:Hid (sdB s3=true):=hd3 ▸ cS HS2.out _;have HS4:Hid (sdB s4=true):=hd4 ▸ cS HS3.out _;have oa:okS (ma,mb)=true:=by rw [hma,hmb];exact aY (bU hr hi) (bU hr hi) rfl rfl
 have ob:okS (mc,md)=true:=by rw [hmc,hmd];exact aY (bU hi hc) (bU hi hc) rfl rfl
 have hab:ma.c=mc.r:=by rw [hma,hmc];rfl
 have hmm:=eV (eZ oa ob hab);have hlk:az (mulM (aq (ma,mb)) (aq (mc,md))) me=true:=aY hmm.1 (by rw [hme];exact bU hr hc) (by rw [hmm.2.1,(aN oa).2.1,hme];show ma.r=r;rw [hma];rfl) (by rw [hmm.2.2,(aN ob).2.2,hme];show mc.c=c;rw [hmc];rfl)
 have HT:Hid (ig r i c s=⟨(ma,mb),(mc,md),(me,aE bC (mulM (aq (ma,mb)) (aq (mc,md))) me)⟩):=by
  show ig r i c s=_
  rw [hma,hmb,hmc,hmd,hme,hd4,hd3,hd2,hd1]
  rfl
 have HN:Hid (oC r i c s=s5):=by
  show oC r i c s=_
  rw [hd5,hd4,hd3,hd2,hd1]
  rfl
 have HOA:=Lib.hid oa;have HOB:=Lib.hid ob;have HAB:=Lib.hid hab;have HLK:=Lib.hid hlk;have HR:=Lib.hid hr;have HI:=Lib.hid hi;have HC:=Lib.hid hc;have HS:=Lib.hid hs;have Hma:=Lib.hid hma;have Hmb:=Lib.hid hmb;have Hmc:=Lib.hid hmc;have Hmd:=Lib.hid hmd;have Hme:=Lib.hid hme;have HD1:=Lib.hid hd1;have HD2:=Lib.hid hd2;have HD3:=Lib.hid hd3;have HD4:=Lib.hid hd4;have HD5:=Lib.hid hd5;clear oa ob hab hmm hlk hr hi hc hs hma hmb hmc hmd hme hd1 hd2 hd3 hd4 hd5;refine zE ?_;intro u1 H;refine zP (dj HR.out u1) ?_;clear H;intro u2 H;refine zP (dj HI.out u2) ?_;clear H;intro u3 H;refine zP (dj HC.out u3) ?_;clear H;intro u4 H;refine zP (aU (dH HS.out) u4) ?_;clear H;intro u5 H;refine zO ((show Calls Tryz.prog 167 #[_,_,_] u5 (ij ma s1 u5) from by rw [Hma.out,HD1.out];exact b8 HR.out HI.out HS.out u5)) ?_;clear H;intro w6 P0 n0 u6 H
 refine zO ((show Calls Tryz.prog 167 #[_,_,_] u6 (ij mb s2 u6) from by rw [Hmb.out,HD2.out];exact b8 HR.out HI.out HS1.out u6)) ?_;clear H;intro w7 P1 n1 u7 H
 refine zO ((show Calls Tryz.prog 167 #[_,_,_] u7 (ij mc s3 u7) from by rw [Hmc.out,HD3.out];exact b8 HI.out HC.out HS2.out u7)) ?_;clear H;intro w8 P2 n2 u8 H
 refine zO ((show Calls Tryz.prog 167 #[_,_,_] u8 (ij md s4 u8) from by rw [Hmd.out,HD4.out];exact b8 HI.out HC.out HS3.out u8)) ?_;clear H;intro w9 P3 n3 u9 H
 refine zO ((show Calls Tryz.prog 167 #[_,_,_] u9 (ij me s5 u9) from by rw [Hme.out,HD5.out];exact b8 HR.out HC.out HS4.out u9)) ?_;clear H;intro w10 P4 n4 u10 H
 refine zXZ (tg [u4.heap.size]) ?_;clear H;intro S w11 hne H;refine zD (H.c 5) ?_;intro G;intros;refine lc' fun K hK=> ?_
 refine ev rfl rfl (H.bl (H.k 5) (by simp)) Tryz.underlying244 rfl (by kernel_rfl) ?_
 go_simp
 refine hK _ ?_;refine yO (nw (a:=(ma,mb)) (b:=(mc,md)) (c:=(me,Mx.z)) HOA.out HOB.out HAB.out w11 ⟨P0,P1,P2,P3,P4,none,n0,n1,n2,n3,n4,0,rfl,RS.aB (H.o 4) (H.o 3),RS.aB (H.o 2) (H.o 1),RS.aB (H.o 0) (OS.nil _ w.heap.size)⟩) ?_;clear H;intro w12 R cR H;refine yO (tY HLK.out w12 (RM.aB (H.o 0)) (RM.aB (H.o 1))) ?_;clear H;intro w13 Q cQ H;intros;refine zCr ?_;intro C;intros
 repeat (first | (refine lc' ?_;intro K hK;go_big_quiet_op;go_big_quiet_on) | refine lk' ?_)
 refine aV rfl (by rfl) (by rfl) (fun K hK=> ?_)
 unfold Oper.gives
 go_simp
 refine hK _ _ ?_;replace H:=H.H;refine aI ?_;clear C G;refine zC ?_;intro C;intros
 go_wp2_with (with_reducible refine lT 244 rfl ?_)
 refine zM ?_;clear H C;intro u14 H;intros;refine Lib.hid ?_;refine b_ (by rfl) rfl rfl (H.k 7) Tryz.underlying244 rfl (by kernel_rfl) ?_
 refine zC ?_;intro C;intros
 go_wp2_with (with_reducible refine gn 244 rfl ?_)
 refine zM ?_;clear H C;intro u15 H;intros;refine Lib.hid ?_;refine zSt ?_;clear H;intro w15 H;refine zS_ ?_;clear H;intro u16 H
 exact (by rw [HT.out,HN.out];exact ⟨P0,P1,P2,P3,P4,Q,n0,n1,n2,n3,n4,cQ,rfl,(H.o 6),(H.o 5),(H.o 4),(H.o 3),(H.o 2),(H.o 0),H.O⟩)
end
section
attribute [local go_sem] af ah ae
theorem uO {m1 m2 c1 c2 gO:Nat} {D1 D2:Option Addr} {x1 x2:List Int} (hm1:0<m1) (hm2:0<m2) (hb:m1+m2<=1000) (w:World) (h1:SI w D1 m1 x1) (h2:SI w D2 m2 x2) (hO:Blk w gO 35 #[.slice D1 m1 c1,.slice D2 m2 c2]) :
  Calls Tryz.prog 282 #[.slice (some ⟨gO,0,none⟩) 2 2] w (vy (m1+m2) (x1++x2) w):=by
 have H1:=Lib.hid h1;have H2:=Lib.hid h2;clear h1 h2;refine zD hO.el ?_;intro Z
 go_in;have H:=(Hq.start w).nil
 refine zC ?_;intro C;go_wp2;refine wp_loop_rounds 3 ?_;rw [rounds_succ];clear C;refine zC ?_;intro C;intros
 go_wp2_with (at_builtin;refine zM ?_)
 clear H C;intro u1 H;refine zA (SI.below H1.out H.O) True.intro ?_;clear H;intro E1 e1 w1 H;refine zC ?_;intro C;intros
 go_wp2_with fail
 rw [rounds_succ];refine zM ?_;clear H C;intro u2 H;refine zC ?_;intro C;intros
 go_wp2_with (at_builtin;refine zM ?_)
 clear H C;intro u3 H;refine zA (SI.below H2.out H.O) True.intro ?_;clear H;intro E2 e2 w3 H;refine zC ?_;intro C;intros
 go_wp2_with fail
 rw [rounds_succ];refine zM ?_;clear H C;intro u4 H;refine zR ?_;clear H;intro u5 H
 exact ⟨E2,e2,rfl,(H.o 0),H.O⟩
theorem ka {x y:Mx×Mx} {s:Int} (hox:okS x=true) (hoy:okS y=true) (hxy:x.1.c=y.1.r) (hs:sdB s=true) {u v:Value} (w:World) (hx:RS w u x) (hy:RS w v y) :
  Calls Tryz.prog 247 #[u,v,.int .i64 s] w (bo (dG x y s).1 (dG x y s).2 50 w):=by
 obtain ⟨X1,X2,x1,x2,rfl,a1,a2,a3,a4,a5,a6⟩:=hx;obtain ⟨Y1,Y2,y1,y2,rfl,b1,b2,b3,b4,b5,b6⟩:=hy;have hX:=RS.mk a1 a2 a3 a4 a5 a6;have hY:=RS.mk b1 b2 b3 b4 b5 b6;clear a1 a2 a3 a4 a5 a6 b1 b2 b3 b4 b5 b6;have hP:=qq (s:=s) hox hoy hxy;obtain ⟨hR,hI⟩:=aA (ai hox).1;obtain ⟨_,hC⟩:=aA (ai hoy).1;obtain ⟨t,htr⟩:∃ t,t=ig x.1.r x.1.c y.1.c s:=⟨_,rfl⟩;have hTR:t=ig x.1.r x.1.c y.1.c s:=htr;rw [<- htr] at hP;have hPS:dG x y s=((dw x y t,dF x y t),oC x.1.r x.1.c y.1.c s):=by rw [htr];rfl
 have hLD:=dy hP.d.1;have hLE:=dy hP.e.1;clear htr;have hne:(x.1.c != y.1.r)=false:=by simp [hxy]
 clear hxy;have HOX:=Lib.hid hox;have HOY:=Lib.hid hoy;have HS:=Lib.hid hs;have HX:=Lib.hid hX;have HY:=Lib.hid hY;have HP:=Lib.hid hP;have HR:=Lib.hid hR;have HI:=Lib.hid hI;have HC:=Lib.hid hC;have HTR:=Lib.hid hTR;have HPS:=Lib.hid hPS;have HLD:=Lib.hid hLD;have HLE:=Lib.hid hLE;clear hox hoy hs hX hY hP hR hI hC hTR hPS hLD hLE;refine zE ?_;intro u1 H;refine zB (gC HOX.out u1 (RS.below HX.out H.O)) ?_;clear H;intro w2 u2 H;refine zB (gC HOY.out u2 (RS.below HY.out H.O)) ?_;clear H;intro w3 u3 H;refine zP (aU (dH HS.out) u3) ?_;clear H;intro u4 H;refine zG ((show Calls Tryz.prog 280 #[_,_,_,_] u4 (xA t.a t.b t.c (oC x.1.r x.1.c y.1.c s) u4) from by rw [HTR.out];exact iK HR.out HI.out HC.out HS.out u4)) ?_
 rintro e w5 ⟨T1,T2,T3,T4,T5,T6,k1,k2,k3,k4,k5,k6,rfl,f1,f2,f3,f4,f5,f6,hb⟩;replace H:=H.tt hb ⟨f1,f2⟩ ⟨f3,f4⟩ ⟨f5,f6⟩;unfold MTV;refine zC ?_;intro C;intros
 go_wp2_with (with_reducible refine gn 244 rfl ?_)
 refine zM ?_;clear H C;intro u6 H;intros;refine Lib.hid ?_;refine zSt ?_;clear H;intro w6 H;refine zC ?_;intro C;intros
 go_wp2_with (with_reducible refine lT 244 rfl ?_)
 refine zM ?_;clear H C;intro u7 H;intros;refine Lib.hid ?_;refine b_ (by rfl) rfl rfl (H.k 0) Tryz.underlying244 rfl (by kernel_rfl) ?_
 refine zN ?_;clear H;intro u8 H;refine zG (iy HP.out u8 (RS.below HX.out H.O) (RS.below HY.out H.O) (wU (qS.rs (Ow.P1 (H.p 1))) (qS.rs (Ow.P1 (Ow.P2 (H.p 1)))) (qS.rs (Ow.P2 (Ow.P2 (H.p 1)))))) ?_;rintro e w9 ⟨P,Q,D,E,cP,cQ,cD,cE,rfl,f1,f2,f3,f4,hb⟩;replace H:=H.soo hb (p:=(dw x y t,dF x y t)) f1 f2 f3 f4;replace H:=H.d 2;replace H:=H.d 1;refine zN ?_;clear H;intro u10 H;refine zX (tg [w9.heap.size+2,w9.heap.size+1,w9.heap.size]) ?_;clear H;intro S w11 hne H;refine zD ((And.intro (H.c 0) (And.intro (H.c 1) (H.c 2)))) ?_;intro G;refine yM ?_;clear H;intro w12 H;refine yO (uO HLD.out.1 HLE.out.1 (by have:=HLD.out.2;have:=HLE.out.2;omega) w12 (OS.si (Ow.P1 (Ow.P2 (H.p 4)))) (OS.si (Ow.P2 (Ow.P2 (H.p 4)))) (H.k 0)) ?_;clear H;intro w13 L cL H
 refine yS ?_;clear H;intro w14 H;refine yN ?_;clear H G;intro u15 H;refine zS_ ?_;clear H;intro u16 H
 exact ⟨P,cP,Q,cQ,L,_,cL,_,(by rw [HPS.out];rfl),by rw [HPS.out];exact qS.a (Ow.P1 (H.p 5)),by rw [HPS.out];exact qS.b (Ow.P1 (H.p 5)),(H.o 0),(by have:=HLD.out;have:=HLE.out;omega),H.O⟩
end
theorem iq (k:Nat) (hk:k<4096): -2048<=sgn (k:Int)/\sgn (k:Int)<=2047:=by
 rw [qJ k hk];split <;> omega
theorem lv1 (k:Nat) (hk:k<4096) (h:sgn (k:Int)<0):lv k=1:=by
 unfold lv;rw [qJ k hk] at h
 split at h
 ·rw [if_pos (by assumption)]
 ·omega
theorem lv0 (k:Nat) (hk:k<4096) (h:¬ sgn (k:Int)<0):lv k=0:=by
 unfold lv;rw [qJ k hk] at h
 split at h
 ·omega
 ·rw [if_neg (by assumption)]
theorem gy (k:Nat) (hk:k<4096) (w:World):Calls Tryz.prog 297 #[.int .i64 (k:Int)] w fun e w'=>e= .returned (.int .i64 (fnv 1 k))/\w=w':=by
 have hr:0<=(k:Int)/\(k:Int)<=4095:=by omega
 obtain ⟨q,hq⟩:∃ q,q=sgn (k:Int):=⟨_,rfl⟩;have HS:=dL (k:Int) w;have HV:Hid (fnv 1 k=(q/16)%4096):=by rw [hq];exact rfl
 rw [<- hq] at HS;have HS:=Lib.hid HS;have hb:=iq k hk;rw [<- hq] at hb;obtain ⟨hb1,hb2⟩:=hb;clear hq
 go_enter Tryz.func297,Tryz.ntmps297
 go_wp2_with fail
 refine (an (k:Int) hr w).mono ?_;rintro e w' ⟨rfl,rfl⟩
 go_wp2_with fail
 refine HS.out.mono ?_;rintro e w' ⟨rfl,rfl⟩
 go_wp2_with fail
 refine (dK _ w).mono ?_;rintro e w' ⟨rfl,rfl⟩;go_wp2
 go_ret
 exact ⟨ag HV.out.symm,rfl⟩
theorem aC {K:Int} (h:1<=K/\K<=5) (w:World):Calls Tryz.prog 248 #[.int .i64 K] w fun e w'=>e= .returned (.bool true)/\w=w':=by
 obtain ⟨h1,h2⟩:=h
 go_enter Tryz.func248,Tryz.ntmps248
 go_wp2
 go_ret
 exact ⟨rfl,rfl⟩
theorem oG (k:Nat) (hk:k<4096) (w:World):Calls Tryz.prog 283 #[.int .i64 1,.int .i64 (k:Int)] w fun e w'=>e= .returned (.int .i64 (fnv 1 k))/\w=w':=by
 have hr:0<=(k:Int)/\(k:Int)<=4095:=by omega
 obtain ⟨q,hq⟩:∃ q,q=sgn (k:Int):=⟨_,rfl⟩;have HS:=dL (k:Int) w;rw [<- hq] at HS;have HS:=Lib.hid HS;have hb:=iq k hk;rw [<- hq] at hb;obtain ⟨hb1,hb2⟩:=hb;have HC:=Lib.hid (gy k hk w)
 ·clear hq
  skip
  go_enter Tryz.func283,Tryz.ntmps283
  go_wp2_with fail
  refine (aC (K:=1) (by omega) w).mono ?_
  rintro e w' ⟨rfl,rfl⟩
  go_wp2_with fail
  refine (an (k:Int) hr w).mono ?_;rintro e w' ⟨rfl,rfl⟩
  go_wp2_with fail
  refine HS.out.mono ?_;rintro e w' ⟨rfl,rfl⟩
  go_wp2_with fail
  refine HC.out.mono ?_;rintro e w' ⟨rfl,rfl⟩;go_wp2
  go_ret
  exact ⟨rfl,rfl⟩
theorem oH (k:Nat) (hk:k<4096) (w:World):Calls Tryz.prog 283 #[.int .i64 2,.int .i64 (k:Int)] w fun e w'=>e= .returned (.int .i64 (fnv 2 k))/\w=w':=by
 have hr:0<=(k:Int)/\(k:Int)<=4095:=by omega
 obtain ⟨q,hq⟩:∃ q,q=sgn (k:Int):=⟨_,rfl⟩;have HS:=dL (k:Int) w;rw [<- hq] at HS;have HS:=Lib.hid HS;have hb:=iq k hk;rw [<- hq] at hb;obtain ⟨hb1,hb2⟩:=hb;have HC:=Lib.hid (gy k hk w);rcases (by omega:(0<=q)\/(q<0)) with hc | hc
 ·have HV:Hid (fnv 2 k=q):=by show (if 0<=sgn k then sgn k else 0)=q;rw [<- hq,if_pos hc]
  clear hq
  skip
  go_enter Tryz.func283,Tryz.ntmps283
  go_wp2_with fail
  refine (aC (K:=2) (by omega) w).mono ?_
  rintro e w' ⟨rfl,rfl⟩
  go_wp2_with fail
  refine (an (k:Int) hr w).mono ?_;rintro e w' ⟨rfl,rfl⟩
  go_wp2_with fail
  refine HS.out.mono ?_;rintro e w' ⟨rfl,rfl⟩;go_wp2
  go_ret
  first | exact ⟨ag HV.out.symm,rfl⟩ | exact ⟨ag (by rw [HV.out];decide),rfl⟩
 ·have HV:Hid (fnv 2 k=0):=by show (if 0<=sgn k then sgn k else 0)=0;rw [<- hq,if_neg (by omega)]
  clear hq
  skip
  go_enter Tryz.func283,Tryz.ntmps283
  go_wp2_with fail
  refine (aC (K:=2) (by omega) w).mono ?_
  rintro e w' ⟨rfl,rfl⟩
  go_wp2_with fail
  refine (an (k:Int) hr w).mono ?_;rintro e w' ⟨rfl,rfl⟩
  go_wp2_with fail
  refine HS.out.mono ?_;rintro e w' ⟨rfl,rfl⟩;go_wp2
  go_ret
  first | exact ⟨ag HV.out.symm,rfl⟩ | exact ⟨ag (by rw [HV.out];decide),rfl⟩
theorem nu (k:Nat) (hk:k<4096) (w:World):Calls Tryz.prog 283 #[.int .i64 3,.int .i64 (k:Int)] w fun e w'=>e= .returned (.int .i64 (fnv 3 k))/\w=w':=by
 have hr:0<=(k:Int)/\(k:Int)<=4095:=by omega
 obtain ⟨q,hq⟩:∃ q,q=sgn (k:Int):=⟨_,rfl⟩;have HS:=dL (k:Int) w;rw [<- hq] at HS;have HS:=Lib.hid HS;have hb:=iq k hk;rw [<- hq] at hb;obtain ⟨hb1,hb2⟩:=hb;have HC:=Lib.hid (gy k hk w);rcases (by omega:(q<0)\/(¬ q<0)) with hc | hc
 ·have HV:Hid (fnv 3 k=1):=lv1 k hk (hq ▸ hc);clear hq
  skip
  go_enter Tryz.func283,Tryz.ntmps283
  go_wp2_with fail
  refine (aC (K:=3) (by omega) w).mono ?_
  rintro e w' ⟨rfl,rfl⟩
  go_wp2_with fail
  refine (an (k:Int) hr w).mono ?_;rintro e w' ⟨rfl,rfl⟩
  go_wp2_with fail
  refine HS.out.mono ?_;rintro e w' ⟨rfl,rfl⟩;go_wp2
  go_ret
  first | exact ⟨ag HV.out.symm,rfl⟩ | exact ⟨ag (by rw [HV.out];decide),rfl⟩
 ·have HV:Hid (fnv 3 k=0):=lv0 k hk (hq ▸ hc);clear hq
  skip
  go_enter Tryz.func283,Tryz.ntmps283
  go_wp2_with fail
  refine (aC (K:=3) (by omega) w).mono ?_
  rintro e w' ⟨rfl,rfl⟩
  go_wp2_with fail
  refine (an (k:Int) hr w).mono ?_;rintro e w' ⟨rfl,rfl⟩
  go_wp2_with fail
  refine HS.out.mono ?_;rintro e w' ⟨rfl,rfl⟩;go_wp2
  go_ret
  first | exact ⟨ag HV.out.symm,rfl⟩ | exact ⟨ag (by rw [HV.out];decide),rfl⟩
theorem oI (k:Nat) (hk:k<4096) (w:World):Calls Tryz.prog 283 #[.int .i64 4,.int .i64 (k:Int)] w fun e w'=>e= .returned (.int .i64 (fnv 4 k))/\w=w':=by
 have hr:0<=(k:Int)/\(k:Int)<=4095:=by omega
 obtain ⟨q,hq⟩:∃ q,q=sgn (k:Int):=⟨_,rfl⟩;have HS:=dL (k:Int) w;rw [<- hq] at HS;have HS:=Lib.hid HS;have hb:=iq k hk;rw [<- hq] at hb;obtain ⟨hb1,hb2⟩:=hb;have HC:=Lib.hid (gy k hk w);rcases (by omega:(q < -64)\/(-64<=q/\q < -48)\/(-48<=q/\q < -32)\/(-32<=q/\q < -16)\/(-16<=q/\q<0)\/(0<=q/\q<16)\/(16<=q/\q<32)\/(32<=q/\q<48)\/(48<=q)) with hc | hc | hc | hc | hc | hc | hc | hc | hc
 ·have HV:Hid (fnv 4 k=1):=by show gro (sgn k)=1;rw [<- hq];unfold gro;(repeat' split) <;> omega
  clear hq;have hd:q/16 < -4:=by omega
  go_enter Tryz.func283,Tryz.ntmps283
  go_wp2_with fail
  refine (aC (K:=4) (by omega) w).mono ?_
  rintro e w' ⟨rfl,rfl⟩
  go_wp2_with fail
  refine (an (k:Int) hr w).mono ?_;rintro e w' ⟨rfl,rfl⟩
  go_wp2_with fail
  refine HS.out.mono ?_;rintro e w' ⟨rfl,rfl⟩;go_wp2
  go_ret
  first | exact ⟨ag HV.out.symm,rfl⟩ | exact ⟨ag (by rw [HV.out];decide),rfl⟩
 ·have HV:Hid (fnv 4 k=1):=by show gro (sgn k)=1;rw [<- hq];unfold gro;(repeat' split) <;> omega
  clear hq;have hd:q/16= -4:=by omega
  go_enter Tryz.func283,Tryz.ntmps283
  go_wp2_with fail
  refine (aC (K:=4) (by omega) w).mono ?_
  rintro e w' ⟨rfl,rfl⟩
  go_wp2_with fail
  refine (an (k:Int) hr w).mono ?_;rintro e w' ⟨rfl,rfl⟩
  go_wp2_with fail
  refine HS.out.mono ?_;rintro e w' ⟨rfl,rfl⟩;go_wp2
  go_ret
  first | exact ⟨ag HV.out.symm,rfl⟩ | exact ⟨ag (by rw [HV.out];decide),rfl⟩
 ·have HV:Hid (fnv 4 k=2):=by show gro (sgn k)=2;rw [<- hq];unfold gro;(repeat' split) <;> omega
  clear hq;have hd:q/16= -3:=by omega
  go_enter Tryz.func283,Tryz.ntmps283
  go_wp2_with fail
  refine (aC (K:=4) (by omega) w).mono ?_
  rintro e w' ⟨rfl,rfl⟩
  go_wp2_with fail
  refine (an (k:Int) hr w).mono ?_;rintro e w' ⟨rfl,rfl⟩
  go_wp2_with fail
  refine HS.out.mono ?_;rintro e w' ⟨rfl,rfl⟩;go_wp2
  go_ret
  first | exact ⟨ag HV.out.symm,rfl⟩ | exact ⟨ag (by rw [HV.out];decide),rfl⟩
 ·have HV:Hid (fnv 4 k=4):=by show gro (sgn k)=4;rw [<- hq];unfold gro;(repeat' split) <;> omega
  clear hq;have hd:q/16= -2:=by omega
  go_enter Tryz.func283,Tryz.ntmps283
  go_wp2_with fail
  refine (aC (K:=4) (by omega) w).mono ?_
  rintro e w' ⟨rfl,rfl⟩
  go_wp2_with fail
  refine (an (k:Int) hr w).mono ?_;rintro e w' ⟨rfl,rfl⟩
  go_wp2_with fail
  refine HS.out.mono ?_;rintro e w' ⟨rfl,rfl⟩;go_wp2
  go_ret
  first | exact ⟨ag HV.out.symm,rfl⟩ | exact ⟨ag (by rw [HV.out];decide),rfl⟩
 ·have HV:Hid (fnv 4 k=8):=by show gro (sgn k)=8;rw [<- hq];unfold gro;(repeat' split) <;> omega
  clear hq;have hd:q/16= -1:=by omega
  go_enter Tryz.func283,Tryz.ntmps283
  go_wp2_with fail
  refine (aC (K:=4) (by omega) w).mono ?_
  rintro e w' ⟨rfl,rfl⟩
  go_wp2_with fail
  refine (an (k:Int) hr w).mono ?_;rintro e w' ⟨rfl,rfl⟩
  go_wp2_with fail
  refine HS.out.mono ?_;rintro e w' ⟨rfl,rfl⟩;go_wp2
  go_ret
  first | exact ⟨ag HV.out.symm,rfl⟩ | exact ⟨ag (by rw [HV.out];decide),rfl⟩
 ·have HV:Hid (fnv 4 k=16):=by show gro (sgn k)=16;rw [<- hq];unfold gro;(repeat' split) <;> omega
  clear hq;have hd:q/16=0:=by omega
  go_enter Tryz.func283,Tryz.ntmps283
  go_wp2_with fail
  refine (aC (K:=4) (by omega) w).mono ?_
  rintro e w' ⟨rfl,rfl⟩
  go_wp2_with fail
  refine (an (k:Int) hr w).mono ?_;rintro e w' ⟨rfl,rfl⟩
  go_wp2_with fail
  refine HS.out.mono ?_;rintro e w' ⟨rfl,rfl⟩;go_wp2
  go_ret
  first | exact ⟨ag HV.out.symm,rfl⟩ | exact ⟨ag (by rw [HV.out];decide),rfl⟩
 ·have HV:Hid (fnv 4 k=32):=by show gro (sgn k)=32;rw [<- hq];unfold gro;(repeat' split) <;> omega
  clear hq;have hd:q/16=1:=by omega
  go_enter Tryz.func283,Tryz.ntmps283
  go_wp2_with fail
  refine (aC (K:=4) (by omega) w).mono ?_
  rintro e w' ⟨rfl,rfl⟩
  go_wp2_with fail
  refine (an (k:Int) hr w).mono ?_;rintro e w' ⟨rfl,rfl⟩
  go_wp2_with fail
  refine HS.out.mono ?_;rintro e w' ⟨rfl,rfl⟩;go_wp2
  go_ret
  first | exact ⟨ag HV.out.symm,rfl⟩ | exact ⟨ag (by rw [HV.out];decide),rfl⟩
 ·have HV:Hid (fnv 4 k=64):=by show gro (sgn k)=64;rw [<- hq];unfold gro;(repeat' split) <;> omega
  clear hq;have hd:q/16=2:=by omega
  go_enter Tryz.func283,Tryz.ntmps283
  go_wp2_with fail
  refine (aC (K:=4) (by omega) w).mono ?_
  rintro e w' ⟨rfl,rfl⟩
  go_wp2_with fail
  refine (an (k:Int) hr w).mono ?_;rintro e w' ⟨rfl,rfl⟩
  go_wp2_with fail
  refine HS.out.mono ?_;rintro e w' ⟨rfl,rfl⟩;go_wp2
  go_ret
  first | exact ⟨ag HV.out.symm,rfl⟩ | exact ⟨ag (by rw [HV.out];decide),rfl⟩
 ·have HV:Hid (fnv 4 k=64):=by show gro (sgn k)=64;rw [<- hq];unfold gro;(repeat' split) <;> omega
  clear hq;have hd:2<q/16:=by omega
  go_enter Tryz.func283,Tryz.ntmps283
  go_wp2_with fail
  refine (aC (K:=4) (by omega) w).mono ?_
  rintro e w' ⟨rfl,rfl⟩
  go_wp2_with fail
  refine (an (k:Int) hr w).mono ?_;rintro e w' ⟨rfl,rfl⟩
  go_wp2_with fail
  refine HS.out.mono ?_;rintro e w' ⟨rfl,rfl⟩;go_wp2
  go_ret
  first | exact ⟨ag HV.out.symm,rfl⟩ | exact ⟨ag (by rw [HV.out];decide),rfl⟩
theorem oJ (k:Nat) (hk:k<4096) (w:World):Calls Tryz.prog 283 #[.int .i64 5,.int .i64 (k:Int)] w fun e w'=>e= .returned (.int .i64 (fnv 5 k))/\w=w':=by
 have hr:0<=(k:Int)/\(k:Int)<=4095:=by omega
 obtain ⟨q,hq⟩:∃ q,q=sgn (k:Int):=⟨_,rfl⟩;have HS:=dL (k:Int) w;rw [<- hq] at HS;have HS:=Lib.hid HS;have hb:=iq k hk;rw [<- hq] at hb;obtain ⟨hb1,hb2⟩:=hb;have HC:=Lib.hid (gy k hk w);rcases (by omega:(q<=0)\/(0<q)) with hc | hc
 ·have HV:Hid (fnv 5 k=0):=by show (if sgn k<=0 then 0 else 256/sgn k)=0;rw [<- hq,if_pos hc]
  clear hq
  skip
  go_enter Tryz.func283,Tryz.ntmps283
  go_wp2_with fail
  refine (aC (K:=5) (by omega) w).mono ?_
  rintro e w' ⟨rfl,rfl⟩
  go_wp2_with fail
  refine (an (k:Int) hr w).mono ?_;rintro e w' ⟨rfl,rfl⟩
  go_wp2_with fail
  refine HS.out.mono ?_;rintro e w' ⟨rfl,rfl⟩;go_wp2
  go_ret
  first | exact ⟨ag HV.out.symm,rfl⟩ | exact ⟨ag (by rw [HV.out];decide),rfl⟩
 ·have HV:Hid (fnv 5 k=256/q):=by show (if sgn k<=0 then 0 else 256/sgn k)=256/q;rw [<- hq,if_neg (by omega)]
  clear hq;have hq0:q≠0:=by omega
  go_enter Tryz.func283,Tryz.ntmps283
  go_wp2_with fail
  refine (aC (K:=5) (by omega) w).mono ?_
  rintro e w' ⟨rfl,rfl⟩
  go_wp2_with fail
  refine (an (k:Int) hr w).mono ?_;rintro e w' ⟨rfl,rfl⟩
  go_wp2_with fail
  refine HS.out.mono ?_;rintro e w' ⟨rfl,rfl⟩;go_wp2
  go_ret
  first | exact ⟨ag HV.out.symm,rfl⟩ | exact ⟨ag (by rw [HV.out];decide),rfl⟩
theorem p_ {K:Int} (h:1<=K/\K<=5) (k:Nat) (hk:k<4096) (w:World):Calls Tryz.prog 283 #[.int .i64 K,.int .i64 (k:Int)] w fun e w'=>e= .returned (.int .i64 (fnv K k))/\w=w':=by
 rcases (by omega:K=1\/K=2\/K=3\/K=4\/K=5) with rfl | rfl | rfl | rfl | rfl
 ·exact oG k hk w
 ·exact oH k hk w
 ·exact nu k hk w
 ·exact oI k hk w
 ·exact oJ k hk w
theorem lh {K:Int} (h:1<=K/\K<=5) (w:World):Calls Tryz.prog 249 #[.int .i64 K] w (vy 4096 (fl (fnv K) 4096) w):=by
 have hmk:∀ W:World,(Instr.makeSlice 35 (.int .i64 4096) (.int .i64 4096)).run Tryz.prog W= .ok (.slice (some ⟨W.heap.size,0,none⟩) 4096 4096) (W.alloc (ZB 4096)):=fun W=>jc 4096 (by omega) W
 have HZ:=Lib.hid (OS.sN w 4096 (by omega))
 have HW:=Lib.hid ((Below.refl w.heap.size w).alloc (Nat.le_refl _) (ZB 4096));have HZ0:Hid (OS (w.alloc (ZB 4096)) w.heap.size (some ⟨w.heap.size,0,none⟩) 4096 4096 (fl (fnv K) 0++List.replicate (4096-0) 0)):=by
  have e0:fl (fnv K) 0=[]:=rfl;rw [e0,List.nil_append,Nat.sub_zero]
  exact HZ
 have HK:=Lib.hid h;clear HZ h
 go_enter Tryz.func249,Tryz.ntmps249
 go_wp2_with fail
 refine (aC HK.out w).mono ?_;rintro e w' ⟨rfl,rfl⟩;go_wp2
 go_loopw [11] (fun i wr=>∃ j:Nat,j<=4096/\i= .int .i64 j/\Hid (OS wr w.heap.size (some ⟨w.heap.size,0,none⟩) 4096 4096 (fl (fnv K) j++List.replicate (4096-j) 0))/\Hid (Below w.heap.size w wr)) (fun i _=>4096-(intOf i).toNat)
 case atStart=>exact ⟨0,Nat.zero_le _,rfl,HZ0,HW⟩
 case round =>
  obtain ⟨j,hj,rfl,hos,hon⟩:=hrel
  by_cases hlt:j<4096
  ·obtain ⟨u,cu⟩:∃ u,wr.cell? ⟨w.heap.size,j,none⟩=some (.int .i64 u):=by
    obtain ⟨b',off',e,_,hc⟩:=hos.out.si.2 (by omega)
    injection e with e;injection e with e1 e2;subst e1 e2;have:=hc j hlt;rw [Nat.zero_add] at this
    exact ⟨_,this⟩
   have fu:=hos.out.frozen j w.heap.size rfl;have i0:(0:Int)<=(j:Int):=by omega
   have i1:(j:Int)<4096:=by omega
   go_wp2_with fail
   refine (p_ HK.out j hlt wr).mono ?_;rintro e w' ⟨rfl,rfl⟩;go_wp2
   go_roundw
   case rel =>
    have st:=World.ownsRow.stored hos.out j (.int .i64 (fnv K j));refine ⟨j+1,by omega,by go_num,?_,hon.out.setCell (Nat.le_refl _) _⟩
    have h:=st.1;rw [<- List.map_set,jF (fnv K) 4096 j hlt] at h
    exact h
   case measure=>simp [intOf];omega
  ·have hjn:j=4096:=by omega
   subst hjn;have hfin:OS wr w.heap.size (some ⟨w.heap.size,0,none⟩) 4096 4096 (fl (fnv K) 4096):=by
    have h:=hos.out;rw [Nat.sub_self,List.replicate_zero,List.append_nil] at h
    exact h
   have HF:=Lib.hid hfin;clear hfin hos;go_wp2
   go_ret
   exact ⟨some ⟨w.heap.size,0,none⟩,4096,rfl,HF.out,hon.out⟩
end Go.Proofs.YtjciicheoghcdaaGreatDoor

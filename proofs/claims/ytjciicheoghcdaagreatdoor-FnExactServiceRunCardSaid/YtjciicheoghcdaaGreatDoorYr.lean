/- Part of the proof that the law FnExactServiceRun of the given program returns true for every input. -/
import Derived.Test.YtjciicheoghcdaaGreatDoorYk
import Derived.Test.YtjciicheoghcdaaGreatDoorYo
import Derived.Test.YtjciicheoghcdaaGreatDoorYp
import Derived.Test.YtjciicheoghcdaaGreatDoorYq
namespace Go.Proofs.YtjciicheoghcdaaGreatDoor
open Go.RowKit
set_option linter.unusedSimpArgs false
set_option linter.unusedVariables false
set_option maxRecDepth 20000
set_option maxHeartbeats 16000000
section
attribute [local go_sem] af ah ae
theorem uO {m1 m2 c1 c2 gO:Nat} {D1 D2:Option Addr} {x1 x2:List Int} (hm1:0<m1) (hm2:0<m2) (hb:m1+m2<=1000) (w:World) (h1:SI w D1 m1 x1) (h2:SI w D2 m2 x2) (hO:Blk w gO 35 #[.slice D1 m1 c1,.slice D2 m2 c2]) :
  Calls Tryz.prog 282 #[.slice (some ⟨gO,0,none⟩) 2 2] w (vy (m1+m2) (x1++x2) w):=by
 have H1:=Lib.hid h1;have H2:=Lib.hid h2;clear h1 h2;refine zD hO.el ?_;intro Z
 go_in;have H:=(Hq.start w).nil
 refine zC ?_;intro C;go_wp2;refine wp_loop_rounds 3 ?_;rw [rounds_succ];clear C;refine zC ?_;intro C;intros
 go_wp2_with (at_builtin;refine zM ?_)
 clear H C;intro u1 H;refine zA (SI.below H1.out H.O) True.intro ?_;clear H;intro E1 e1 w1 H;refine zC ?_;intro C;intros
 go_wp2_with fail
 rw [rounds_succ];refine zM ?_;clear H C;intro u2 H;refine zC ?_;intro C;intros
 go_wp2_with (at_builtin;refine zM ?_)
 clear H C;intro u3 H;refine zA (SI.below H2.out H.O) True.intro ?_;clear H;intro E2 e2 w3 H;refine zC ?_;intro C;intros
 go_wp2_with fail
 rw [rounds_succ];refine zM ?_;clear H C;intro u4 H;refine zR ?_;clear H;intro u5 H
 exact ⟨E2,e2,rfl,(H.o 0),H.O⟩
theorem ka {x y:Mx×Mx} {s:Int} (hox:okS x=true) (hoy:okS y=true) (hxy:x.1.c=y.1.r) (hs:sdB s=true) {u v:Value} (w:World) (hx:RS w u x) (hy:RS w v y) :
  Calls Tryz.prog 247 #[u,v,.int .i64 s] w (bo (dG x y s).1 (dG x y s).2 50 w):=by
 obtain ⟨X1,X2,x1,x2,rfl,a1,a2,a3,a4,a5,a6⟩:=hx;obtain ⟨Y1,Y2,y1,y2,rfl,b1,b2,b3,b4,b5,b6⟩:=hy;have hX:=RS.mk a1 a2 a3 a4 a5 a6;have hY:=RS.mk b1 b2 b3 b4 b5 b6;clear a1 a2 a3 a4 a5 a6 b1 b2 b3 b4 b5 b6;have hP:=qq (s:=s) hox hoy hxy;obtain ⟨hR,hI⟩:=aA (ai hox).1;obtain ⟨_,hC⟩:=aA (ai hoy).1;obtain ⟨t,htr⟩:∃ t,t=ig x.1.r x.1.c y.1.c s:=⟨_,rfl⟩;have hTR:t=ig x.1.r x.1.c y.1.c s:=htr;rw [<- htr] at hP;have hPS:dG x y s=((dw x y t,dF x y t),oC x.1.r x.1.c y.1.c s):=by rw [htr];rfl
 have hLD:=dy hP.d.1;have hLE:=dy hP.e.1;clear htr;have hne:(x.1.c != y.1.r)=false:=by simp [hxy]
 clear hxy;have HOX:=Lib.hid hox;have HOY:=Lib.hid hoy;have HS:=Lib.hid hs;have HX:=Lib.hid hX;have HY:=Lib.hid hY;have HP:=Lib.hid hP;have HR:=Lib.hid hR;have HI:=Lib.hid hI;have HC:=Lib.hid hC;have HTR:=Lib.hid hTR;have HPS:=Lib.hid hPS;have HLD:=Lib.hid hLD;have HLE:=Lib.hid hLE;clear hox hoy hs hX hY hP hR hI hC hTR hPS hLD hLE;refine zE ?_;intro u1 H;refine zB (gC HOX.out u1 (RS.below HX.out H.O)) ?_;clear H;intro w2 u2 H;refine zB (gC HOY.out u2 (RS.below HY.out H.O)) ?_;clear H;intro w3 u3 H;refine zP (aU (dH HS.out) u3) ?_;clear H;intro u4 H;refine zG ((show Calls Tryz.prog 280 #[_,_,_,_] u4 (xA t.a t.b t.c (oC x.1.r x.1.c y.1.c s) u4) from by rw [HTR.out];exact iK HR.out HI.out HC.out HS.out u4)) ?_
 rintro e w5 ⟨T1,T2,T3,T4,T5,T6,k1,k2,k3,k4,k5,k6,rfl,f1,f2,f3,f4,f5,f6,hb⟩;replace H:=H.tt hb ⟨f1,f2⟩ ⟨f3,f4⟩ ⟨f5,f6⟩;unfold MTV;refine zC ?_;intro C;intros
 go_wp2_with (with_reducible refine gn 244 rfl ?_)
 refine zM ?_;clear H C;intro u6 H;intros;refine Lib.hid ?_;refine zSt ?_;clear H;intro w6 H;refine zC ?_;intro C;intros
 go_wp2_with (with_reducible refine lT 244 rfl ?_)
 refine zM ?_;clear H C;intro u7 H;intros;refine Lib.hid ?_;refine b_ (by rfl) rfl rfl (H.k 0) Tryz.underlying244 rfl (by kernel_rfl) ?_
 refine zN ?_;clear H;intro u8 H;refine zG (iy HP.out u8 (RS.below HX.out H.O) (RS.below HY.out H.O) (wU (qS.rs (Ow.P1 (H.p 1))) (qS.rs (Ow.P1 (Ow.P2 (H.p 1)))) (qS.rs (Ow.P2 (Ow.P2 (H.p 1)))))) ?_;rintro e w9 ⟨P,Q,D,E,cP,cQ,cD,cE,rfl,f1,f2,f3,f4,hb⟩;replace H:=H.soo hb (p:=(dw x y t,dF x y t)) f1 f2 f3 f4;replace H:=H.d 2;replace H:=H.d 1;refine zN ?_;clear H;intro u10 H;refine zX (tg [w9.heap.size+2,w9.heap.size+1,w9.heap.size]) ?_;clear H;intro S w11 hne H;refine zD ((And.intro (H.c 0) (And.intro (H.c 1) (H.c 2)))) ?_;intro G;refine yM ?_;clear H;intro w12 H;refine yO (uO HLD.out.1 HLE.out.1 (by have:=HLD.out.2;have:=HLE.out.2;omega) w12 (OS.si (Ow.P1 (Ow.P2 (H.p 4)))) (OS.si (Ow.P2 (Ow.P2 (H.p 4)))) (H.k 0)) ?_;clear H;intro w13 L cL H
 refine yS ?_;clear H;intro w14 H;refine yN ?_;clear H G;intro u15 H;refine zS_ ?_;clear H;intro u16 H
 exact ⟨P,cP,Q,cQ,L,_,cL,_,(by rw [HPS.out];rfl),by rw [HPS.out];exact qS.a (Ow.P1 (H.p 5)),by rw [HPS.out];exact qS.b (Ow.P1 (H.p 5)),(H.o 0),(by have:=HLD.out;have:=HLE.out;omega),H.O⟩
end
theorem iq (k:Nat) (hk:k<4096): -2048<=sgn (k:Int)/\sgn (k:Int)<=2047:=by
 rw [qJ k hk];split <;> omega
theorem lv1 (k:Nat) (hk:k<4096) (h:sgn (k:Int)<0):lv k=1:=by
 unfold lv;rw [qJ k hk] at h
 split at h
 ·rw [if_pos (by assumption)]
 ·omega
theorem lv0 (k:Nat) (hk:k<4096) (h:¬ sgn (k:Int)<0):lv k=0:=by
 unfold lv;rw [qJ k hk] at h
 split at h
 ·omega
 ·rw [if_neg (by assumption)]
theorem gy (k:Nat) (hk:k<4096) (w:World):Calls Tryz.prog 297 #[.int .i64 (k:Int)] w fun e w'=>e= .returned (.int .i64 (fnv 1 k))/\w=w':=by
 have hr:0<=(k:Int)/\(k:Int)<=4095:=by omega
 obtain ⟨q,hq⟩:∃ q,q=sgn (k:Int):=⟨_,rfl⟩;have HS:=dL (k:Int) w;have HV:Hid (fnv 1 k=(q/16)%4096):=by rw [hq];exact rfl
 rw [<- hq] at HS;have HS:=Lib.hid HS;have hb:=iq k hk;rw [<- hq] at hb;obtain ⟨hb1,hb2⟩:=hb;clear hq
 go_enter Tryz.func297,Tryz.ntmps297
 go_wp2_with fail
 refine (an (k:Int) hr w).mono ?_;rintro e w' ⟨rfl,rfl⟩
 go_wp2_with fail
 refine HS.out.mono ?_;rintro e w' ⟨rfl,rfl⟩
 go_wp2_with fail
 refine (dK _ w).mono ?_;rintro e w' ⟨rfl,rfl⟩;go_wp2
 go_ret
 exact ⟨ag HV.out.symm,rfl⟩
theorem aC {K:Int} (h:1<=K/\K<=5) (w:World):Calls Tryz.prog 248 #[.int .i64 K] w fun e w'=>e= .returned (.bool true)/\w=w':=by
 obtain ⟨h1,h2⟩:=h
 go_enter Tryz.func248,Tryz.ntmps248
 go_wp2
 go_ret
 exact ⟨rfl,rfl⟩
theorem oG (k:Nat) (hk:k<4096) (w:World):Calls Tryz.prog 283 #[.int .i64 1,.int .i64 (k:Int)] w fun e w'=>e= .returned (.int .i64 (fnv 1 k))/\w=w':=by
 have hr:0<=(k:Int)/\(k:Int)<=4095:=by omega
 obtain ⟨q,hq⟩:∃ q,q=sgn (k:Int):=⟨_,rfl⟩;have HS:=dL (k:Int) w;rw [<- hq] at HS;have HS:=Lib.hid HS;have hb:=iq k hk;rw [<- hq] at hb;obtain ⟨hb1,hb2⟩:=hb;have HC:=Lib.hid (gy k hk w)
 ·clear hq
  skip
  go_enter Tryz.func283,Tryz.ntmps283
  go_wp2_with fail
  refine (aC (K:=1) (by omega) w).mono ?_
  rintro e w' ⟨rfl,rfl⟩
  go_wp2_with fail
  refine (an (k:Int) hr w).mono ?_;rintro e w' ⟨rfl,rfl⟩
  go_wp2_with fail
  refine HS.out.mono ?_;rintro e w' ⟨rfl,rfl⟩
  go_wp2_with fail
  refine HC.out.mono ?_;rintro e w' ⟨rfl,rfl⟩;go_wp2
  go_ret
  exact ⟨rfl,rfl⟩
theorem oH (k:Nat) (hk:k<4096) (w:World):Calls Tryz.prog 283 #[.int .i64 2,.int .i64 (k:Int)] w fun e w'=>e= .returned (.int .i64 (fnv 2 k))/\w=w':=by
 have hr:0<=(k:Int)/\(k:Int)<=4095:=by omega
 obtain ⟨q,hq⟩:∃ q,q=sgn (k:Int):=⟨_,rfl⟩;have HS:=dL (k:Int) w;rw [<- hq] at HS;have HS:=Lib.hid HS;have hb:=iq k hk;rw [<- hq] at hb;obtain ⟨hb1,hb2⟩:=hb;have HC:=Lib.hid (gy k hk w);rcases (by omega:(0<=q)\/(q<0)) with hc | hc
 ·have HV:Hid (fnv 2 k=q):=by show (if 0<=sgn k then sgn k else 0)=q;rw [<- hq,if_pos hc]
  clear hq
  skip
  go_enter Tryz.func283,Tryz.ntmps283
  go_wp2_with fail
  refine (aC (K:=2) (by omega) w).mono ?_
  rintro e w' ⟨rfl,rfl⟩
  go_wp2_with fail
  refine (an (k:Int) hr w).mono ?_;rintro e w' ⟨rfl,rfl⟩
  go_wp2_with fail
  refine HS.out.mono ?_;rintro e w' ⟨rfl,rfl⟩;go_wp2
  go_ret
  first | exact ⟨ag HV.out.symm,rfl⟩ | exact ⟨ag (by rw [HV.out];decide),rfl⟩
 ·have HV:Hid (fnv 2 k=0):=by show (if 0<=sgn k then sgn k else 0)=0;rw [<- hq,if_neg (by omega)]
  clear hq
  skip
  go_enter Tryz.func283,Tryz.ntmps283
  go_wp2_with fail
  refine (aC (K:=2) (by omega) w).mono ?_
  rintro e w' ⟨rfl,rfl⟩
  go_wp2_with fail
  refine (an (k:Int) hr w).mono ?_;rintro e w' ⟨rfl,rfl⟩
  go_wp2_with fail
  refine HS.out.mono ?_;rintro e w' ⟨rfl,rfl⟩;go_wp2
  go_ret
  first | exact ⟨ag HV.out.symm,rfl⟩ | exact ⟨ag (by rw [HV.out];decide),rfl⟩
theorem nu (k:Nat) (hk:k<4096) (w:World):Calls Tryz.prog 283 #[.int .i64 3,.int .i64 (k:Int)] w fun e w'=>e= .returned (.int .i64 (fnv 3 k))/\w=w':=by
 have hr:0<=(k:Int)/\(k:Int)<=4095:=by omega
 obtain ⟨q,hq⟩:∃ q,q=sgn (k:Int):=⟨_,rfl⟩;have HS:=dL (k:Int) w;rw [<- hq] at HS;have HS:=Lib.hid HS;have hb:=iq k hk;rw [<- hq] at hb;obtain ⟨hb1,hb2⟩:=hb;have HC:=Lib.hid (gy k hk w);rcases (by omega:(q<0)\/(¬ q<0)) with hc | hc
 ·have HV:Hid (fnv 3 k=1):=lv1 k hk (hq ▸ hc);clear hq
  skip
  go_enter Tryz.func283,Tryz.ntmps283
  go_wp2_with fail
  refine (aC (K:=3) (by omega) w).mono ?_
  rintro e w' ⟨rfl,rfl⟩
  go_wp2_with fail
  refine (an (k:Int) hr w).mono ?_;rintro e w' ⟨rfl,rfl⟩
  go_wp2_with fail
  refine HS.out.mono ?_;rintro e w' ⟨rfl,rfl⟩;go_wp2
  go_ret
  first | exact ⟨ag HV.out.symm,rfl⟩ | exact ⟨ag (by rw [HV.out];decide),rfl⟩
 ·have HV:Hid (fnv 3 k=0):=lv0 k hk (hq ▸ hc);clear hq
  skip
  go_enter Tryz.func283,Tryz.ntmps283
  go_wp2_with fail
  refine (aC (K:=3) (by omega) w).mono ?_
  rintro e w' ⟨rfl,rfl⟩
  go_wp2_with fail
  refine (an (k:Int) hr w).mono ?_;rintro e w' ⟨rfl,rfl⟩
  go_wp2_with fail
  refine HS.out.mono ?_;rintro e w' ⟨rfl,rfl⟩;go_wp2
  go_ret
  first | exact ⟨ag HV.out.symm,rfl⟩ | exact ⟨ag (by rw [HV.out];decide),rfl⟩
theorem oI (k:Nat) (hk:k<4096) (w:World):Calls Tryz.prog 283 #[.int .i64 4,.int .i64 (k:Int)] w fun e w'=>e= .returned (.int .i64 (fnv 4 k))/\w=w':=by
 have hr:0<=(k:Int)/\(k:Int)<=4095:=by omega
 obtain ⟨q,hq⟩:∃ q,q=sgn (k:Int):=⟨_,rfl⟩;have HS:=dL (k:Int) w;rw [<- hq] at HS;have HS:=Lib.hid HS;have hb:=iq k hk;rw [<- hq] at hb;obtain ⟨hb1,hb2⟩:=hb;have HC:=Lib.hid (gy k hk w);rcases (by omega:(q < -64)\/(-64<=q/\q < -48)\/(-48<=q/\q < -32)\/(-32<=q/\q < -16)\/(-16<=q/\q<0)\/(0<=q/\q<16)\/(16<=q/\q<32)\/(32<=q/\q<48)\/(48<=q)) with hc | hc | hc | hc | hc | hc | hc | hc | hc
 ·have HV:Hid (fnv 4 k=1):=by show gro (sgn k)=1;rw [<- hq];unfold gro;(repeat' split) <;> omega
  clear hq;have hd:q/16 < -4:=by omega
  go_enter Tryz.func283,Tryz.ntmps283
  go_wp2_with fail
  refine (aC (K:=4) (by omega) w).mono ?_
  rintro e w' ⟨rfl,rfl⟩
  go_wp2_with fail
  refine (an (k:Int) hr w).mono ?_;rintro e w' ⟨rfl,rfl⟩
  go_wp2_with fail
  refine HS.out.mono ?_;rintro e w' ⟨rfl,rfl⟩;go_wp2
  go_ret
  first | exact ⟨ag HV.out.symm,rfl⟩ | exact ⟨ag (by rw [HV.out];decide),rfl⟩
 ·have HV:Hid (fnv 4 k=1):=by show gro (sgn k)=1;rw [<- hq];unfold gro;(repeat' split) <;> omega
  clear hq;have hd:q/16= -4:=by omega
  go_enter Tryz.func283,Tryz.ntmps283
  go_wp2_with fail
  refine (aC (K:=4) (by omega) w).mono ?_
  rintro e w' ⟨rfl,rfl⟩
  go_wp2_with fail
  refine (an (k:Int) hr w).mono ?_;rintro e w' ⟨rfl,rfl⟩
  go_wp2_with fail
  refine HS.out.mono ?_;rintro e w' ⟨rfl,rfl⟩;go_wp2
  go_ret
  first | exact ⟨ag HV.out.symm,rfl⟩ | exact ⟨ag (by rw [HV.out];decide),rfl⟩
 ·have HV:Hid (fnv 4 k=2):=by show gro (sgn k)=2;rw [<- hq];unfold gro;(repeat' split) <;> omega
  clear hq;have hd:q/16= -3:=by omega
  go_enter Tryz.func283,Tryz.ntmps283
  go_wp2_with fail
  refine (aC (K:=4) (by omega) w).mono ?_
  rintro e w' ⟨rfl,rfl⟩
  go_wp2_with fail
  refine (an (k:Int) hr w).mono ?_;rintro e w' ⟨rfl,rfl⟩
  go_wp2_with fail
  refine HS.out.mono ?_;rintro e w' ⟨rfl,rfl⟩;go_wp2
  go_ret
  first | exact ⟨ag HV.out.symm,rfl⟩ | exact ⟨ag (by rw [HV.out];decide),rfl⟩
 ·have HV:Hid (fnv 4 k=4):=by show gro (sgn k)=4;rw [<- hq];unfold gro;(repeat' split) <;> omega
  clear hq;have hd:q/16= -2:=by omega
  go_enter Tryz.func283,Tryz.ntmps283
  go_wp2_with fail
  refine (aC (K:=4) (by omega) w).mono ?_
  rintro e w' ⟨rfl,rfl⟩
  go_wp2_with fail
  refine (an (k:Int) hr w).mono ?_;rintro e w' ⟨rfl,rfl⟩
  go_wp2_with fail
  refine HS.out.mono ?_;rintro e w' ⟨rfl,rfl⟩;go_wp2
  go_ret
  first | exact ⟨ag HV.out.symm,rfl⟩ | exact ⟨ag (by rw [HV.out];decide),rfl⟩
 ·have HV:Hid (fnv 4 k=8):=by show gro (sgn k)=8;rw [<- hq];unfold gro;(repeat' split) <;> omega
  clear hq;have hd:q/16= -1:=by omega
  go_enter Tryz.func283,Tryz.ntmps283
  go_wp2_with fail
  refine (aC (K:=4) (by omega) w).mono ?_
  rintro e w' ⟨rfl,rfl⟩
  go_wp2_with fail
  refine (an (k:Int) hr w).mono ?_;rintro e w' ⟨rfl,rfl⟩
  go_wp2_with fail
  refine HS.out.mono ?_;rintro e w' ⟨rfl,rfl⟩;go_wp2
  go_ret
  first | exact ⟨ag HV.out.symm,rfl⟩ | exact ⟨ag (by rw [HV.out];decide),rfl⟩
 ·have HV:Hid (fnv 4 k=16):=by show gro (sgn k)=16;rw [<- hq];unfold gro;(repeat' split) <;> omega
  clear hq;have hd:q/16=0:=by omega
  go_enter Tryz.func283,Tryz.ntmps283
  go_wp2_with fail
  refine (aC (K:=4) (by omega) w).mono ?_
  rintro e w' ⟨rfl,rfl⟩
  go_wp2_with fail
  refine (an (k:Int) hr w).mono ?_;rintro e w' ⟨rfl,rfl⟩
  go_wp2_with fail
  refine HS.out.mono ?_;rintro e w' ⟨rfl,rfl⟩;go_wp2
  go_ret
  first | exact ⟨ag HV.out.symm,rfl⟩ | exact ⟨ag (by rw [HV.out];decide),rfl⟩
 ·have HV:Hid (fnv 4 k=32):=by show gro (sgn k)=32;rw [<- hq];unfold gro;(repeat' split) <;> omega
  clear hq;have hd:q/16=1:=by omega
  go_enter Tryz.func283,Tryz.ntmps283
  go_wp2_with fail
  refine (aC (K:=4) (by omega) w).mono ?_
  rintro e w' ⟨rfl,rfl⟩
  go_wp2_with fail
  refine (an (k:Int) hr w).mono ?_;rintro e w' ⟨rfl,rfl⟩
  go_wp2_with fail
  refine HS.out.mono ?_;rintro e w' ⟨rfl,rfl⟩;go_wp2
  go_ret
  first | exact ⟨ag HV.out.symm,rfl⟩ | exact ⟨ag (by rw [HV.out];decide),rfl⟩
 ·have HV:Hid (fnv 4 k=64):=by show gro (sgn k)=64;rw [<- hq];unfold gro;(repeat' split) <;> omega
  clear hq;have hd:q/16=2:=by omega
  go_enter Tryz.func283,Tryz.ntmps283
  go_wp2_with fail
  refine (aC (K:=4) (by omega) w).mono ?_
  rintro e w' ⟨rfl,rfl⟩
  go_wp2_with fail
  refine (an (k:Int) hr w).mono ?_;rintro e w' ⟨rfl,rfl⟩
  go_wp2_with fail
  refine HS.out.mono ?_;rintro e w' ⟨rfl,rfl⟩;go_wp2
  go_ret
  first | exact ⟨ag HV.out.symm,rfl⟩ | exact ⟨ag (by rw [HV.out];decide),rfl⟩
 ·have HV:Hid (fnv 4 k=64):=by show gro (sgn k)=64;rw [<- hq];unfold gro;(repeat' split) <;> omega
  clear hq;have hd:2<q/16:=by omega
  go_enter Tryz.func283,Tryz.ntmps283
  go_wp2_with fail
  refine (aC (K:=4) (by omega) w).mono ?_
  rintro e w' ⟨rfl,rfl⟩
  go_wp2_with fail
  refine (an (k:Int) hr w).mono ?_;rintro e w' ⟨rfl,rfl⟩
  go_wp2_with fail
  refine HS.out.mono ?_;rintro e w' ⟨rfl,rfl⟩;go_wp2
  go_ret
  first | exact ⟨ag HV.out.symm,rfl⟩ | exact ⟨ag (by rw [HV.out];decide),rfl⟩
theorem oJ (k:Nat) (hk:k<4096) (w:World):Calls Tryz.prog 283 #[.int .i64 5,.int .i64 (k:Int)] w fun e w'=>e= .returned (.int .i64 (fnv 5 k))/\w=w':=by
 have hr:0<=(k:Int)/\(k:Int)<=4095:=by omega
 obtain ⟨q,hq⟩:∃ q,q=sgn (k:Int):=⟨_,rfl⟩;have HS:=dL (k:Int) w;rw [<- hq] at HS;have HS:=Lib.hid HS;have hb:=iq k hk;rw [<- hq] at hb;obtain ⟨hb1,hb2⟩:=hb;have HC:=Lib.hid (gy k hk w);rcases (by omega:(q<=0)\/(0<q)) with hc | hc
 ·have HV:Hid (fnv 5 k=0):=by show (if sgn k<=0 then 0 else 256/sgn k)=0;rw [<- hq,if_pos hc]
  clear hq
  skip
  go_enter Tryz.func283,Tryz.ntmps283
  go_wp2_with fail
  refine (aC (K:=5) (by omega) w).mono ?_
  rintro e w' ⟨rfl,rfl⟩
  go_wp2_with fail
  refine (an (k:Int) hr w).mono ?_;rintro e w' ⟨rfl,rfl⟩
  go_wp2_with fail
  refine HS.out.mono ?_;rintro e w' ⟨rfl,rfl⟩;go_wp2
  go_ret
  first | exact ⟨ag HV.out.symm,rfl⟩ | exact ⟨ag (by rw [HV.out];decide),rfl⟩
 ·have HV:Hid (fnv 5 k=256/q):=by show (if sgn k<=0 then 0 else 256/sgn k)=256/q;rw [<- hq,if_neg (by omega)]
  clear hq;have hq0:q≠0:=by omega
  go_enter Tryz.func283,Tryz.ntmps283
  go_wp2_with fail
  refine (aC (K:=5) (by omega) w).mono ?_
  rintro e w' ⟨rfl,rfl⟩
  go_wp2_with fail
  refine (an (k:Int) hr w).mono ?_;rintro e w' ⟨rfl,rfl⟩
  go_wp2_with fail
  refine HS.out.mono ?_;rintro e w' ⟨rfl,rfl⟩;go_wp2
  go_ret
  first | exact ⟨ag HV.out.symm,rfl⟩ | exact ⟨ag (by rw [HV.out];decide),rfl⟩
theorem p_ {K:Int} (h:1<=K/\K<=5) (k:Nat) (hk:k<4096) (w:World):Calls Tryz.prog 283 #[.int .i64 K,.int .i64 (k:Int)] w fun e w'=>e= .returned (.int .i64 (fnv K k))/\w=w':=by
 rcases (by omega:K=1\/K=2\/K=3\/K=4\/K=5) with rfl | rfl | rfl | rfl | rfl
 ·exact oG k hk w
 ·exact oH k hk w
 ·exact nu k hk w
 ·exact oI k hk w
 ·exact oJ k hk w
theorem lh {K:Int} (h:1<=K/\K<=5) (w:World):Calls Tryz.prog 249 #[.int .i64 K] w (vy 4096 (fl (fnv K) 4096) w):=by
 have hmk:∀ W:World,(Instr.makeSlice 35 (.int .i64 4096) (.int .i64 4096)).run Tryz.prog W= .ok (.slice (some ⟨W.heap.size,0,none⟩) 4096 4096) (W.alloc (ZB 4096)):=fun W=>jc 4096 (by omega) W
 have HZ:=Lib.hid (OS.sN w 4096 (by omega))
 have HW:=Lib.hid ((Below.refl w.heap.size w).alloc (Nat.le_refl _) (ZB 4096));have HZ0:Hid (OS (w.alloc (ZB 4096)) w.heap.size (some ⟨w.heap.size,0,none⟩) 4096 4096 (fl (fnv K) 0++List.replicate (4096-0) 0)):=by
  have e0:fl (fnv K) 0=[]:=rfl;rw [e0,List.nil_append,Nat.sub_zero]
  exact HZ
 have HK:=Lib.hid h;clear HZ h
 go_enter Tryz.func249,Tryz.ntmps249
 go_wp2_with fail
 refine (aC HK.out w).mono ?_;rintro e w' ⟨rfl,rfl⟩;go_wp2
 go_loopw [11] (fun i wr=>∃ j:Nat,j<=4096/\i= .int .i64 j/\Hid (OS wr w.heap.size (some ⟨w.heap.size,0,none⟩) 4096 4096 (fl (fnv K) j++List.replicate (4096-j) 0))/\Hid (Below w.heap.size w wr)) (fun i _=>4096-(intOf i).toNat)
 case atStart=>exact ⟨0,Nat.zero_le _,rfl,HZ0,HW⟩
 case round =>
  obtain ⟨j,hj,rfl,hos,hon⟩:=hrel
  by_cases hlt:j<4096
  ·obtain ⟨u,cu⟩:∃ u,wr.cell? ⟨w.heap.size,j,none⟩=some (.int .i64 u):=by
    obtain ⟨b',off',e,_,hc⟩:=hos.out.si.2 (by omega)
    injection e with e;injection e with e1 e2;subst e1 e2;have:=hc j hlt;rw [Nat.zero_add] at this
    exact ⟨_,this⟩
   have fu:=hos.out.frozen j w.heap.size rfl;have i0:(0:Int)<=(j:Int):=by omega
   have i1:(j:Int)<4096:=by omega
   go_wp2_with fail
   refine (p_ HK.out j hlt wr).mono ?_;rintro e w' ⟨rfl,rfl⟩;go_wp2
   go_roundw
   case rel =>
    have st:=World.ownsRow.stored hos.out j (.int .i64 (fnv K j));refine ⟨j+1,by omega,by go_num,?_,hon.out.setCell (Nat.le_refl _) _⟩
    have h:=st.1;rw [<- List.map_set,jF (fnv K) 4096 j hlt] at h
    exact h
   case measure=>simp [intOf];omega
  ·have hjn:j=4096:=by omega
   subst hjn;have hfin:OS wr w.heap.size (some ⟨w.heap.size,0,none⟩) 4096 4096 (fl (fnv K) 4096):=by
    have h:=hos.out;rw [Nat.sub_self,List.replicate_zero,List.append_nil] at h
    exact h
   have HF:=Lib.hid hfin;clear hfin hos;go_wp2
   go_ret
   exact ⟨some ⟨w.heap.size,0,none⟩,4096,rfl,HF.out,hon.out⟩
section
attribute [local go_sem] af ah ae
theorem Bh {a b r yq:Nat} {x:Int} (hd:b<yq):(if a<r\/(a=r/\b<yq) then x else 0)=if a<r+1\/(a=r+1/\b<0) then x else 0:=by
 by_cases h:a<r+1
 ·rw [if_pos (by omega),if_pos (by omega)]
 ·rw [if_neg (by omega),if_neg (by omega)]
theorem yw {a b r yq:Nat} {x:Int} (h3:¬ (a=r/\b=yq)):(if a<r\/(a=r/\b<yq+1) then x else 0)=if a<r\/(a=r/\b<yq) then x else 0:=by
 by_cases h:a<r\/(a=r/\b<yq)
 ·rw [if_pos h,if_pos (by omega)]
 ·rw [if_neg h,if_neg (by omega)]
theorem iN {m:Mx} (h:mvB m=true) {x:Value} (w:World) (hx:RM w x m):Calls Tryz.prog 255 #[x] w (bD (ir m) w):=by
 have hmm:=qN h;obtain ⟨r1,c1,v1,rfl,r11,r12,c11,c12,l1,b1⟩:=nS h;obtain ⟨A1,p1,rfl,hx0,hp1,hq1⟩:=hx
 dsimp only at hx0 hp1
 obtain ⟨a1,o1,rfl,_,_⟩:=hx0.2 (by rw [l1];exact Nat.mul_pos r11 c11)
 obtain ⟨n,hnn⟩:∃ n,n=c1*r1:=⟨_,rfl⟩;have hN:(c1:Int)*(r1:Int)=(n:Int):=by rw [hnn];push_cast;rfl
 have hn1:0<n:=by rw [hnn];exact Nat.mul_pos c11 r11
 have hn25:n<=25:=by rw [hnn];exact Nat.mul_le_mul c12 r12
 have hn2:n<=1048576:=by omega
 obtain ⟨F,hF⟩:∃ F:Nat->Int,F=fun i=>v1.getD (i%r1*c1+i/r1) 0:=⟨_,rfl⟩
 have HMM:Hid (ir ⟨(r1:Int),(c1:Int),v1⟩=⟨(c1:Int),(r1:Int),fl F n⟩):=by
  show ir _=_
  rw [hmm,hF,hnn]
  rfl
 clear hmm;have HX:=Lib.hid hx0;have HA:=Lib.hid h;have HL1:=Lib.hid l1;have HN:=Lib.hid hN;have HNN:=Lib.hid hnn;have HFN:=Lib.hid hF;clear hx0 h l1 hN hnn hF;refine zE ?_;intro u1 H;refine zB (bP (m:=⟨(r1:Int),(c1:Int),v1⟩) HA.out u1 (SI.below HX.out H.O)) ?_;clear H;intro w2 u2 H;refine zG (di HN.out hn2 u2) ?_;rintro e w3 ⟨A,cG,rfl,hos,hb⟩;replace H:=H.os hb hos
 dsimp only at H ⊢
 rw [List.length_replicate] at H ⊢;obtain ⟨g,rfl,hg0,hg1⟩:=OS.pos (H.o 0) hn1;refine zN ?_;clear H;intro u4 H;obtain ⟨gT,hgT⟩:∃ g,g=w3.heap.size:=⟨_,rfl⟩;rw [<- hgT] at H ⊢;clear hgT;replace H:=((((H.r 3).r 3).r 2).r 3);intros
 go_loopw [18] (fun i wr=>∃ r:Nat,r<=r1/\i= .int .i64 r/\Hid (Hq w [qO w.heap.size (some ⟨g,0,none⟩) n cG (fl (fun i=>if i%r1<r\/(i%r1=r/\i/r1<0) then F i else 0) n),qB gT 37 [.int .i64 (c1:Int),.int .i64 (r1:Int),.slice (some ⟨g,0,none⟩) n cG],qB (w.heap.size+1) 37 [.int .i64 0,.int .i64 0,.slice none 0 0],qB w.heap.size 37 [.int .i64 (r1:Int),.int .i64 (c1:Int),.slice (some ⟨a1,o1,none⟩) v1.length p1]] wr)) (fun i _=>r1-(intOf i).toNat)
 case atStart=>exact ⟨0,Nat.zero_le _,rfl,by rw [show fl (fun i=>if i%r1<0\/(i%r1=0/\i/r1<0) then F i else 0) n=List.replicate n 0 from by rw [<- j6];exact dT fun k _=>by simp];exact H⟩
 case round =>
 clear H;obtain ⟨r,hr,rfl,H⟩:=hrel;have H:=H.out
 by_cases hlt:r<r1
 ·refine zN ?_;clear H;intro u21 H;refine zB (qj hlt r12 ⟨c11,c12⟩ HL1.out hp1 hq1 u21) ?_;clear H;intro w22 u22 H;intros
  go_loopw [25] (fun i wr=>∃ p:Nat,p<=c1/\i= .int .i64 p/\Hid (Hq w [qO w.heap.size (some ⟨g,0,none⟩) n cG (fl (fun i=>if i%r1<r\/(i%r1=r/\i/r1<p) then F i else 0) n),qB gT 37 [.int .i64 (c1:Int),.int .i64 (r1:Int),.slice (some ⟨g,0,none⟩) n cG],qB (w.heap.size+1) 37 [.int .i64 0,.int .i64 0,.slice none 0 0],qB w.heap.size 37 [.int .i64 (r1:Int),.int .i64 (c1:Int),.slice (some ⟨a1,o1,none⟩) v1.length p1]] wr)) (fun i _=>c1-(intOf i).toNat)
  case atStart=>exact ⟨0,Nat.zero_le _,rfl,H⟩
  case round =>
  clear H;obtain ⟨p,hp,rfl,H⟩:=hrel;have H:=H.out
  by_cases hqc:p<c1
  ·have hi1:r*c1+p<v1.length:=by rw [HL1.out];exact e9 hlt hqc
   have cx:=kR HX.out H.O (Nat.le_refl _) hi1;rw [<- Nat.add_assoc] at cx;obtain ⟨jj,hjj⟩:∃ jj,jj=p*r1:=⟨_,rfl⟩;have hjl:jj+r<n:=by rw [hjj,HNN.out];exact e9 hqc hlt
   have hFv:v1.getD (r*c1+p) 0=F (jj+r):=by
    have e1:(p*r1+r)/r1=p:=by rw [Nat.mul_comm,Nat.mul_add_div (by omega),Nat.div_eq_of_lt hlt,Nat.add_zero]
    have e2:(p*r1+r)%r1=r:=by rw [Nat.mul_comm,Nat.mul_add_mod,Nat.mod_eq_of_lt hlt]
    rw [HFN.out,hjj]
    dsimp only
    rw [e1,e2]
   obtain ⟨x,hx⟩:∃ x,x=v1.getD (r*c1+p) 0:=⟨_,rfl⟩;rw [<- hx] at cx hFv;have HST:Hid (fl (fun i=>if i%r1<r\/(i%r1=r/\i/r1<p+1) then F i else 0) n=(fl (fun i=>if i%r1<r\/(i%r1=r/\i/r1<p) then F i else 0) n).set (jj+r) x):=pW hjl fun i hi=>by
    have hd:=Nat.div_add_mod i r1
    by_cases e:i=jj+r
    ·have e1:i/r1=p:=by rw [e,hjj,Nat.mul_comm,Nat.mul_add_div (by omega),Nat.div_eq_of_lt hlt,Nat.add_zero]
     have e2:i%r1=r:=by rw [e,hjj,Nat.mul_comm,Nat.mul_add_mod,Nat.mod_eq_of_lt hlt]
     rw [if_pos e,if_pos (.inr ⟨e2,by omega⟩),e,hFv]
    ·rw [if_neg e]
     exact yw (fun ⟨x,y⟩=>e (by rw [<- hd,x,y,hjj,Nat.mul_comm]))
   have hm2w:IntKind.i64.wrap ((p:Int)*(r1:Int))=(jj:Int):=gN (by rw [hjj];push_cast;rfl) (by omega)
   have j0:(0:Int)<=(jj:Int)+(r:Int):=by omega
   have j1:(jj:Int)+(r:Int)<(n:Int):=by omega
   have j2:((jj:Int)+(r:Int)).toNat=jj+r:=by omega
   have j3:=IntWalk.i64_in ((jj:Int)+(r:Int)) (by omega)
   have j4:(p:Int)<(c1:Int):=by omega
   clear hjj hx hFv hi1;obtain ⟨zG,cG',fG⟩:=a7 (H.o 0) hjl;refine zC ?_;intro C;intros;go_wp2
   go_roundw
   case rel=>exact ⟨p+1,by omega,by go_num,(by rw [HST.out];exact Lib.hid hq)⟩
   case measure=>simp [intOf];omega
  ·obtain rfl:p=c1:=by omega
   have HSE:Hid (fl (fun i=>if i%r1<(r+1)\/(i%r1=(r+1)/\i/r1<0) then F i else 0) n=fl (fun i=>if i%r1<r\/(i%r1=r/\i/r1<p) then F i else 0) n):=dT fun i hi=>(Bh (by rw [HNN.out] at hi;exact Nat.div_lt_of_lt_mul (by rw [Nat.mul_comm];exact hi))).symm
   refine zC ?_;intro C;intros;go_wp2
   go_roundw
   case rel=>exact ⟨r+1,by omega,by go_num,(by rw [HSE.out];exact H)⟩
   case measure=>simp [intOf];omega
 ·obtain rfl:r=r1:=by omega
  rw [show fl (fun i=>if i%r<r\/(i%r=r/\i/r<0) then F i else 0) n=fl F n from dT fun i hi=>by rw [if_pos (.inl (Nat.mod_lt _ r11))]] at H
  refine zS_ ?_;clear H;intro u81 H
  exact (by rw [HMM.out];exact ⟨some ⟨g,0,none⟩,cG,by dsimp only;rw [aD],by dsimp only;rw [aD];exact (H.o 0),H.O⟩)
theorem lZ {m:Mx} (h:mvB m=true) {x:Value} (w:World) (hx:RM w x m):Calls Tryz.prog 217 #[x] w (bD (il m) w):=by
 have hmm:=qu h;obtain ⟨r1,c1,v1,rfl,r11,r12,c11,c12,l1,b1⟩:=nS h;obtain ⟨A1,p1,rfl,hx0,hp1,hq1⟩:=hx
 dsimp only at hx0 hp1
 obtain ⟨a1,o1,rfl,_,_⟩:=hx0.2 (by rw [l1];exact Nat.mul_pos r11 c11)
 obtain ⟨n,hnn⟩:∃ n,n=r1:=⟨_,rfl⟩;have hN:(r1:Int)*1=(r1:Int):=by omega
 have hn2:r1<=1048576:=by omega
 obtain ⟨F,hF⟩:∃ F:Nat->Int,F=fun r=>ew ⟨(r1:Int),(c1:Int),v1⟩ c1 r c1%4096:=⟨_,rfl⟩
 have HMM:Hid (il ⟨(r1:Int),(c1:Int),v1⟩=⟨(r1:Int),1,fl F r1⟩):=by
  show il _=_
  rw [hmm,hF]
  rfl
 clear hmm;have HX:=Lib.hid hx0;have HA:=Lib.hid h;have HL1:=Lib.hid l1;have HN:=Lib.hid hN;have HNN:=Lib.hid hnn;have HFN:=Lib.hid hF;clear hx0 h l1 hN hnn hF;refine zE ?_;intro u1 H;refine zB (bP (m:=⟨(r1:Int),(c1:Int),v1⟩) HA.out u1 (SI.below HX.out H.O)) ?_;clear H;intro w2 u2 H;refine zG (di HN.out hn2 u2) ?_;rintro e w3 ⟨A,cG,rfl,hos,hb⟩;replace H:=H.os hb hos
 dsimp only at H ⊢
 rw [List.length_replicate] at H ⊢;obtain ⟨g,rfl,hg0,hg1⟩:=OS.pos (H.o 0) r11;refine zN ?_;clear H;intro u4 H;obtain ⟨gT,hgT⟩:∃ g,g=w3.heap.size:=⟨_,rfl⟩;rw [<- hgT] at H ⊢;clear hgT;replace H:=((((H.r 3).r 3).r 2).r 3);intros
 go_loopw [16] (fun i wr=>∃ r:Nat,r<=r1/\i= .int .i64 r/\Hid (Hq w [qO w.heap.size (some ⟨g,0,none⟩) r1 cG (fl (fun i=>if i<r then F i else if i=r then ew ⟨(r1:Int),(c1:Int),v1⟩ c1 r 0%4096 else 0) r1),qB gT 37 [.int .i64 (r1:Int),.int .i64 (1:Int),.slice (some ⟨g,0,none⟩) r1 cG],qB (w.heap.size+1) 37 [.int .i64 0,.int .i64 0,.slice none 0 0],qB w.heap.size 37 [.int .i64 (r1:Int),.int .i64 (c1:Int),.slice (some ⟨a1,o1,none⟩) v1.length p1]] wr)) (fun i _=>r1-(intOf i).toNat)
 case atStart=>exact ⟨0,Nat.zero_le _,rfl,by rw [show fl (fun i=>if i<0 then F i else if i=0 then ew ⟨(r1:Int),(c1:Int),v1⟩ c1 0 0%4096 else 0) r1=List.replicate r1 0 from by rw [<- j6];exact dT fun k _=>by simp [ew]];exact H⟩
 case round =>
 clear H;obtain ⟨r,hr,rfl,H⟩:=hrel;have H:=H.out
 by_cases hlt:r<r1
 ·refine zN ?_;clear H;intro u21 H;refine zB (qj hlt r12 ⟨c11,c12⟩ HL1.out hp1 hq1 u21) ?_;clear H;intro w22 u22 H;intros
  go_loopw [23] (fun i wr=>∃ p:Nat,p<=c1/\i= .int .i64 p/\Hid (Hq w [qO w.heap.size (some ⟨g,0,none⟩) r1 cG (fl (fun i=>if i<r then F i else if i=r then ew ⟨(r1:Int),(c1:Int),v1⟩ c1 r p%4096 else 0) r1),qB gT 37 [.int .i64 (r1:Int),.int .i64 (1:Int),.slice (some ⟨g,0,none⟩) r1 cG],qB (w.heap.size+1) 37 [.int .i64 0,.int .i64 0,.slice none 0 0],qB w.heap.size 37 [.int .i64 (r1:Int),.int .i64 (c1:Int),.slice (some ⟨a1,o1,none⟩) v1.length p1]] wr)) (fun i _=>c1-(intOf i).toNat)
  case atStart=>exact ⟨0,Nat.zero_le _,rfl,H⟩
  case round =>
  clear H;obtain ⟨p,hp,rfl,H⟩:=hrel;have H:=H.out
  by_cases hqc:p<c1
  ·have hi1:r*c1+p<v1.length:=by rw [HL1.out];exact e9 hlt hqc
   have cx:=kR HX.out H.O (Nat.le_refl _) hi1;rw [<- Nat.add_assoc] at cx;obtain ⟨x0,x1⟩:=dE HA.out (r*c1+p)
   dsimp only at x0 x1
   obtain ⟨s,hs'⟩:∃ s,s=ew ⟨(r1:Int),(c1:Int),v1⟩ c1 r p%4096:=⟨_,rfl⟩;have hs:=Lib.hid hs';obtain ⟨x,hx⟩:∃ x,x=v1.getD (r*c1+p) 0:=⟨_,rfl⟩;have hadd:aJ s x=ew ⟨(r1:Int),(c1:Int),v1⟩ c1 r (p+1)%4096:=by
    rw [dX (by omega) (by rw [hx];exact ⟨x0,x1⟩)]
    show (s+x)%4096=(ew ⟨(r1:Int),(c1:Int),v1⟩ c1 r p+v1.getD (r*c1+p) 0)%4096
    rw [<- hx,hs']
    omega
   obtain ⟨y,hy⟩:∃ y,y=aJ s x:=⟨_,rfl⟩;have HPA:Hid (∀ W:World,Calls Tryz.prog 146 #[.int .i64 s,.int .i64 x] W fun e w'=>e= .returned (.int .i64 y)/\W=w'):=by rw [hy];exact fun W=>iX s x W
   rw [<- hy] at hadd;have HST:Hid (fl (fun i=>if i<r then F i else if i=r then ew ⟨(r1:Int),(c1:Int),v1⟩ c1 r (p+1)%4096 else 0) r1=(fl (fun i=>if i<r then F i else if i=r then ew ⟨(r1:Int),(c1:Int),v1⟩ c1 r p%4096 else 0) r1).set r y):=pW hlt fun i hi=>by rw [hadd];by_cases e:i=r <;> by_cases e2:i<r <;> simp [e,e2] <;> omega
   rw [<- hx] at cx x0 x1;have j4:(p:Int)<(c1:Int):=by omega
   have j0:(0:Int)<=(r:Int):=by omega
   have j1:(r:Int)<(r1:Int):=by omega
   clear hx hi1 hs' hadd hy;refine zN ?_;clear H;intro u41 H;have ezG:=(a7 (H.o 0) hlt).1;refine zXZ (tg [gT,g]) ?_;clear H;intro S w42 hne H;refine zD (H.c 1) ?_;intro G;have rG:=(a7 (H.o 0) hlt).2.1;rw [show (fl (fun i=>if i<r then F i else if i=r then ew ⟨(r1:Int),(c1:Int),v1⟩ c1 r p%4096 else 0) r1).getD r 0=s from by rw [fL _ _ _ hlt];simp [hs.out]] at rG
   replace rG:=H.row rG;refine yP (HPA.out w42) ?_;have D:=a7 (H.o 0) hlt;refine nY ?_;clear H D;intro u42 H;refine zC ?_;intro C;intros;go_wp2
   go_roundw
   case rel=>exact ⟨p+1,by omega,by go_num,(by rw [HST.out];exact H)⟩
   case measure=>simp [intOf];omega
  ·obtain rfl:p=c1:=by omega
   have HSE:Hid (fl (fun i=>if i<(r+1) then F i else if i=(r+1) then ew ⟨(r1:Int),(p:Int),v1⟩ p (r+1) 0%4096 else 0) r1=fl (fun i=>if i<r then F i else if i=r then ew ⟨(r1:Int),(p:Int),v1⟩ p r p%4096 else 0) r1):=dT fun i hi=>by
    by_cases h4:i<r
    ·rw [if_pos h4,if_pos (by omega)]
    ·by_cases h5:i=r
     ·rw [if_neg h4,if_pos h5,if_pos (by omega),HFN.out,h5]
     ·rw [if_neg h4,if_neg h5,if_neg (by omega)];split <;> simp [ew]
   refine zC ?_;intro C;intros;go_wp2
   go_roundw
   case rel=>exact ⟨r+1,by omega,by go_num,(by rw [HSE.out];exact H)⟩
   case measure=>simp [intOf];omega
 ·obtain rfl:r=r1:=by omega
  rw [show fl (fun i=>if i<r then F i else if i=r then ew ⟨(r:Int),(c1:Int),v1⟩ c1 r 0%4096 else 0) r=fl F r from dT fun i hi=>by rw [if_pos hi]] at H
  refine zS_ ?_;clear H;intro u81 H
  exact (by rw [HMM.out];exact ⟨some ⟨g,0,none⟩,cG,by dsimp only;rw [aD],by dsimp only;rw [aD];exact (H.o 0),H.O⟩)
theorem lp {m:Mx} (h:mvB m=true) {cs:Nat} (hcs:1<=cs/\cs<=5) {x:Value} (w:World) (hx:RM w x m):Calls Tryz.prog 212 #[x,.int .i64 (cs:Int)] w (bD (jA m (cs:Int)) w):=by
 obtain ⟨r1,c1,v1,rfl,r11,r12,c11,c12,l1,b1⟩:=nS h;obtain ⟨A1,p1,rfl,hx0,hp1,hq1⟩:=hx
 dsimp only at hx0 hp1
 obtain ⟨a1,o1,rfl,_,_⟩:=hx0.2 (by rw [l1];exact Nat.mul_pos r11 c11)
 obtain ⟨n,hnn⟩:∃ n,n=r1*cs:=⟨_,rfl⟩;have hN:(r1:Int)*(cs:Int)=(n:Int):=by rw [hnn];push_cast;rfl
 have hn1:0<n:=by rw [hnn];exact Nat.mul_pos r11 hcs.1
 have hn25:n<=25:=by rw [hnn];exact Nat.mul_le_mul r12 hcs.2
 have hn2:n<=1048576:=by omega
 obtain ⟨F,hF⟩:∃ F:Nat->Int,F=fun i=>v1.getD (i/cs) 0:=⟨_,rfl⟩
 have HMM:Hid (jA ⟨(r1:Int),(c1:Int),v1⟩ (cs:Int)=⟨(r1:Int),(cs:Int),fl F n⟩):=by
  show jA _ _=_
  rw [hF,hnn]
  rfl
 have HX:=Lib.hid hx0;have HA:=Lib.hid h;have HL1:=Lib.hid l1;have HN:=Lib.hid hN;have HNN:=Lib.hid hnn;have HFN:=Lib.hid hF;clear hx0 h l1 hN hnn hF;refine zE ?_;intro u1 H;refine zG (di HN.out hn2 u1) ?_;rintro e w2 ⟨A,cG,rfl,hos,hb⟩;replace H:=H.os hb hos
 dsimp only at H ⊢
 rw [List.length_replicate] at H ⊢;obtain ⟨g,rfl,hg0,hg1⟩:=OS.pos (H.o 0) hn1;refine zN ?_;clear H;intro u3 H;obtain ⟨gT,hgT⟩:∃ g,g=w2.heap.size:=⟨_,rfl⟩;rw [<- hgT] at H ⊢;clear hgT;replace H:=((((H.r 3).r 3).r 2).r 3);intros
 go_loopw [14] (fun i wr=>∃ j:Nat,j<=n/\i= .int .i64 j/\Hid (Hq w [qO w.heap.size (some ⟨g,0,none⟩) n cG (fl (fun i=>if i<j then F i else 0) n),qB gT 37 [.int .i64 (r1:Int),.int .i64 (cs:Int),.slice (some ⟨g,0,none⟩) n cG],qB (w.heap.size+1) 37 [.int .i64 0,.int .i64 0,.slice none 0 0],qB w.heap.size 37 [.int .i64 (r1:Int),.int .i64 (c1:Int),.slice (some ⟨a1,o1,none⟩) v1.length p1]] wr)) (fun i _=>n-(intOf i).toNat)
 case atStart=>exact ⟨0,Nat.zero_le _,rfl,by rw [show fl (fun i=>if i<0 then F i else 0) n=List.replicate n 0 from by rw [<- j6];exact dT fun k _=>by simp];exact H⟩
 case round =>
 clear H;obtain ⟨j,hj,rfl,H⟩:=hrel;have H:=H.out
 by_cases hlt:j<n
 ·have hdv:j/cs<v1.length:=by rw [HL1.out];rw [HNN.out] at hlt;exact Nat.div_lt_of_lt_mul (by rw [Nat.mul_comm];exact Nat.lt_of_lt_of_le hlt (Nat.mul_le_mul_right cs (Nat.le_mul_of_pos_right _ c11)))
  obtain ⟨d,hd⟩:∃ d,d=j/cs:=⟨_,rfl⟩;rw [<- hd] at hdv;have hFv:Hid (v1.getD d 0=F j):=by unfold Hid;rw [HFN.out,hd]
  have hdq:(j:Int)/(cs:Int)=(d:Int):=by rw [hd];exact (Int.natCast_ediv j cs).symm
  have hdq2:Int.tdiv (j:Int) (cs:Int)=(d:Int):=by rw [Int.tdiv_eq_ediv_of_nonneg (by omega)];exact hdq
  have HST:Hid (fl (fun i=>if i<j+1 then F i else 0) n=(fl (fun i=>if i<j then F i else 0) n).set j (F j)):=pW hlt fun k _=>by
   by_cases h:k=j
   ·subst h;simp
   ·rw [if_neg h]
    by_cases h2:k<j
    ·rw [if_pos (by omega),if_pos h2]
    ·rw [if_neg (by omega),if_neg h2]
  clear hd;have d0:(0:Int)<=(d:Int):=by omega
  have d1:(d:Int)<(v1.length:Int):=by omega
  have cs0:¬ (cs:Int)=0:=by omega
  have j0:(0:Int)<=(j:Int):=by omega
  have j1:(j:Int)<(n:Int):=by omega
  have la:a1<w.heap.size:=SI.aj HX.out (by omega) a1 rfl
  obtain ⟨fj,hfj⟩:∃ y,y=F j:=⟨_,rfl⟩;rw [<- hfj] at hFv HST;clear hfj;refine zN ?_;clear H;intro u41 H;have ezA:=Nat.lt_of_lt_of_le la H.m;refine zXZ (tg [gT,w.heap.size,a1]) ?_;clear H;intro S w42 hne H;refine zD ((And.intro (H.c 1) (H.c 3))) ?_;intro G;have rA:=H.row (kR HX.out H.O (Nat.le_refl _) hdv);rw [hFv.out] at rA;have D:=a7 (H.o 0) hlt;refine nY ?_;clear H D;intro u42 H;refine zC ?_;intro C;intros;go_wp2
  go_roundw
  case rel=>exact ⟨j+1,by omega,by go_num,(by rw [HST.out];exact H)⟩
  case measure=>simp [intOf];omega
 ·obtain rfl:j=n:=by omega
  rw [show fl (fun i=>if i<j then F i else 0) j=fl F j from dT fun i hi=>by rw [if_pos hi]] at H
  refine zS_ ?_;clear H;intro u81 H
  exact (by rw [HMM.out];exact ⟨some ⟨g,0,none⟩,cG,by dsimp only;rw [aD],by dsimp only;rw [aD];exact (H.o 0),H.O⟩)
end
end Go.Proofs.YtjciicheoghcdaaGreatDoor

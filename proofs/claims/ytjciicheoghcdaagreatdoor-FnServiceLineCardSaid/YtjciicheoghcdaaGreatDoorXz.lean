/- Part of the proof that the law FnServiceLine of the given program returns true for every input. -/
import Derived.Test.YtjciicheoghcdaaGreatDoorXk
import Derived.Test.YtjciicheoghcdaaGreatDoorXn
import Derived.Test.YtjciicheoghcdaaGreatDoorXo
import Derived.Test.YtjciicheoghcdaaGreatDoorXp
import Derived.Test.YtjciicheoghcdaaGreatDoorXq
import Derived.Test.YtjciicheoghcdaaGreatDoorXr
import Derived.Test.YtjciicheoghcdaaGreatDoorXt
import Derived.Test.YtjciicheoghcdaaGreatDoorXy
namespace Go.Proofs.YtjciicheoghcdaaGreatDoor
open Go.RowKit
set_option linter.unusedSimpArgs false
set_option linter.unusedVariables false
set_option maxRecDepth 20000
set_option maxHeartbeats 16000000
theorem oq (a:Mx) (ha:mvB a=true) (A1:Option Addr) (p1:Nat) (w:World) (hx0:SI w A1 a.v.length a.v) :
  Calls Tryz.prog 234 #[MV a.r a.c A1 a.v.length p1] w (bD (ir a) w):=by
 obtain ⟨ar,ac,v1⟩:=a
 dsimp only at hx0 ⊢
 obtain ⟨la,sar,sac,_⟩:=cZ ha
 dsimp only at la sar sac
 obtain ⟨r1,rfl,r11,r12⟩:=toN (bI sar);obtain ⟨c1,rfl,c11,c12⟩:=toN (bI sac);have la':v1.length=r1*c1:=by exact_mod_cast la
 have hla:v1.length<=25:=by rw [la'];exact Nat.mul_le_mul r12 c12
 have pla:0<v1.length:=by rw [la'];exact Nat.mul_pos r11 c11
 have hlX:v1.length<=1048576:=by omega
 have HX:=Lib.hid hx0;have MX:=Lib.hid ha;have LX:=Lib.hid la';obtain ⟨F,hF⟩:∃ F:Nat->Int,F=fun i=>v1.getD (i%r1*c1+i/r1) 0:=⟨_,rfl⟩
 have HM:Hid (ir ⟨(r1:Int),(c1:Int),v1⟩=⟨(c1:Int),(r1:Int),fl F (c1*r1)⟩):=by rw [hF];exact qN ha
 have HF:Hid (∀ q r,r<r1->v1.getD (r*c1+q) 0=F (q*r1+r)):=by
  intro q r h;rw [hF]
  dsimp only
  rw [(mP h).1,(mP h).2]
 clear la la' sar sac hx0 ha hF;refine zE ?_;intro u1 H;refine zG (aQ (r1:Int) (c1:Int) v1 A1 _ p1 u1 (SI.below HX.out H.O) hlX) ?_;rintro e w2 ⟨AX,cX,rfl,hos,hb⟩;replace H:=H.os hb hos
 dsimp only at H ⊢
 refine zN ?_;clear H;intro u3 H;refine zB ((show Calls Tryz.prog 89 #[_] u3 (fun e w'=>e= .returned (.bool true)/\Below u3.heap.size u3 w') from (show mvB ⟨(r1:Int),(c1:Int),v1⟩=true from MX.out) ▸ aM (r1:Int) (c1:Int) v1 AX _ cX u3 (OS.si (H.o 0)) (by omega))) ?_;clear H;intro w4 u4 H
 replace H:=H.nil;obtain ⟨gT,hgT⟩:∃ g,g=w4.heap.size:=⟨_,rfl⟩;rw [<- hgT] at H ⊢;clear hgT;obtain ⟨gX,rfl,_,_⟩:=(H.o 2).pos (by omega)
 intros
 go_loopw [4] (fun i wr=>∃ (p J c':Nat) (A':Option Addr),p<=c1/\i= .int .i64 p/\J=p*r1/\Hid (Hq w [qO w.heap.size A' J c' (fl F J),qB gT 37 [.int .i64 (c1:Int),.int .i64 (r1:Int),.slice A' J c'],qO w.heap.size (some ⟨gX,0,none⟩) v1.length cX v1,qB (w.heap.size+1) 37 [.int .i64 0,.int .i64 0,.slice none 0 0],qB w.heap.size 37 [.int .i64 (r1:Int),.int .i64 (c1:Int),.slice (some ⟨gX,0,none⟩) v1.length cX]] wr)) (fun i _=>c1-(intOf i).toNat)
 case atStart=>exact ⟨0,0,0,none,Nat.zero_le _,rfl,by omega,H⟩
 case round =>
 clear H;obtain ⟨p,J,c',A',hp,rfl,hJ,H⟩:=hrel;have HJ:=Lib.hid hJ;clear hJ;have H:=H.out
 by_cases hpc:p<c1
 ·refine zN ?_;clear H;intro u H;intros
  go_loopw [5] (fun i wr=>∃ (r J c':Nat) (A':Option Addr),r<=r1/\i= .int .i64 r/\J=p*r1+r/\Hid (Hq w [qO w.heap.size A' J c' (fl F J),qB gT 37 [.int .i64 (c1:Int),.int .i64 (r1:Int),.slice A' J c'],qO w.heap.size (some ⟨gX,0,none⟩) v1.length cX v1,qB (w.heap.size+1) 37 [.int .i64 0,.int .i64 0,.slice none 0 0],qB w.heap.size 37 [.int .i64 (r1:Int),.int .i64 (c1:Int),.slice (some ⟨gX,0,none⟩) v1.length cX]] wr)) (fun i _=>r1-(intOf i).toNat)
  case atStart=>exact ⟨0,J,c',A',Nat.zero_le _,rfl,by have:=HJ.out;omega,H⟩
  case round =>
  clear H;obtain ⟨r,J,c',A',hr,rfl,hJ,H⟩:=hrel;have HJ:=Lib.hid hJ;clear hJ;have H:=H.out
  by_cases hlt:r<r1
  ·have J25:J<25:=by rw [HJ.out];exact vY (e9 hpc hlt) c12 r12
   have hi1:r*c1+p<v1.length:=by rw [LX.out];exact e9 hlt hpc
   have HFJ:=HF.out p r hlt;obtain ⟨i1,hi1e,m1,w1,t1,j1,j2⟩:=ub hi1 hla;rw [<- HJ.out,hi1e] at HFJ;rw [hi1e] at hi1;clear hi1e;obtain ⟨v,hv⟩:∃ v,v=v1.getD (i1+p) 0:=⟨_,rfl⟩;have Ev:=Lib.hid hv;rw [<- hv] at HFJ;have HS:Hid (fl F J++[v]=fl F (J+1)):=by rw [HFJ];exact (dd F J).symm
   clear hv HFJ;refine zC ?_;intro C;intros;go_upto_region 11 with fail;refine zM ?_;clear H C;intro u21 H;have ezX:=(a7 (H.o 2) hi1).1;refine zXZ (tg [gT,w.heap.size,gX]) ?_;clear H;intro S w22 hne H;refine zD ((And.intro (H.c 1) (H.c 4))) ?_;intro G;have rX:=(a7 (H.o 2) hi1).2.1;rw [<- Ev.out] at rX;replace rX:=H.row rX;refine yM ?_;clear H;intro w23 H;replace H:=H.r 1;refine yA (dQ (H.k 1)) True.intro ?_;clear H;intro C1 k1 w24 H;intros;refine zCr ?_;intro C;intros
   repeat (first | (refine lc' ?_;intro K hK;go_big_quiet_op;go_big_quiet_on) | refine lk' ?_)
   refine aV rfl (by rfl) (by rfl) (fun K hK=> ?_)
   unfold Oper.gives
   go_simp
   refine hK _ _ ?_;replace H:=H.H;refine aI ?_;clear C G;replace H:=((((((H.d 1).r 4).r 4).r 4).r 4).r 4);refine zC ?_;intro C;intros;go_wp2
   go_roundw
   case rel=>exact ⟨r+1,J+1,k1,C1,by omega,by go_num,by have:=HJ.out;omega,(by rw [HS.out] at H;exact (Lib.hid hq))⟩
   case measure=>simp [intOf];omega
  ·obtain rfl:r=r1:=by omega
   replace H:=(((((H.r 4).r 4).r 4).r 4).r 4);refine zC ?_;intro C;intros;go_wp2
   go_roundw
   case rel=>exact ⟨p+1,J,c',A',by omega,by go_num,by rw [Nat.succ_mul];have:=HJ.out;omega,H⟩
   case measure=>simp [intOf];omega
 ·obtain rfl:p=c1:=by omega
  refine zS_ ?_;clear H;intro u91 H
  exact (by rw [HM.out,<- HJ.out];exact ⟨A',c',by dsimp only;rw [aD],by dsimp only;rw [aD];exact (H.o 0),H.O⟩)
section
attribute [local go_sem] af ah ae
theorem vi {a b:Mx×Mx} (ha:okS a=true) (hb:okS b=true) (h1:a.1.r=b.1.r) (h2:a.1.c=b.1.c) {u v:Value} (w:World) (hx:RS w u a) (hy:RS w v b):Calls Tryz.prog 185 #[u,v] w (jW (jX a b) w):=by
 have HL1:=Lib.hid (aY (ai ha).1 (ai hb).1 h1 h2);have HL2:=Lib.hid (aY (ai ha).2.1 (ai hb).2.1 (by rw [<- (ai ha).2.2.1,<- (ai hb).2.2.1,h1]) (by rw [<- (ai ha).2.2.2,<- (ai hb).2.2.2,h2]))
 have HHX:=Lib.hid hx;obtain ⟨A1,A2,p1,p2,rfl,-⟩:=hx;have HHY:=Lib.hid hy;obtain ⟨B1,B2,q1,q2,rfl,-⟩:=hy;clear h1 h2;have HA:=Lib.hid ha;have HB:=Lib.hid hb;clear ha hb;refine zE ?_;intro u1 H;refine zW (eC HA.out u1 (RS.below HHX.out H.O)) ?_;clear H;intro w2 FX1 FX2 fxc fxd u2 H;refine zW (eC HB.out u2 (RS.below HHY.out H.O)) ?_;clear H;intro w3 FY1 FY2 fyc fyd u3 H;refine zB (iR HA.out u3 (H.rs 1)) ?_;clear H;intro w4 u4 H;refine zB (iR HB.out u4 (H.rs 0)) ?_;clear H;intro w5 u5 H;refine zB (qw HL1.out u5 (H.rs 1).m1 (H.rs 0).m1) ?_;clear H;intro w6 u6 H;refine zX (tg [w.heap.size+1,w.heap.size]) ?_;clear H;intro S w7 hne H;refine zD ((And.intro (H.c 3) (H.c 4))) ?_;intro G;refine yO (DU HL1.out w7 (H.rs 1).m1 (H.rs 0).m1) ?_;clear H;intro w8 P cP H;refine yO (DU HL2.out w8 (H.rs 2).m2 (H.rs 1).m2) ?_;clear H;intro w9 Q cQ H;refine yS ?_;clear H;intro w10 H;refine yN ?_;clear H G;intro u11 H;refine zS_ ?_;clear H;intro u12 H
 exact ⟨P,Q,cP,cQ,rfl,(H.o 1),(H.o 0),H.O⟩
theorem wX {m:Mx} (h:mvB m=true) {x:Value} (w:World) (hx:RM w x m):Calls Tryz.prog 234 #[x] w (bD (ir m) w):=by
 obtain ⟨A,c,rfl,h1,_⟩:=hx
 exact oq m h A c w h1
theorem ot {p:Mx×Mx} (hp:okS p=true) {x:Value} (w:World) (hx:RS w x p):Calls Tryz.prog 191 #[x] w (jW (jz p) w):=by
 have HP1:=Lib.hid (ai hp).1;have HP2:=Lib.hid (ai hp).2.1;have HHX:=Lib.hid hx;obtain ⟨A1,A2,p1,p2,rfl,-⟩:=hx;have HP:=Lib.hid hp;clear hp;refine zE ?_;intro u1 H;refine zW (eC HP.out u1 (RS.below HHX.out H.O)) ?_;clear H;intro w2 FX1 FX2 fxc fxd u2 H;refine zB (iR HP.out u2 (H.rs 0)) ?_;clear H;intro w3 u3 H;refine zX (tg [w.heap.size]) ?_;clear H;intro S w4 hne H;refine zD (H.c 2) ?_;intro G;refine yO (wX HP1.out w4 (H.rs 0).m1) ?_;clear H;intro w5 P cP H;refine yO (wX HP2.out w5 (H.rs 1).m2) ?_;clear H;intro w6 Q cQ H;refine yS ?_;clear H;intro w7 H;refine yN ?_;clear H G;intro u8 H;refine zS_ ?_;clear H;intro u9 H
 exact ⟨P,Q,cP,cQ,rfl,(H.o 1),(H.o 0),H.O⟩
def vA (z x y:Mx×Mx) (t:MTr) (w:World) (e:Ending) (w':World):Prop:=∃ A B D E c1 c2 d e',e= .returned (.tuple #[SMV z.1.r z.1.c A z.1.v.length c1 z.2.r z.2.c B z.2.v.length c2,MV (pD x t).r (pD x t).c D (pD x t).v.length d,MV (pE y t).r (pE y t).c E (pE y t).v.length e',.bool true])/\OS w' w.heap.size A z.1.v.length c1 z.1.v/\OS w' w.heap.size B z.2.v.length c2 z.2.v/\OS w' w.heap.size D (pD x t).v.length d (pD x t).v/\OS w' w.heap.size E (pE y t).v.length e' (pE y t).v/\Below w.heap.size w w'
theorem AH {f:FuncId} {ar:Array Value} {x y:Mx×Mx} {t:MTr} {w:World} (h:Calls Tryz.prog f ar w (vz x y t w)):Calls Tryz.prog f ar w (vA (dw x y t,dF x y t) x y t w):=h.mono fun _ _ h=>h
theorem fV {x y:Mx×Mx} {s:Int} (ha:okS x=true) (hb:okS y=true) (hxy:x.1.c=y.1.r) (hs:sdB s=true) {u v:Value} (w:World) (hx:RS w u x) (hy:RS w v y) :
  Calls Tryz.prog 184 #[u,v,.int .i64 s] w (bo (dG x y s).1 (dG x y s).2 50 w):=by
 obtain ⟨t,ht⟩:∃ t,t=ig x.1.r x.1.c y.1.c s:=⟨_,rfl⟩;obtain ⟨n,hn⟩:∃ n,n=oC x.1.r x.1.c y.1.c s:=⟨_,rfl⟩;have hpk:POK x y t:=ht ▸ qq ha hb hxy;obtain ⟨z,hz⟩:∃ z,z=(dw x y t,dF x y t):=⟨_,rfl⟩;have HPR:Hid (dG x y s=(z,n)):=by unfold Hid dG;rw [hz,<- ht,<- hn]
 rw [HPR.out];have HN1:=Lib.hid (dy hpk.d.1);have HN2:=Lib.hid (dy hpk.e.1);have HR:=Lib.hid (aA (ai ha).1).1;have HC:=Lib.hid (aA (ai ha).1).2;have HD:=Lib.hid (aA (ai hb).1).2;have hne:(x.1.c != y.1.r)=false:=by rw [hxy];simp
 have HHX:=Lib.hid hx;obtain ⟨A1,A2,p1,p2,rfl,-⟩:=hx;have HHY:=Lib.hid hy;obtain ⟨B1,B2,q1,q2,rfl,-⟩:=hy;have HT:=Lib.hid ht;have HN:=Lib.hid hn;have HZ:=Lib.hid hz;have HPK:=Lib.hid hpk;have HS:=Lib.hid hs;have HA:=Lib.hid ha;have HB:=Lib.hid hb;have HXY:=Lib.hid hxy;clear ht hn hz hpk hs ha hb hxy;refine zE ?_;intro u1 H;refine zW (eC HA.out u1 (RS.below HHX.out H.O)) ?_;clear H;intro w2 FX1 FX2 fxc fxd u2 H;refine zW (eC HB.out u2 (RS.below HHY.out H.O)) ?_;clear H;intro w3 FY1 FY2 fyc fyd u3 H;refine zB (iR HA.out u3 (H.rs 1)) ?_;clear H;intro w4 u4 H;refine zB (iR HB.out u4 (H.rs 0)) ?_;clear H;intro w5 u5 H;refine zG (cz _ HS.out u5) ?_;rintro e w' ⟨rfl,rfl⟩;refine zC ?_;intro C;intros;go_upto_region 5 with fail;refine zM ?_;clear H C;intro u7 H;refine zU (tg [w.heap.size+1,w.heap.size]) ?_;clear H;intro S w8 hne H;refine zD ((And.intro (H.c 3) (H.c 4))) ?_;intro G;intros;refine y_ ((show Calls Tryz.prog 224 #[_,_,_,_] w8 (xA t.a t.b t.c n w8) from by rw [HT.out,HN.out];exact iO HR.out HC.out HD.out HS.out w8)) ?_
 rintro K hK e w9 ⟨T1,T2,T3,T4,T5,T6,k1,k2,k3,k4,k5,k6,rfl,f1,f2,f3,f4,f5,f6,hb⟩;replace H:=H.tt hb ⟨f1,f2⟩ ⟨f3,f4⟩ ⟨f5,f6⟩;refine yK ?_;clear hK K;refine yM ?_;clear H;intro w10 H;refine yS ?_;clear H;intro w11 H;intros
 repeat (first | (refine lc' ?_;intro K hK;go_big_quiet_op;go_big_quiet_on) | refine lk' ?_)
 refine aI ?_;replace H:=H.H;clear G;refine zC ?_;intro C;intros
 go_wp2_with (with_reducible refine lT 244 rfl ?_)
 refine zM ?_;clear H C;intro u13 H;intros;refine Lib.hid ?_;refine b_ (by rfl) rfl rfl (H.k 0) Tryz.underlying244 rfl (by kernel_rfl) ?_
 refine zN ?_;clear H;intro u14 H;refine zV ((show Calls Tryz.prog 225 #[_,_,_] u14 (vA z x y t u14) from by rw [HZ.out];exact AH (iC HPK.out u14 (H.rs 3) (H.rs 2) (wU (qS.rs (Ow.P1 (H.p 1))) (qS.rs (Ow.P1 (Ow.P2 (H.p 1)))) (qS.rs (Ow.P2 (Ow.P2 (H.p 1)))))))) ?_;clear H;intro w15 PA PB PD PE ca cb cd ce u15 H
 replace H:=H.d 5;replace H:=H.d 6;replace H:=H.d 5;refine zX (tg [w15.heap.size+2,w15.heap.size+1,w15.heap.size]) ?_;clear H;intro S w16 hne H;refine zD ((And.intro (H.c 0) (And.intro (H.c 1) (H.c 2)))) ?_;intro G;refine yE ?_;clear H;intro w17 H;refine yA (OS.si (Ow.P1 (Ow.P2 (H.p 4)))) HN1.out ?_;clear H;intro C1 e1 w18 H;refine yA (OS.si (Ow.P2 (Ow.P2 (H.p 4)))) ((And.intro HN1.out HN2.out)) ?_;clear H;intro C2 e2 w19 H;refine yS ?_;clear H;intro w20 H;refine yN ?_;clear H G;intro u21 H;refine zS_ ?_;clear H;intro u22 H
 exact ⟨PA,ca,PB,cb,C2,_,e2,_,rfl,(qS.a (Ow.P1 (H.p 4))),(qS.b (Ow.P1 (H.p 4))),(H.o 0),(by have:=HN1.out;have:=HN2.out;omega),H.O⟩
end
section
attribute [local go_sem] af ah ae
theorem eg (n:Int) (h0: -5000<=n) (h1:n<=5000) (w:World):Calls Tryz.prog 263 #[.int .i64 n] w fun e w'=>e= .returned (.int .i64 (n/16))/\w=w':=by
 rcases (by omega:n<0\/0<=n) with hc | hc
 ·have hd:Int.tdiv (-n+16-1) 16=(-n+16-1)/16:=Int.tdiv_eq_ediv_of_nonneg (by omega)
  have hd':=Lib.hid hd
  go_enter Tryz.func263,Tryz.ntmps263
  go_wp2
  go_ret
  exact ⟨ag (by omega),rfl⟩
 ·have hd:Int.tdiv n 16=n/16:=Int.tdiv_eq_ediv_of_nonneg hc
  go_enter Tryz.func263,Tryz.ntmps263
  go_wp2
  go_ret
  exact ⟨ag (by omega),rfl⟩
theorem gI (k:Nat) (hk:k<4096) (w:World):Calls Tryz.prog 262 #[.int .i64 (k:Int)] w fun e w'=>e= .returned (.int .i64 (fnv 1 k))/\w=w':=by
 have hr:0<=(k:Int)/\(k:Int)<=4095:=by omega
 obtain ⟨q,hq⟩:∃ q,q=sgn (k:Int):=⟨_,rfl⟩;have HS:=dN (k:Int) w;have HV:Hid (fnv 1 k=(q/16)%4096):=by rw [hq];exact rfl
 rw [<- hq] at HS;have HS:=Lib.hid HS;have hb:=iq k hk;rw [<- hq] at hb;obtain ⟨hb1,hb2⟩:=hb;clear hq
 go_enter Tryz.func262,Tryz.ntmps262
 go_wp2_with fail
 refine (ak (k:Int) hr w).mono ?_;rintro e w' ⟨rfl,rfl⟩
 go_wp2_with fail
 refine HS.out.mono ?_;rintro e w' ⟨rfl,rfl⟩
 go_wp2_with fail
 refine (eg q (by omega) (by omega) w).mono ?_
 rintro e w' ⟨rfl,rfl⟩
 go_wp2_with fail
 refine (bG _ w).mono ?_;rintro e w' ⟨rfl,rfl⟩;go_wp2
 go_ret
 exact ⟨ag HV.out.symm,rfl⟩
theorem oW (k:Nat) (hk:k<4096) (w:World):Calls Tryz.prog 227 #[.int .i64 1,.int .i64 (k:Int)] w fun e w'=>e= .returned (.int .i64 (fnv 1 k))/\w=w':=by
 have hr:0<=(k:Int)/\(k:Int)<=4095:=by omega
 have h15:(1:Int)<=1/\(1:Int)<=5:=by omega
 obtain ⟨q,hq⟩:∃ q,q=sgn (k:Int):=⟨_,rfl⟩;have HS:=dN (k:Int) w;rw [<- hq] at HS;have HS:=Lib.hid HS;have hb:=iq k hk;rw [<- hq] at hb;obtain ⟨hb1,hb2⟩:=hb;have HC:=Lib.hid (gI k hk w);clear hq
 go_enter Tryz.func227,Tryz.ntmps227
 go_wp2_with fail
 refine (ak (k:Int) hr w).mono ?_;rintro e w' ⟨rfl,rfl⟩
 go_wp2_with fail
 refine (bw h15 w).mono ?_;rintro e w' ⟨rfl,rfl⟩
 go_wp2_with fail
 refine HS.out.mono ?_;rintro e w' ⟨rfl,rfl⟩
 go_wp2_with fail
 refine HC.out.mono ?_;rintro e w' ⟨rfl,rfl⟩;go_wp2
 go_ret
 exact ⟨rfl,rfl⟩
theorem oX (k:Nat) (hk:k<4096) (w:World):Calls Tryz.prog 227 #[.int .i64 2,.int .i64 (k:Int)] w fun e w'=>e= .returned (.int .i64 (fnv 2 k))/\w=w':=by
 have hr:0<=(k:Int)/\(k:Int)<=4095:=by omega
 have h15:(1:Int)<=2/\(2:Int)<=5:=by omega
 obtain ⟨q,hq⟩:∃ q,q=sgn (k:Int):=⟨_,rfl⟩;have HS:=dN (k:Int) w;rw [<- hq] at HS;have HS:=Lib.hid HS;have hb:=iq k hk;rw [<- hq] at hb;obtain ⟨hb1,hb2⟩:=hb;have HC:=Lib.hid (gI k hk w);rcases (by omega:(0<q)\/(q=0)\/(q<0)) with hc | hc | hc
 ·have HV:Hid (fnv 2 k=q):=by show (if 0<=sgn k then sgn k else 0)=q;rw [<- hq,if_pos (by omega)]
  clear hq
  go_enter Tryz.func227,Tryz.ntmps227
  go_wp2_with fail
  refine (ak (k:Int) hr w).mono ?_;rintro e w' ⟨rfl,rfl⟩
  go_wp2_with fail
  refine (bw h15 w).mono ?_;rintro e w' ⟨rfl,rfl⟩
  go_wp2_with fail
  refine HS.out.mono ?_;rintro e w' ⟨rfl,rfl⟩;go_wp2
  go_ret
  first | exact ⟨ag HV.out.symm,rfl⟩ | exact ⟨ag (by rw [HV.out];decide),rfl⟩ | exact ⟨ag (by rw [HV.out];omega),rfl⟩
 ·have HV:Hid (fnv 2 k=0):=by show (if 0<=sgn k then sgn k else 0)=0;rw [<- hq,if_pos (by omega),hc]
  clear hq;subst hc
  go_enter Tryz.func227,Tryz.ntmps227
  go_wp2_with fail
  refine (ak (k:Int) hr w).mono ?_;rintro e w' ⟨rfl,rfl⟩
  go_wp2_with fail
  refine (bw h15 w).mono ?_;rintro e w' ⟨rfl,rfl⟩
  go_wp2_with fail
  refine HS.out.mono ?_;rintro e w' ⟨rfl,rfl⟩;go_wp2
  go_ret
  first | exact ⟨ag HV.out.symm,rfl⟩ | exact ⟨ag (by rw [HV.out];decide),rfl⟩ | exact ⟨ag (by rw [HV.out];omega),rfl⟩
 ·have HV:Hid (fnv 2 k=0):=by show (if 0<=sgn k then sgn k else 0)=0;rw [<- hq,if_neg (by omega)]
  clear hq
  go_enter Tryz.func227,Tryz.ntmps227
  go_wp2_with fail
  refine (ak (k:Int) hr w).mono ?_;rintro e w' ⟨rfl,rfl⟩
  go_wp2_with fail
  refine (bw h15 w).mono ?_;rintro e w' ⟨rfl,rfl⟩
  go_wp2_with fail
  refine HS.out.mono ?_;rintro e w' ⟨rfl,rfl⟩;go_wp2
  go_ret
  first | exact ⟨ag HV.out.symm,rfl⟩ | exact ⟨ag (by rw [HV.out];decide),rfl⟩ | exact ⟨ag (by rw [HV.out];omega),rfl⟩
theorem oe (k:Nat) (hk:k<4096) (w:World):Calls Tryz.prog 227 #[.int .i64 3,.int .i64 (k:Int)] w fun e w'=>e= .returned (.int .i64 (fnv 3 k))/\w=w':=by
 have hr:0<=(k:Int)/\(k:Int)<=4095:=by omega
 have h15:(1:Int)<=3/\(3:Int)<=5:=by omega
 obtain ⟨q,hq⟩:∃ q,q=sgn (k:Int):=⟨_,rfl⟩;have HS:=dN (k:Int) w;rw [<- hq] at HS;have HS:=Lib.hid HS;have hb:=iq k hk;rw [<- hq] at hb;obtain ⟨hb1,hb2⟩:=hb;have HC:=Lib.hid (gI k hk w);rcases (by omega:(q<0)\/(¬ q<0)) with hc | hc
 ·have HV:Hid (fnv 3 k=1):=lv1 k hk (hq ▸ hc);clear hq
  go_enter Tryz.func227,Tryz.ntmps227
  go_wp2_with fail
  refine (ak (k:Int) hr w).mono ?_;rintro e w' ⟨rfl,rfl⟩
  go_wp2_with fail
  refine (bw h15 w).mono ?_;rintro e w' ⟨rfl,rfl⟩
  go_wp2_with fail
  refine HS.out.mono ?_;rintro e w' ⟨rfl,rfl⟩;go_wp2
  go_ret
  first | exact ⟨ag HV.out.symm,rfl⟩ | exact ⟨ag (by rw [HV.out];decide),rfl⟩ | exact ⟨ag (by rw [HV.out];omega),rfl⟩
 ·have HV:Hid (fnv 3 k=0):=lv0 k hk (hq ▸ hc);clear hq
  go_enter Tryz.func227,Tryz.ntmps227
  go_wp2_with fail
  refine (ak (k:Int) hr w).mono ?_;rintro e w' ⟨rfl,rfl⟩
  go_wp2_with fail
  refine (bw h15 w).mono ?_;rintro e w' ⟨rfl,rfl⟩
  go_wp2_with fail
  refine HS.out.mono ?_;rintro e w' ⟨rfl,rfl⟩;go_wp2
  go_ret
  first | exact ⟨ag HV.out.symm,rfl⟩ | exact ⟨ag (by rw [HV.out];decide),rfl⟩ | exact ⟨ag (by rw [HV.out];omega),rfl⟩
theorem oY (k:Nat) (hk:k<4096) (w:World):Calls Tryz.prog 227 #[.int .i64 4,.int .i64 (k:Int)] w fun e w'=>e= .returned (.int .i64 (fnv 4 k))/\w=w':=by
 have hr:0<=(k:Int)/\(k:Int)<=4095:=by omega
 have h15:(1:Int)<=4/\(4:Int)<=5:=by omega
 obtain ⟨q,hq⟩:∃ q,q=sgn (k:Int):=⟨_,rfl⟩;have HS:=dN (k:Int) w;rw [<- hq] at HS;have HS:=Lib.hid HS;have hb:=iq k hk;rw [<- hq] at hb;obtain ⟨hb1,hb2⟩:=hb;have HC:=Lib.hid (gI k hk w);rcases (by omega:(q < -48)\/(-48<=q/\q < -32)\/(-32<=q/\q < -16)\/(-16<=q/\q<0)\/(0<=q/\q<16)\/(16<=q/\q<32)\/(32<=q)) with hc | hc | hc | hc | hc | hc | hc
 ·have HV:Hid (fnv 4 k=1):=by show gro (sgn k)=1;rw [<- hq];unfold gro;repeat (first | rw [if_pos (by omega)] | rw [if_neg (by omega)])
  clear hq;obtain ⟨f,hf⟩:∃ f,f=q/16:=⟨_,rfl⟩;have hf1:f<= -4:=by omega
  have HF:=eg q (by omega) (by omega) w
  rw [<- hf] at HF;have HF:=Lib.hid HF;clear hf
  go_enter Tryz.func227,Tryz.ntmps227
  go_wp2_with fail
  refine (ak (k:Int) hr w).mono ?_;rintro e w' ⟨rfl,rfl⟩
  go_wp2_with fail
  refine (bw h15 w).mono ?_;rintro e w' ⟨rfl,rfl⟩
  go_wp2_with fail
  refine HS.out.mono ?_;rintro e w' ⟨rfl,rfl⟩
  go_wp2_with fail
  refine HF.out.mono ?_;rintro e w' ⟨rfl,rfl⟩;go_wp2
  go_ret
  first | exact ⟨ag HV.out.symm,rfl⟩ | exact ⟨ag (by rw [HV.out];decide),rfl⟩ | exact ⟨ag (by rw [HV.out];omega),rfl⟩
 ·have HV:Hid (fnv 4 k=2):=by show gro (sgn k)=2;rw [<- hq];unfold gro;repeat (first | rw [if_pos (by omega)] | rw [if_neg (by omega)])
  clear hq;obtain ⟨f,hf⟩:∃ f,f=q/16:=⟨_,rfl⟩;have hf1:f= -3:=by omega
  have HF:=eg q (by omega) (by omega) w
  rw [<- hf] at HF;have HF:=Lib.hid HF;clear hf;subst hf1
  go_enter Tryz.func227,Tryz.ntmps227
  go_wp2_with fail
  refine (ak (k:Int) hr w).mono ?_;rintro e w' ⟨rfl,rfl⟩
  go_wp2_with fail
  refine (bw h15 w).mono ?_;rintro e w' ⟨rfl,rfl⟩
  go_wp2_with fail
  refine HS.out.mono ?_;rintro e w' ⟨rfl,rfl⟩
  go_wp2_with fail
  refine HF.out.mono ?_;rintro e w' ⟨rfl,rfl⟩;go_wp2
  go_ret
  first | exact ⟨ag HV.out.symm,rfl⟩ | exact ⟨ag (by rw [HV.out];decide),rfl⟩ | exact ⟨ag (by rw [HV.out];omega),rfl⟩
 ·have HV:Hid (fnv 4 k=4):=by show gro (sgn k)=4;rw [<- hq];unfold gro;repeat (first | rw [if_pos (by omega)] | rw [if_neg (by omega)])
  clear hq;obtain ⟨f,hf⟩:∃ f,f=q/16:=⟨_,rfl⟩;have hf1:f= -2:=by omega
  have HF:=eg q (by omega) (by omega) w
  rw [<- hf] at HF;have HF:=Lib.hid HF;clear hf;subst hf1
  go_enter Tryz.func227,Tryz.ntmps227
  go_wp2_with fail
  refine (ak (k:Int) hr w).mono ?_;rintro e w' ⟨rfl,rfl⟩
  go_wp2_with fail
  refine (bw h15 w).mono ?_;rintro e w' ⟨rfl,rfl⟩
  go_wp2_with fail
  refine HS.out.mono ?_;rintro e w' ⟨rfl,rfl⟩
  go_wp2_with fail
  refine HF.out.mono ?_;rintro e w' ⟨rfl,rfl⟩;go_wp2
  go_ret
  first | exact ⟨ag HV.out.symm,rfl⟩ | exact ⟨ag (by rw [HV.out];decide),rfl⟩ | exact ⟨ag (by rw [HV.out];omega),rfl⟩
 ·have HV:Hid (fnv 4 k=8):=by show gro (sgn k)=8;rw [<- hq];unfold gro;repeat (first | rw [if_pos (by omega)] | rw [if_neg (by omega)])
  clear hq;obtain ⟨f,hf⟩:∃ f,f=q/16:=⟨_,rfl⟩;have hf1:f= -1:=by omega
  have HF:=eg q (by omega) (by omega) w
  rw [<- hf] at HF;have HF:=Lib.hid HF;clear hf;subst hf1
  go_enter Tryz.func227,Tryz.ntmps227
  go_wp2_with fail
  refine (ak (k:Int) hr w).mono ?_;rintro e w' ⟨rfl,rfl⟩
  go_wp2_with fail
  refine (bw h15 w).mono ?_;rintro e w' ⟨rfl,rfl⟩
  go_wp2_with fail
  refine HS.out.mono ?_;rintro e w' ⟨rfl,rfl⟩
  go_wp2_with fail
  refine HF.out.mono ?_;rintro e w' ⟨rfl,rfl⟩;go_wp2
  go_ret
  first | exact ⟨ag HV.out.symm,rfl⟩ | exact ⟨ag (by rw [HV.out];decide),rfl⟩ | exact ⟨ag (by rw [HV.out];omega),rfl⟩
 ·have HV:Hid (fnv 4 k=16):=by show gro (sgn k)=16;rw [<- hq];unfold gro;repeat (first | rw [if_pos (by omega)] | rw [if_neg (by omega)])
  clear hq;obtain ⟨f,hf⟩:∃ f,f=q/16:=⟨_,rfl⟩;have hf1:f=0:=by omega
  have HF:=eg q (by omega) (by omega) w
  rw [<- hf] at HF;have HF:=Lib.hid HF;clear hf;subst hf1
  go_enter Tryz.func227,Tryz.ntmps227
  go_wp2_with fail
  refine (ak (k:Int) hr w).mono ?_;rintro e w' ⟨rfl,rfl⟩
  go_wp2_with fail
  refine (bw h15 w).mono ?_;rintro e w' ⟨rfl,rfl⟩
  go_wp2_with fail
  refine HS.out.mono ?_;rintro e w' ⟨rfl,rfl⟩
  go_wp2_with fail
  refine HF.out.mono ?_;rintro e w' ⟨rfl,rfl⟩;go_wp2
  go_ret
  first | exact ⟨ag HV.out.symm,rfl⟩ | exact ⟨ag (by rw [HV.out];decide),rfl⟩ | exact ⟨ag (by rw [HV.out];omega),rfl⟩
 ·have HV:Hid (fnv 4 k=32):=by show gro (sgn k)=32;rw [<- hq];unfold gro;repeat (first | rw [if_pos (by omega)] | rw [if_neg (by omega)])
  clear hq;obtain ⟨f,hf⟩:∃ f,f=q/16:=⟨_,rfl⟩;have hf1:f=1:=by omega
  have HF:=eg q (by omega) (by omega) w
  rw [<- hf] at HF;have HF:=Lib.hid HF;clear hf;subst hf1
  go_enter Tryz.func227,Tryz.ntmps227
  go_wp2_with fail
  refine (ak (k:Int) hr w).mono ?_;rintro e w' ⟨rfl,rfl⟩
  go_wp2_with fail
  refine (bw h15 w).mono ?_;rintro e w' ⟨rfl,rfl⟩
  go_wp2_with fail
  refine HS.out.mono ?_;rintro e w' ⟨rfl,rfl⟩
  go_wp2_with fail
  refine HF.out.mono ?_;rintro e w' ⟨rfl,rfl⟩;go_wp2
  go_ret
  first | exact ⟨ag HV.out.symm,rfl⟩ | exact ⟨ag (by rw [HV.out];decide),rfl⟩ | exact ⟨ag (by rw [HV.out];omega),rfl⟩
 ·have HV:Hid (fnv 4 k=64):=by show gro (sgn k)=64;rw [<- hq];unfold gro;repeat (first | rw [if_pos (by omega)] | rw [if_neg (by omega)])
  clear hq;obtain ⟨f,hf⟩:∃ f,f=q/16:=⟨_,rfl⟩;have hf1:2<=f:=by omega
  have HF:=eg q (by omega) (by omega) w
  rw [<- hf] at HF;have HF:=Lib.hid HF;clear hf
  go_enter Tryz.func227,Tryz.ntmps227
  go_wp2_with fail
  refine (ak (k:Int) hr w).mono ?_;rintro e w' ⟨rfl,rfl⟩
  go_wp2_with fail
  refine (bw h15 w).mono ?_;rintro e w' ⟨rfl,rfl⟩
  go_wp2_with fail
  refine HS.out.mono ?_;rintro e w' ⟨rfl,rfl⟩
  go_wp2_with fail
  refine HF.out.mono ?_;rintro e w' ⟨rfl,rfl⟩;go_wp2
  go_ret
  first | exact ⟨ag HV.out.symm,rfl⟩ | exact ⟨ag (by rw [HV.out];decide),rfl⟩ | exact ⟨ag (by rw [HV.out];omega),rfl⟩
theorem oZ (k:Nat) (hk:k<4096) (w:World):Calls Tryz.prog 227 #[.int .i64 5,.int .i64 (k:Int)] w fun e w'=>e= .returned (.int .i64 (fnv 5 k))/\w=w':=by
 have hr:0<=(k:Int)/\(k:Int)<=4095:=by omega
 have h15:(1:Int)<=5/\(5:Int)<=5:=by omega
 obtain ⟨q,hq⟩:∃ q,q=sgn (k:Int):=⟨_,rfl⟩;have HS:=dN (k:Int) w;rw [<- hq] at HS;have HS:=Lib.hid HS;have hb:=iq k hk;rw [<- hq] at hb;obtain ⟨hb1,hb2⟩:=hb;have HC:=Lib.hid (gI k hk w);rcases (by omega:(q<=0)\/(¬ q<=0)) with hc | hc
 ·have HV:Hid (fnv 5 k=0):=by show (if sgn k<=0 then 0 else 256/sgn k)=0;rw [<- hq,if_pos hc]
  clear hq
  go_enter Tryz.func227,Tryz.ntmps227
  go_wp2_with fail
  refine (ak (k:Int) hr w).mono ?_;rintro e w' ⟨rfl,rfl⟩
  go_wp2_with fail
  refine (bw h15 w).mono ?_;rintro e w' ⟨rfl,rfl⟩
  go_wp2_with fail
  refine HS.out.mono ?_;rintro e w' ⟨rfl,rfl⟩;go_wp2
  go_ret
  first | exact ⟨ag HV.out.symm,rfl⟩ | exact ⟨ag (by rw [HV.out];decide),rfl⟩ | exact ⟨ag (by rw [HV.out];omega),rfl⟩
 ·have HV:Hid (fnv 5 k=(256/q)):=by show (if sgn k<=0 then 0 else 256/sgn k)=256/q;rw [<- hq,if_neg hc]
  clear hq
  go_enter Tryz.func227,Tryz.ntmps227
  go_wp2_with fail
  refine (ak (k:Int) hr w).mono ?_;rintro e w' ⟨rfl,rfl⟩
  go_wp2_with fail
  refine (bw h15 w).mono ?_;rintro e w' ⟨rfl,rfl⟩
  go_wp2_with fail
  refine HS.out.mono ?_;rintro e w' ⟨rfl,rfl⟩;have hd:Int.tdiv 256 q=256/q:=Int.tdiv_eq_ediv_of_nonneg (by omega)
  have HD:=Lib.hid hd;clear hd;go_wp2
  go_ret
  first | exact ⟨ag HV.out.symm,rfl⟩ | exact ⟨ag (by rw [HV.out];decide),rfl⟩ | exact ⟨ag (by rw [HV.out];omega),rfl⟩ | exact ⟨ag (by rw [HV.out];exact HD.out),rfl⟩
theorem qv {kd:Int} (hK:1<=kd/\kd<=5) (k:Nat) (hk:k<4096) (w:World):Calls Tryz.prog 227 #[.int .i64 kd,.int .i64 (k:Int)] w fun e w'=>e= .returned (.int .i64 (fnv kd k))/\w=w':=by
 rcases (by omega:kd=1\/kd=2\/kd=3\/kd=4\/kd=5) with rfl | rfl | rfl | rfl | rfl
 ·exact oW k hk w
 ·exact oX k hk w
 ·exact oe k hk w
 ·exact oY k hk w
 ·exact oZ k hk w
theorem lJ {kd:Int} (hK:1<=kd/\kd<=5) (w:World):Calls Tryz.prog 187 #[.int .i64 kd] w (vy 4096 (fl (fnv kd) 4096) w):=by
 have HK:=Lib.hid hK;clear hK;refine zE ?_;intro u1 H;intros
 go_loopw [3,4] (fun vo vk wr=>∃ (j c:Nat) (B:Option Addr),j<=4096/\vk= .int .i64 j/\vo= .slice B j c/\Hid (Hq w [qO w.heap.size B j c (fl (fnv kd) j)] wr)) (fun _ vk _=>4096-(intOf vk).toNat)
 case atStart=>exact ⟨0,0,_,Nat.zero_le _,rfl,rfl,H⟩
 case round =>
 clear H;obtain ⟨j,c,B,hj,rfl,rfl,H⟩:=hrel;have H:=H.out
 by_cases hlt:j<4096
 ·have hjI:(j:Int)<4096:=by omega
  obtain ⟨y,hy⟩:∃ y,y=fnv kd j:=⟨_,rfl⟩;have HF:Hid (∀ w',Calls Tryz.prog 227 #[.int .i64 kd,.int .i64 (j:Int)] w' fun e w''=>e= .returned (.int .i64 y)/\w'=w''):=by rw [hy];exact fun w'=>qv HK.out j hlt w'
  have HY:=Lib.hid hy;clear hy;refine zN ?_;clear H;intro u1 H;refine zP (bw HK.out u1) ?_;clear H;intro u2 H;refine zG (HF.out u2) ?_;rintro e w' ⟨rfl,rfl⟩;refine zC ?_;intro C;intros
  go_wp2_with (at_builtin;refine zM ?_)
  clear H C;intro u4 H;replace H:=H.r 1;refine zA (dQ (H.k 1)) True.intro ?_;clear H;intro C1 k1 w4 H;replace H:=H.d 1;have HE:Hid (fl (fnv kd) (j+1)=fl (fnv kd) j++[y]):=by unfold Hid;rw [dd,HY.out]
  rw [<- HE.out] at H;refine zC ?_;intro C;intros;go_wp2
  go_roundw
  case rel=>exact ⟨j+1,k1,C1,by omega,by go_num,rfl,H⟩
  case measure=>simp [intOf];omega
 ·obtain rfl:j=4096:=by omega
  refine zR ?_;clear H;intro u61 H
  exact ⟨B,c,rfl,(H.o 0),H.O⟩
end
section
attribute [local go_sem] af ah ae
theorem dA {kd:Int} (hK:1<=kd/\kd<=5) {p:Mx×Mx} {s:Int} (hop:okS p=true) (hs:sdB s=true) {x:Value} (w:World) (hx:RS w x p):Calls Tryz.prog 139 #[.int .i64 kd,x,.int .i64 s] w (bo (dv (fnv kd) p s).1 (dv (fnv kd) p s).2 25 w):=by
 have HNN:=Lib.hid (bt (show az p.1 p.2=true from hop)).1
 have HN25:=Lib.hid (dy (ai hop).1);have HN1:Hid (0<p.1.v.length):=by have:=HN25.out;unfold Hid;omega
 have HN2:Hid (0<p.2.v.length):=by have:=dy (ai hop).2.1;unfold Hid;omega
 have HMP:Hid (dv (fnv kd) p s=((⟨p.1.r,p.1.c,fl (mp1 p s) p.1.v.length⟩,⟨p.1.r,p.1.c,fl (mp2 (fnv kd) p s) p.1.v.length⟩),mpS s p.1.v.length)):=rfl;have HHX:=Lib.hid hx;obtain ⟨A1,A2,p1,p2,rfl,-⟩:=hx;have HK:=Lib.hid hK;have HP:=Lib.hid hop;have HS:=Lib.hid hs;clear hK hop hs;refine zE ?_;intro u1 H;refine zW (eC HP.out u1 (RS.below HHX.out H.O)) ?_;clear H;intro w2 FX1 FX2 fxc fxd u2 H;refine zB (iR HP.out u2 (H.rs 1)) ?_;clear H;intro w3 u3 H;refine zP (bw HK.out u3) ?_;clear H;intro u4 H;refine zP (cz _ HS.out u4) ?_;clear H;intro u5 H;refine zO (lJ HK.out u5) ?_;clear H;intro w6 AV cV u6 H;replace H:=H.nil.nil;obtain ⟨ga,rfl,-,-⟩:=OS.pos (qS.a (H.p 5)) HN1.out;obtain ⟨gb,rfl,-,-⟩:=OS.pos (qS.b (H.p 5)) HN2.out;replace H:=((((((((H.r 7).r 7).r 7).r 6).r 6).r 5).r 6).r 7);intros
 go_loopw [2,9,12] (fun s2 s9 s12 wr=>∃ (j c a b:Nat) (C A B:Option Addr) (v:List Int),j<=p.1.v.length/\s12= .int .i64 j/\s2= .int .i64 (mpS s j)/\s9= .slice C j c/\Hid (Hq w [qO w.heap.size C j c v,qO w.heap.size A j a (fl (mp1 p s) j),qO w.heap.size B j b (fl (mp2 (fnv kd) p s) j),qB w6.heap.size 82 [.int .i64 p.1.r,.int .i64 p.1.c,.slice A j a,.int .i64 p.1.r,.int .i64 p.1.c,.slice B j b],qO w.heap.size AV 4096 cV (fl (fnv kd) 4096),qS w.heap.size (some ⟨ga,0,none⟩) fxc (some ⟨gb,0,none⟩) fxd p,qB (w.heap.size+1) 82 [.int .i64 0,.int .i64 0,.slice none 0 0,.int .i64 0,.int .i64 0,.slice none 0 0],qB w.heap.size 82 [.int .i64 p.1.r,.int .i64 p.1.c,.slice (some ⟨ga,0,none⟩) p.1.v.length fxc,.int .i64 p.2.r,.int .i64 p.2.c,.slice (some ⟨gb,0,none⟩) p.2.v.length fxd]] wr)) (fun _ _ i _=>p.1.v.length-(intOf i).toNat)
 case atStart=>exact ⟨0,0,0,0,_,none,none,[],Nat.zero_le _,rfl,rfl,rfl,H⟩
 case round =>
 clear H;obtain ⟨j,c,a,b,C,A,B,v,hj,rfl,rfl,rfl,H⟩:=hrel;have H:=H.out
 by_cases hlt:j<p.1.v.length
 ·obtain ⟨σ,hσ⟩:∃ x,x=mpS s j:=⟨_,rfl⟩;obtain ⟨a1,ha1⟩:∃ x,x=p.1.v.getD j 0:=⟨_,rfl⟩;obtain ⟨a2,ha2⟩:∃ x,x=p.2.v.getD j 0:=⟨_,rfl⟩;have hsv:sv a1 a2=true:=by rw [ha1,ha2];exact fX (dE (ai HP.out).1 j) (dE (ai HP.out).2.1 j)
  obtain ⟨jj,hjj⟩:∃ x,x=shJ p j:=⟨_,rfl⟩;have hsh:(a1+a2)%4096=jj:=by rw [hjj,ha1,ha2];rfl
  have hso:sdB σ=true:=by rw [hσ];exact qn HS.out j
  have hnx:mpS s (j+1)=sds (sds σ 2) 4096:=by rw [hσ];rfl
  obtain ⟨d1,hd1⟩:∃ x,x=lk1 σ jj:=⟨_,rfl⟩;obtain ⟨d2,hd2⟩:∃ x,x=lk2 (fnv kd) σ jj:=⟨_,rfl⟩;have HE1:Hid (fl (mp1 p s) (j+1)=fl (mp1 p s) j++[d1]):=by show _=_;rw [dd,show mp1 p s j=d1 from by rw [hd1,hσ,hjj];unfold mp1;rfl]
  have HE2:Hid (fl (mp2 (fnv kd) p s) (j+1)=fl (mp2 (fnv kd) p s) j++[d2]):=by show _=_;rw [dd,show mp2 (fnv kd) p s j=d2 from by rw [hd2,hσ,hjj];unfold mp2;rfl]
  rw [<- hσ];have j0:(0:Int)<=(j:Int):=by omega
  have j1:(j:Int)<(p.1.v.length:Int):=by omega
  have j2:(j:Int)<(p.2.v.length:Int):=by have:=HNN.out;omega
  have hlt2:j<p.2.v.length:=by have:=HNN.out;omega
  have h25:j<25:=by have:=HN25.out;omega
  have HSV:=Lib.hid hsv;have HSH:=Lib.hid hsh;have HSO:=Lib.hid hso;have HNX:=Lib.hid hnx;have HA1:=Lib.hid ha1;have HA2:=Lib.hid ha2;have HD1:=Lib.hid hd1;have HD2:=Lib.hid hd2;clear hsv hsh hso hnx ha1 ha2 hd1 hd2 hσ hjj;refine zN ?_;clear H;intro u41 H;refine zOO (sn (fnv kd) (fun j _=>pX kd j) (dH HSO.out) _ _ u41 (OS.si (H.o 4))) ?_;clear H;intro w42 TA TB tc td u42 H
  have ez1:ga<u42.heap.size:=(OS.aj (qS.a (H.p 7)) ga rfl).2;have ez2:gb<u42.heap.size:=(OS.aj (qS.b (H.p 7)) gb rfl).2;have E:=H.el;refine zXF (tgF [w42.heap.size,w.heap.size,ga,gb] 19 15 (.cells #[.int .i64 0,.int .i64 0] 213)) ?_;clear H;intro S w43 hne H;refine zD ((And.intro (H.c 0) (H.c 9))) ?_;intro G;have r1:=H.row (show World.cell? _ ⟨ga,j,none⟩=some (.int .i64 a1) from by rw [HA1.out];exact OS.cellAt (qS.a (H.p 7)) hlt)
  have r2:=H.row (show World.cell? _ ⟨gb,j,none⟩=some (.int .i64 a2) from by rw [HA2.out];exact OS.cellAt (qS.b (H.p 7)) hlt2)
  intros;refine f_ (fun w44 (hb:Bw w43 w44)=>AZ (f:=fnv kd) (fun j _=>pX kd j) HSV.out HSH.out TA TB tc td w44 (OS.si (Ow.P1 ((H.b hb).p 1))) (OS.si (Ow.P2 ((H.b hb).p 1)))) ?_;clear H
  rintro w44 K hK H e w45 ⟨rfl,hb⟩;replace H:=H.b hb;rw [<- HD1.out,<- HD2.out];refine fK ?_;clear hK K hb;refine yG ?_;clear H;intro w46 g46 hg46 H;refine yS ?_;clear H;intro w47 H;intros
  repeat (first | (refine lc' ?_;intro K hK;go_big_quiet_op;go_big_quiet_on) | refine lk' ?_)
  refine aI ?_;replace H:=H.H;clear G;refine zC ?_;intro C;intros
  go_wp2_with (at_builtin;refine zM ?_)
  clear H C;intro u49 H;replace H:=H.r 5;refine zA (dQ (H.k 1)) True.intro ?_;clear H;intro A' a' w49 H;replace H:=H.d 1;refine zC ?_;intro C;intros
  go_wp2_with (at_builtin;refine zM ?_)
  clear H C;intro u50 H;replace H:=H.r 6;refine zA (dQ (H.k 1)) True.intro ?_;clear H;intro B' b' w50 H;replace H:=H.d 1;refine zC ?_;intro C;intros
  go_wp2_with (at_builtin;refine zM ?_)
  clear H C;intro u51 H;replace H:=H.r 6;refine zA (dQ (H.k 1)) True.intro ?_;clear H;intro C' c' w51 H;replace H:=H.d 1;rw [<- HE1.out,<- HE2.out] at H;replace H:=(((((((((((H.d 3).d 3).d 3).r 7).r 7).r 7).r 7).r 7).r 6).r 7).r 7);refine zC ?_;intro C;intros;go_wp2
  go_roundw
  case rel=>exact ⟨j+1,c',a',b',C',A',B',_,by omega,by go_num,by rw [HNX.out],rfl,H⟩
  case measure=>simp [intOf];omega
 ·have hjn:p.1.v.length=j:=by omega
  refine zS_ ?_;clear H;intro u81 H
  exact (by rw [HMP.out,hjn];exact ⟨A,a,B,b,C,j,c,v,by dsimp only;rw [aD,aD];rfl,by dsimp only;rw [aD];exact (H.o 1),by dsimp only;rw [aD];exact (H.o 2),(H.o 0),by have:=HN25.out;omega,H.O⟩)
end
end Go.Proofs.YtjciicheoghcdaaGreatDoor

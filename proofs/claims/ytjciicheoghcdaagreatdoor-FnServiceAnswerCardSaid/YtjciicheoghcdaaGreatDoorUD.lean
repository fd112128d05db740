/- Part of the proof of FnServiceAnswer. -/
import Derived.Test.YtjciicheoghcdaaGreatDoorUC
import Derived.Test.YtjciicheoghcdaaGreatDoorUw
namespace Go.Proofs.YtjciicheoghcdaaGreatDoor
open Go.RowKit Go.Proofs.Tryz
set_option linter.all false
set_option maxRecDepth 20000
set_option maxHeartbeats 16000000
section
attribute [local go_sem] af ah ae
theorem He {m:Mx} (h:mvB m=true):(mt m).length<=9000:=by
 obtain⟨R,C,e1,e2,_,_,hC,_,hl,h25,_⟩:=er h;rw[l_ h e1 e2,<-uz m.v C (by omega) R (by omega)]
 have:=Bg m.v C (R*C)
 omega
theorem Iu {w:World} {b n c:Nat} {A:Option Addr} {r k:Int} {v:List Int} (hl:v.length=n) (h:OS w b A n c v):RM w (.agg #[.int .i64 r,.int .i64 k,.slice A n c]) ⟨r,k,v⟩:=by
 subst hl
 exact RM.aB (m:=⟨r,k,v⟩) h
theorem GF (A:Option Addr) (len cap:Nat) (zs:List Int) (w:World) (ht:Tab w) (hm:iD w) (hw:ER .u8 w A len cap zs):Calls prog 3 #[.slice A len cap] w fun e w'=>e= .returned (.bool true)/\Below w.heap.size w w':=by
 obtain⟨hl,hcm,hr,hn0⟩:=El hw;have HT:=Qh ht;have HM:=Qh hm;clear ht hm hw
 by_cases hbig:1048576<len
 ·have h1:(1048576:Int)<(len:Int):=by omega
  clear hr hn0 hbig;refine zE ?_;intro u1 H;refine zR ?_;clear H;intro u2 H
  exact⟨rfl,H.O⟩
 ·have h1:(len:Int)<=1048576:=by omega
  have HB:=Qh hr;clear hr hbig;refine zE ?_;intro u1 H;refine zG (DF A len cap u1 hl hcm (((HB.out.au fun j hj=>H.O.block j hj)).mono H.m) hn0) ?_
  rintro e w2 ⟨A1,c1,x,F,t,rfl,hri,hsv,ht9,hb⟩;have HB2:Hid (Below w.heap.size w w2):=H.O.trans (hb.mono H.m);have HT2:Hid (Tab w2):=HT.out.below HB2.out Ql;have HM2:Hid (iD w2):=HM.out.below HB2.out Ql;obtain⟨l,rfl⟩:∃ l,t=bs l:=⟨t.data.toList,(fe t).symm⟩;have HLL:Hid (l.length<=1048576):=by rw[aK] at ht9;unfold Hid;omega
  have HRI:=Qh hri;have HS:=Qh hsv;clear H hri hsv ht9 hb HB;have H:=Hq.start w2;refine zN ?_;clear H;intro u3 H;refine zG (BD HS.out HLL.out u3 (HT2.out.below H.O Ql) (HM2.out.below H.O Ql) (HRI.out.below H.O)) ?_;rintro e w4 ⟨r,A9,c9,F9,hL,rfl,ri,fr,hb⟩;replace H:=H.rf hb ri fr;have HLX:=Qh hL;clear hL ri fr hb;refine zN ?_;clear H;intro u5 H;refine zG (CL HS.out HLL.out u5 (HRI.out.below H.O)) ?_;rintro e w6 ⟨r',A6,c6,F6,hL,rfl,ri,fr,hb⟩;replace H:=H.rf hb ri fr;obtain rfl:=HLX.out.one hL;clear hL ri fr hb;have hsm:((bs r.2).toList == (bs r.2).toList)=true:=by simp
  refine zN ?_;clear H;intro u7 H;refine zB (DD u7 [.slice A9 r.1.1.length c9,.int .i64 r.1.2] [.slice A6 r.1.1.length c6,.int .i64 r.1.2] r.1 F9 F6 ⟨A9,c9,rfl,(H.f 3).1⟩ ⟨A6,c6,rfl,(H.f 1).1⟩ HLX.out.sv) ?_;clear H;intro w8 u8 H;replace H:=H.d 1;refine zG (iS u8 [.slice A1 x.1.length c1,.int .i64 x.2] x F ⟨A1,c1,rfl,HRI.out.below H.O⟩ HS.out) ?_;rintro e w9 ⟨rfl,hb⟩;replace H:=H.b hb;clear hb
  cases hv:svB x
  ·obtain rfl:r=(([],0),[]):=by have h:=HLX.out;unfold Lx at h;rw[hv] at h;simpa using h
   clear hv hsm;refine zN ?_;clear H;intro u10 H;refine zP (EZ u10) ?_;clear H;intro u11 H;refine zR ?_;clear H;intro u12 H
   exact⟨rfl,HB2.out.trans (H.O.mono HB2.out.size)⟩
  ·have HOK:=Qh (xm hv);have HV:=Qh hv;have HNS:=Qh (mg HOK.out.1);have HJV:=Qh (eN HOK.out.1);clear hv hsm;obtain⟨d,hd⟩:∃ d:Nat,d=len%2:=⟨_,rfl⟩;obtain⟨f,hf⟩:∃ f:Nat,f=len%50:=⟨_,rfl⟩;obtain⟨R,hR'⟩:∃ R:Nat,R=1+d:=⟨_,rfl⟩;have ht2:(len:Int).tmod 2=(d:Int):=by rw[Int.tmod_eq_emod_of_nonneg (by omega)];omega
   have ht3:(len:Int)%2=(d:Int):=by omega
   have ht4:(len:Int).tmod 50=(f:Int):=by rw[Int.tmod_eq_emod_of_nonneg (by omega)];omega
   have ht5:(len:Int)%50=(f:Int):=by omega
   have hR:(1:Int)+(d:Int)=(R:Int):=by omega
   have hd1:(d:Int)<=1:=by omega
   have hf1:(f:Int)<=49:=by omega
   have hR1:1<=R:=by omega
   have hR2:R<=2:=by omega
   obtain⟨F1,hF1⟩:∃ F:Nat->Int,F=fun i:Nat=>16*(i:Int)+(f:Int):=⟨_,rfl⟩
   have hmm:mvB ⟨(R:Int),1,fl F1 R⟩=true:=mf (by unfold side;exact decide_eq_true (by omega)) (by decide) (by omega) (fun k hk=>by rw[hF1];exact aR (by dsimp only;omega))
   have HF1:=Qh hF1;have HMM:=Qh hmm;clear hF1 hmm hd hf hR';refine zN ?_;clear H;intro u10 H;refine zG (FV _ _ _ x.1 _ u10 (HRI.out.below H.O) HNS.out) ?_;rintro e w11 ⟨AJ,nj,cj,FJ,rfl,hrj,hfr,hb⟩;replace H:=H.rf hb hrj hfr;rw[HOK.out.1];obtain rfl:=hrj.len;clear hrj hfr hb;refine zN ?_;clear H;intro u12 H;replace H:=H.nil;obtain⟨gM,hgM⟩:∃ x,x=w11.heap.size:=⟨_,rfl⟩;rw[<-hgM] at H ⊢;clear hgM;replace H:=(((H.d 3).d 3).d 3);intros
   go_loopw [12] (fun i wr=>∃ (j:Nat) (C:Option Addr) (kc:Nat),j<=R/\i= .int .i64 j/\Hid (Hq w2 [qO w2.heap.size C j kc (fl F1 j),qB gM 37 [.int .i64 (R:Int),.int .i64 1,.slice C j kc],qR (kE mxE) w2.heap.size AJ (bh x.1).length cj (bh x.1) FJ,qB w2.heap.size 25 [.slice A1 x.1.length c1,.int .i64 x.2]] wr)) (fun i _=>R-(intOf i).toNat)
   case atStart=>exact⟨0,none,0,Nat.zero_le _,rfl,H⟩
   case round =>
    clear H;obtain⟨j,C,kc,hj,rfl,H⟩:=hrel;have H:=H.out
    by_cases hlt:j<R
    ·have j1:(j:Int)<(R:Int):=by omega
     have j2:(R:Int)<=2:=by omega
     have HST:Hid (fl F1 (j+1)=fl F1 j++[16*(j:Int)+(f:Int)]):=by show _=_;rw[dd,HF1.out]
     refine zC ?_;intro C;intros
     go_wp2_with (at_builtin;refine zM ?_)
     clear H C;intro u61 H;replace H:=H.r 1;refine zA (dQ (H.k 1)) True.intro ?_;clear H;intro C2 k2 w61 H;replace H:=H.d 1;refine zC ?_;intro C;intros;go_wp2
     go_roundw
     case rel=>exact⟨j+1,C2,k2,by omega,by go_num,(by rw[HST.out];exact Qh hq)⟩
     case measure=>simp[intOf];omega
    ·obtain rfl:R=j:=by omega
     refine zN ?_;clear H;intro u81 H;have hjr:(fl F1 R).length=R:=aD _ _;obtain⟨mm,hm'⟩:∃ m:Mx,m=⟨(R:Int),1,fl F1 R⟩:=⟨_,rfl⟩;have HMD:=Qh hm';have hmv:mvB mm=true:=by rw[hm'];exact HMM.out
     have HMV:=Qh hmv;obtain⟨tM,htM⟩:∃ t,t=bs (mt mm):=⟨_,rfl⟩;have htl:tM.size<=10000:=by rw[htM,aK];have:=He hmv;omega
     have n_x1:=cK (a:=4) (b:=tM.size) (by omega)
     obtain⟨x1,h_x1⟩:∃ x,(⟨#[114,117,110,32]⟩:ByteArray)++tM=x:=⟨_,rfl⟩;have HX1:Hid (x1=bs (G3++mt mm)):=by show _=_;rw[<-h_x1,htM,show (⟨#[114,117,110,32]⟩:ByteArray)=bs G3 from rfl,bN]
     have HTM:=Qh htM;have HL1:Hid ((G3++mt mm).length<=1048576):=by have:=He hmv;unfold Hid;rw[List.length_append];show 4+_<=_;omega
     obtain⟨P,hP⟩:∃ P,P=Gz (bh x.1) mm:=⟨_,rfl⟩;have HPD:=Qh hP;clear hP htM hmv hm';have E:=H.el;refine zXF (tgF [gM,w2.heap.size] 8 13 (.cells #[.slice none 0 0,.int .i64 0] 25)) ?_;clear H;intro S w82 hne H;refine zD ((And.intro (H.c 1) (H.c 3))) ?_;intro G;refine fB (fun w83 (hb:Bw w82 w83)=>(show Calls prog 15 #[.agg #[.int .i64 (R:Int),.int .i64 1,.slice C R kc]] w83 (fun e w'=>e= .returned (.string tM)/\Below w83.heap.size w83 w') from by rw[HTM.out,HMD.out];exact qe (R:Int) 1 (fl F1 R) C R kc w83 (HT2.out.below (H.b hb).O Ql) ((H.b hb).o 0).si (by omega) ((H.b hb).o 0).dC.1 ((H.b hb).o 0).dC.2)) ?_;clear H;intro w84 H
     intros;refine f_ (fun w85 (hb:Bw w84 w85)=>(show Calls prog 9 #[.agg #[.slice A1 x.1.length c1,.int .i64 x.2],.string x1] w85 (LxP x (G3++mt mm) w85) from by rw[HX1.out];exact BD HS.out HL1.out w85 (HT2.out.below (H.b hb).O Ql) (HM2.out.below (H.b hb).O Ql) (HRI.out.below (H.b hb).O))) ?_;clear H
     rintro w85 K hK H e w86 ⟨r2,A8,c8,F8,hL,rfl,ri,fr,hb⟩;replace H:=H.rf hb ri fr;have HL8:=Qh hL;clear hL ri fr;refine fK ?_;clear hK K hb;refine yGv ?_;clear H;intro w87 g87 hg87 H;refine yS ?_;clear H;intro w88 H;refine yN ?_;clear H G;intro u89 H;have hans:LnR x.1 x.2 (G3++mt mm) r2:=by have h:=HL8.out;unfold Lx at h;rw[if_pos HV.out] at h;exact h
     have hcs:=H_ HMV.out HOK.out hans;rw[<-HPD.out] at hcs;clear hans;rcases hcs with⟨h0,h1⟩|⟨h0,h1,h2⟩
     ·have e0:(P.r == 0)=true:=by rw[h0];rfl
      have e1:((bs r2.2).toList == [110,111])=true:=(bq _ _).trans (by rw[h1];decide)
      clear h0 h1;refine zO ((show Calls prog 16 #[_,.agg #[.int .i64 (R:Int),.int .i64 1,.slice C R kc]] u89 (bD P u89) from by rw[HPD.out];exact Is HJV.out dU HMV.out u89 (H.f 4).1 (by rw[HMD.out];exact Iu hjr (H.o 2)))) ?_;clear H;intro w90 AP cP u90 H
      refine zR ?_;clear H;intro u91 H
      exact⟨rfl,HB2.out.trans (H.O.mono HB2.out.size)⟩
     ·have e0:(P.r == 0)=false:=by simp;omega
      have h3:(0:Int)<P.r:=h0;have e2:((bs r2.2).toList == (bs (mt P)).toList)=true:=by rw[h1];simp
      have hl25:=(dy h2).2;clear h1 h2;refine zO ((show Calls prog 16 #[_,.agg #[.int .i64 (R:Int),.int .i64 1,.slice C R kc]] u89 (bD P u89) from by rw[HPD.out];exact Is HJV.out dU HMV.out u89 (H.f 4).1 (by rw[HMD.out];exact Iu hjr (H.o 2)))) ?_;clear H;intro w90 AP cP u90 H
      refine zB ((show Calls prog 15 #[.agg #[.int .i64 P.r,.int .i64 P.c,.slice AP P.v.length cP]] u90 (fun e w'=>e= .returned (.string (bs (mt P)))/\Below u90.heap.size u90 w') from qe P.r P.c P.v AP _ cP u90 (HT2.out.below H.O Ql) (H.o 1).si (by omega) (H.o 1).dC.1 (H.o 1).dC.2)) ?_;clear H;intro w91 u91 H
      refine zR ?_;clear H;intro u92 H
      exact⟨rfl,HB2.out.trans (H.O.mono HB2.out.size)⟩
end
end Go.Proofs.YtjciicheoghcdaaGreatDoor

/- Part of the proof that the law FnExactServiceRun of the given program returns true for every input. -/
import Derived.Test.YtjciicheoghcdaaGreatDoorYP
namespace Go.Proofs.YtjciicheoghcdaaGreatDoor
open Go.RowKit
set_option linter.unusedSimpArgs false
set_option linter.unusedVariables false
set_option maxRecDepth 20000
set_option maxHeartbeats 16000000
section
attribute [local go_sem] af ah ae
noncomputable def Rx (x:List SL×Int) (ls:List (List UInt8)):Rns:=if svB x=true/\ls.length<=20 then rnF x.1 x.2 ls else (([],0),[])
structure Dj (zq:Rns):Prop where
 sv:svS zq.1
 ct:ctA ctL zq.1.1<=1000
 ln:zq.2.length<=20
theorem Dj.no:Dj (([],0),[]):=⟨⟨by simp,fun l hl=>by cases hl⟩,by decide,by decide⟩
theorem Dj.of {zq:Rns} (h:jO zq.1.1 zq.1.2) (hl:zq.2.length<=20):Dj zq:=by
 obtain ⟨h1,h2⟩:=du h.1;refine ⟨mg h.1,?_,hl⟩;refine Nat.le_trans (tQ (a:=4) (b:=3) (d:=25) h1 fun l hl=>⟨kU (h2 l hl),fun p hp=> ?_⟩) (by decide)
 have:=fs (mW (h2 l hl) p hp)
 exact ⟨by omega,by omega⟩
def RxP (x:List SL×Int) (ls:List (List UInt8)) (w:World) (e:Ending) (w':World):Prop:=∃ (zq:Rns) (A:Option Addr) (c:Nat) (F:List Nat) (B:Option Addr) (d:Nat) (G:List Nat),Rx x ls=zq/\Dj zq/\e= .returned (.tuple #[.agg #[.slice A zq.1.1.length c,.int .i64 zq.1.2],.slice B zq.2.length d])/\RI (kE smE) w' A zq.1.1.length c zq.1.1 F/\Fr w' w.heap.size F/\RI txE w' B zq.2.length d zq.2 G/\Fr w' w.heap.size G/\(∀ g,g∈F->¬ g∈G)/\Below w.heap.size w w'
theorem RxP.bad {x:List SL×Int} {ls:List (List UInt8)} {w:World} {e:Ending} {w':World} (hv:svB x=false\/20<ls.length) {B:Option Addr} (h:e= .returned (.tuple #[.agg #[.slice none 0 0,.int .i64 0],.slice B 0 0])/\Below w.heap.size w w'):RxP x ls w e w':=by
 refine ⟨(([],0),[]),none,0,[],B,0,[],?_,Dj.no,h.1,RI.nil _ _ (by unfold maxLen;omega),Fr.nil _ _,RI.nil _ _ (by unfold maxLen;omega),Fr.nil _ _,fun g hg=>(by cases hg),h.2⟩
 unfold Rx;rw [if_neg];rintro ⟨h1,h2⟩;rcases hv with h | h
 ·rw [h] at h1;cases h1
 ·omega
theorem RxP.yes {x:List SL×Int} {ls:List (List UInt8)} {w:World} {e:Ending} {w':World} (hv:svB x=true) (hl:ls.length<=20) (h:RnP x.1 x.2 ls w e w'):RxP x ls w e w':=by
 obtain ⟨zq,A,c,css,F,B,d,dss,G,hr,hok,he,h1,h2,ha,hb⟩:=h;obtain ⟨F',ri,fr,hF⟩:=h1.rf;obtain ⟨G',rj,gr,hG⟩:=h2.rf
 exact ⟨zq,A,c,F',B,d,G',by unfold Rx;rw [if_pos ⟨hv,hl⟩,hr],Dj.of hok (by rw [<- hr,CW];exact hl),he,ri,fr,rj,gr,fun g hg hg'=>ha g (hF g hg) (hG g hg'),hb⟩
theorem Du {x:List SL×Int} (hs:svS x) {ls:List (List UInt8)} {n:Nat} (hl:∀ l,l∈ls->l.length<=1048576) {A B:Option Addr} {cap cB:Nat} {F FB:List Nat} (w:World) (ht:Tab w) (hm:iD w) (hx:RI (kE smE) w A x.1.length cap x.1 F) (hls:RI txE w B n cB ls FB) :
  Calls Tryz.prog 25 #[.agg #[.slice A x.1.length cap,.int .i64 x.2],.slice B n cB] w (RxP x ls w):=by
 obtain rfl:=hls.1;rcases Nat.lt_or_ge 20 ls.length with h20 | h20
 ·exact (CO (net:=x.1) (s:=x.2) (.inr h20) hs w hx).mono fun e w' h=>RxP.bad (.inr h20) h
 ·cases hv:svB x
  ·exact (CO (net:=x.1) (s:=x.2) (.inl hv) hs w hx).mono fun e w' h=>RxP.bad (.inl hv) h
  ·exact (CX (xm hv) h20 hl w ht hm hx hls).mono fun e w' h=>RxP.yes hv h20 h
theorem Dz {x:List SL×Int} (hs:svS x) {ls:List (List UInt8)} {n:Nat} (hl:∀ l,l∈ls->l.length<=1048576) {A B:Option Addr} {cap cB:Nat} {F FB:List Nat} (w:World) (hx:RI (kE smE) w A x.1.length cap x.1 F) (hls:RI txE w B n cB ls FB) :
  Calls Tryz.prog 23 #[.agg #[.slice A x.1.length cap,.int .i64 x.2],.slice B n cB] w (RxP x ls w):=by
 obtain rfl:=hls.1;rcases Nat.lt_or_ge 20 ls.length with h20 | h20
 ·exact (CR (net:=x.1) (s:=x.2) (.inr h20) hs w hx).mono fun e w' ⟨B,h⟩=>RxP.bad (.inr h20) h
 ·cases hv:svB x
  ·exact (CR (net:=x.1) (s:=x.2) (.inl hv) hs w hx).mono fun e w' ⟨B,h⟩=>RxP.bad (.inl hv) h
  ·exact (C_ (xm hv) h20 hl w hx hls).mono fun e w' h=>RxP.yes hv h20 h
theorem Hq.rr {α β:Type} {E:Elt α} {E2:Elt β} {w0 w w':World} {L:List Ow} {A B:Option Addr} {n c m d:Nat} {xs:List α} {ys:List β} {F G:List Nat} (H:Hq w0 L w) (hb:Below w.heap.size w w') (f:RI E w' A n c xs F) (k:Fr w' w.heap.size F) (f2:RI E2 w' B m d ys G) (k2:Fr w' w.heap.size G) (ap:∀ g,g∈F->¬ g∈G):Hq w0 (qR E w0.heap.size A n c xs F::qR E2 w0.heap.size B m d ys G::L) w':=by
 have K:=H.rf hb f2 k2;refine ⟨⟨⟨f,k.mono H.m⟩,fun i hi e he hei=> ?_,K.S⟩,fun e he i hi=> ?_,K.O⟩
 ·rcases List.mem_cons.1 he with rfl | he
  ·exact ap i hi hei
  ·have:=H.S.lt e he i hei;have:=(k.2 i hi).1
   omega
 ·rcases List.mem_cons.1 he with rfl | he
  ·exact Nat.le_trans H.m (k.2 i hi).1
  ·exact K.B e he i hi
theorem svS.ct' {x:List SL×Int} (h:svS x):1+ctA ctL x.1<=4611686017379352576:=by
 have:=tQ (net:=x.1) (a:=1048576) (b:=1048576) (d:=1048576) h.1 fun l hl=>h.2 l hl
 omega
theorem CS (A:Option Addr) (c:Nat) (x:List SL×Int) (F:List Nat) (B:Option Addr) (cB:Nat) (ls:List (List UInt8)) (FB:List Nat) (w:World) (ht:Tab w) (hm:iD w) (hx:RI (kE smE) w A x.1.length c x.1 F) (hy:RI txE w B ls.length cB ls FB) (hz:∀ l,l∈ls->l.length<=maxLen) :
  Calls Tryz.prog 5 #[.agg #[.slice A x.1.length c,.int .i64 x.2],.slice B ls.length cB] w fun e w'=>e= .returned (.bool true)/\Below w.heap.size w w':=by
 have HX:=Lib.hid hx;have HY:=Lib.hid hy;have HZ:=Lib.hid hz;have HT:=Lib.hid ht;have HM:=Lib.hid hm;clear hx ht hm hy hz;refine zE ?_;intro u1 H;refine zG (rO u1 [.slice A x.1.length c,.int .i64 x.2] x F ⟨A,c,rfl,HX.out.below H.O⟩ 1048576 (by omega) (by omega)) ?_
 rintro e w2 ⟨v,rfl,hv0,hv1,hb⟩;replace H:=H.b hb;have HV1:=Lib.hid hv1;clear hv1 hb
 by_cases gv:v<0
 ·refine zR ?_;clear H;intro u3 H
  exact ⟨rfl,H.O⟩
 ·replace gv:=Int.not_lt.1 gv;have HS:=Lib.hid (HV1.out gv).2;have HVL:=Lib.hid (HV1.out gv).1;clear HV1;refine zN ?_;clear H;intro u3 H;refine zG (De B _ cB ls FB u3 (HY.out.below H.O) HZ.out v gv HVL.out) ?_;rintro e w4 ⟨v2,rfl,hv2,hb⟩;replace H:=H.b hb;have HV2:=Lib.hid hv2;clear hv2 hb
  by_cases gv2:v2<0
  ·refine zR ?_;clear H;intro u5 H
   exact ⟨rfl,H.O⟩
  ·replace gv2:=Int.not_lt.1 gv2;have HN:=Lib.hid (HV2.out gv2).1;have HSL:=Lib.hid (HV2.out gv2).2;clear HV2;refine zN ?_;clear H;intro u5 H;refine zG (fR u5 [.slice A x.1.length c,.int .i64 x.2] x F ⟨A,c,rfl,HX.out.below H.O⟩ HS.out) ?_;rintro e w6 ⟨ds,G1,rfl,⟨A1,c1,rfl,ri⟩,fr,hb⟩;replace H:=H.rf hb ri fr;clear ri fr hb;refine zN ?_;clear H;intro u7 H;refine zG (CN B _ cB ls FB u7 (HY.out.below H.O) HN.out) ?_;rintro e w8 ⟨B1,d1,K1,rfl,ri,fr,hb⟩;replace H:=H.rf hb ri fr;clear ri fr hb;refine zN ?_;clear H;intro u9 H;refine zG (Dz HS.out HSL.out u9 (H.f 1).1 (H.f 0).1) ?_;rintro e w10 ⟨r,A6,c6,F6,B6,d6,K6,hR,hk,rfl,ri,fr,rj,gr,ha,hb⟩;replace H:=H.rr hb ri fr rj gr ha;have HRX:=Lib.hid hR;have HOK:=Lib.hid hk;clear hR hk ri fr rj gr ha hb;replace H:=H.d 3;replace H:=H.d 2;refine zN ?_;clear H;intro u11 H;refine zG (fR u11 [.slice A x.1.length c,.int .i64 x.2] x F ⟨A,c,rfl,HX.out.below H.O⟩ HS.out) ?_;rintro e w12 ⟨ds,G2,rfl,⟨A2,c2,rfl,ri⟩,fr,hb⟩;replace H:=H.rf hb ri fr;clear ri fr hb;refine zN ?_;clear H;intro u13 H;refine zG (CN B _ cB ls FB u13 (HY.out.below H.O) HN.out) ?_;rintro e w14 ⟨B2,d2,K2,rfl,ri,fr,hb⟩;replace H:=H.rf hb ri fr;clear ri fr hb;refine zN ?_;clear H;intro u15 H;refine zG (Du HS.out HSL.out u15 (HT.out.below H.O (Nat.le_refl _)) (HM.out.below H.O (Nat.le_refl _)) (H.f 2).1 (H.f 0).1) ?_;rintro e w16 ⟨r',A9,c9,F9,B9,d9,K9,hR,hk,rfl,ri,fr,rj,gr,ha,hb⟩;replace H:=H.rr hb ri fr rj gr ha;obtain rfl:r=r':=HRX.out.symm.trans hR;clear hR hk ri fr rj gr ha hb;refine zN ?_;clear H;intro u17 H;refine zB (fQ u17 [.slice A9 r.1.1.length c9,.int .i64 r.1.2] [.slice A6 r.1.1.length c6,.int .i64 r.1.2] r.1 F9 F6 ⟨A9,c9,rfl,(H.f 1).1⟩ ⟨A6,c6,rfl,(H.f 7).1⟩ HOK.out.sv) ?_;clear H;intro w18 u18 H;refine zB (CM B9 B6 _ d9 _ d6 r.2 K9 K6 u18 (H.f 2).1 (H.f 8).1) ?_;clear H;intro w19 u19 H;refine zX (tg [w12.heap.size,w.heap.size]) ?_;clear H;intro S w20 hne H;refine zD ((And.intro (H.c 4) (H.c 9))) ?_;intro G;intros;refine y_ (fR w20 [.slice A x.1.length c,.int .i64 x.2] x F ⟨A,c,rfl,HX.out.below H.O⟩ HS.out) ?_;rintro K hK e w21 ⟨ds,G3,rfl,⟨A3,c3,rfl,ri⟩,fr,hb⟩;replace H:=H.rf hb ri fr;clear ri fr;refine yK ?_;clear hK K;refine yB (fQ w21 [.slice A2 x.1.length c2,.int .i64 x.2] [.slice A3 x.1.length c3,.int .i64 x.2] x G2 G3 ⟨A2,c2,rfl,(H.f 6).1⟩ ⟨A3,c3,rfl,(H.f 0).1⟩ HS.out) ?_;clear H;intro w22 H;refine yN ?_;clear H G;intro u23 H;replace H:=H.d 0;refine zG (CN B _ cB ls FB u23 (HY.out.below H.O) HN.out) ?_;rintro e w24 ⟨B4,d4,K4,rfl,ri,fr,hb⟩;replace H:=H.rf hb ri fr;clear ri fr hb;refine zN ?_;clear H;intro u25 H;refine zB (CM B2 B4 _ d2 _ d4 ls K2 K4 u25 (H.f 4).1 (H.f 0).1) ?_;clear H;intro w26 u26 H;replace H:=H.d 0;have hnn:=HN.out;have hkx:=svS.ct' HS.out;have kx:0<=1+(ctA ctL x.1:Int)+(ls.length:Int):=by omega
   refine zG (jt (s:=x.2) (1) w.heap.size u26 (H.f 5).1 (H.f 5).2 HS.out.1 HS.out.2 (by omega)) ?_
   rintro e w27 ⟨rfl,hr,hm⟩;replace H:=H.r 5;replace H:=H.ul hm.up fun i hi=>hi
   clear hr hm;refine zN ?_;clear H;intro u28 H;refine zG (CU _ _ _ _ _ (1+(ctA ctL x.1:Int)) w.heap.size u28 (H.f 3).1 (H.f 3).2 (by omega)) ?_
   rintro e w29 ⟨rfl,hr,hm⟩;replace H:=H.r 3;replace H:=H.ul hm.up fun i hi=>hi
   clear hr hm;refine zN ?_;clear H;intro u30 H;refine zB (fQ u30 [.slice A9 r.1.1.length c9,.int .i64 r.1.2] [.slice A6 r.1.1.length c6,.int .i64 r.1.2] r.1 F9 F6 ⟨A9,c9,rfl,(H.f 1).1⟩ ⟨A6,c6,rfl,(H.f 5).1⟩ HOK.out.sv) ?_;clear H;intro w31 u31 H;refine zB (CM B9 B6 _ d9 _ d6 r.2 K9 K6 u31 (H.f 2).1 (H.f 6).1) ?_;clear H;intro w32 u32 H;have hkr:=HOK.out.ct;have hkl:=HOK.out.ln;have kr:0<=1+(ctA ctL r.1.1:Int):=by omega
   have kr2:0<=1+(ctA ctL r.1.1:Int)+(r.2.length:Int):=by omega
   refine zG (jt (s:=r.1.2) (1) w.heap.size u32 (H.f 1).1 (H.f 1).2 HOK.out.sv.1 HOK.out.sv.2 (by omega)) ?_
   rintro e w33 ⟨rfl,hr,hm⟩;replace H:=H.r 1;replace H:=H.mkR hr hm;clear hr hm;refine zN ?_;clear H;intro u34 H;refine zG (CU _ _ _ _ _ (1+(ctA ctL r.1.1:Int)) w.heap.size u34 (H.f 2).1 (H.f 2).2 (by omega)) ?_
   rintro e w35 ⟨rfl,hr,hm⟩;replace H:=H.r 2;replace H:=H.mkR hr hm;clear hr hm;refine zN ?_;clear H;intro u36 H;refine zB (js (s:=r.1.2) 1 u36 (H.f 1).1 HOK.out.sv.1 HOK.out.sv.2 (by omega)) ?_;clear H;intro w37 u37 H
   refine zB (CT _ _ _ _ (1+(ctA ctL r.1.1:Int)) u37 (H.f 0).1 (by omega)) ?_;clear H;intro w38 u38 H
   refine zG (fR u38 [.slice A x.1.length c,.int .i64 x.2] x F ⟨A,c,rfl,HX.out.below H.O⟩ HS.out) ?_;rintro e w39 ⟨ds,G5,rfl,⟨A5,c5,rfl,ri⟩,fr,hb⟩;replace H:=H.rf hb ri fr;clear ri fr hb;refine zN ?_;clear H;intro u40 H;refine zG (CN B _ cB ls FB u40 (HY.out.below H.O) HN.out) ?_;rintro e w41 ⟨B5,d5,K5,rfl,ri,fr,hb⟩;replace H:=H.rf hb ri fr;clear ri fr hb;refine zN ?_;clear H;intro u42 H;refine zG (Du HS.out HSL.out u42 (HT.out.below H.O (Nat.le_refl _)) (HM.out.below H.O (Nat.le_refl _)) (H.f 1).1 (H.f 0).1) ?_;rintro e w43 ⟨r',A7,c7,F7,B7,d7,K7,hR,hk,rfl,ri,fr,rj,gr,ha,hb⟩;replace H:=H.rr hb ri fr rj gr ha;obtain rfl:r=r':=HRX.out.symm.trans hR;clear hR hk ri fr rj gr ha hb;refine zN ?_;clear H;intro u44 H;refine zB (fQ u44 [.slice A7 r.1.1.length c7,.int .i64 r.1.2] [.slice A6 r.1.1.length c6,.int .i64 r.1.2] r.1 F7 F6 ⟨A7,c7,rfl,(H.f 1).1⟩ ⟨A6,c6,rfl,(H.f 10).1⟩ HOK.out.sv) ?_;clear H;intro w45 u45 H;refine zB (CM B7 B6 _ d7 _ d6 r.2 K7 K6 u45 (H.f 2).1 (H.f 11).1) ?_;clear H;intro w46 u46 H;refine zB (js (s:=r.1.2) 1 u46 (H.f 6).1 HOK.out.sv.1 HOK.out.sv.2 (by omega)) ?_;clear H;intro w47 u47 H
   refine zB (CT _ _ _ _ (1+(ctA ctL r.1.1:Int)) u47 (H.f 5).1 (by omega)) ?_;clear H;intro w48 u48 H
   refine zR ?_;clear H;intro u49 H
   exact ⟨rfl,H.O⟩
end
end Go.Proofs.YtjciicheoghcdaaGreatDoor

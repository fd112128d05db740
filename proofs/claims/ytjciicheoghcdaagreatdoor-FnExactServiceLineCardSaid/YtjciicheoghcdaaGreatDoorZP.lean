/- Part of the proof that the law FnExactServiceLine of the given program returns true for every input. -/
import Derived.Test.YtjciicheoghcdaaGreatDoorZD
import Derived.Test.YtjciicheoghcdaaGreatDoorZE
import Derived.Test.YtjciicheoghcdaaGreatDoorZO
namespace Go.Proofs.YtjciicheoghcdaaGreatDoor
open Go.RowKit
set_option linter.unusedSimpArgs false
set_option linter.unusedVariables false
set_option maxRecDepth 20000
set_option maxHeartbeats 16000000
section
attribute [local go_sem] af ah ae
def Lx (x:List SL×Int) (l:List UInt8) (r:Res):Prop:=if svB x=true then LnR x.1 x.2 l r else r=(([],0),[])
theorem Lx.one {x:List SL×Int} {l:List UInt8} {a b:Res} (h:Lx x l a) (k:Lx x l b):a=b:=by
 unfold Lx at h k
 split at h
 ·rename_i e
  rw [if_pos e] at k
  exact h.one k
 ·rename_i e
  rw [if_neg e] at k
  rw [h,k]
theorem xm {x:List SL×Int} (h:svB x=true):jO x.1 x.2:=by
 unfold svB at h
 simpa [jO,Bool.and_eq_true] using h
theorem Lx.nk {x:List SL×Int} {l:List UInt8} {r:Res} (h:Lx x l r):bu r.1.1=true\/r.1.1=[]:=by
 unfold Lx at h
 split at h
 ·rename_i e
  exact .inl (h.ok (xm e)).1
 ·exact .inr (by rw [h])
theorem Lx.sv {x:List SL×Int} {l:List UInt8} {r:Res} (h:Lx x l r):svS r.1:=by
 rcases h.nk with h | h
 ·exact mg h
 ·exact ⟨by rw [h];simp,fun l hl=>by rw [h] at hl;cases hl⟩
theorem Lx.ct {x:List SL×Int} {l:List UInt8} {r:Res} (h:Lx x l r):ctA ctL r.1.1<=1000:=by
 rcases h.nk with h | h
 ·obtain ⟨h1,h2⟩:=du h
  refine Nat.le_trans (tQ (a:=4) (b:=3) (d:=25) h1 fun l hl=>⟨kU (h2 l hl),fun p hp=> ?_⟩) (by decide)
  have:=fs (mW (h2 l hl) p hp)
  exact ⟨by omega,by omega⟩
 ·rw [h];decide
theorem svS.ct {x:List SL×Int} (h:svS x):1+ctA ctL x.1<=4611686018427387904:=by
 have:=tQ (net:=x.1) (a:=1048576) (b:=1048576) (d:=1048576) h.1 fun l hl=>h.2 l hl
 omega
def LxP (x:List SL×Int) (l:List UInt8) (w:World) (e:Ending) (w':World):Prop:=∃ (r:Res) (A:Option Addr) (c:Nat) (F:List Nat),Lx x l r/\e= .returned (.tuple #[.agg #[.slice A r.1.1.length c,.int .i64 r.1.2],.string (bs r.2)])/\RI (kE smE) w' A r.1.1.length c r.1.1 F/\Fr w' w.heap.size F/\Below w.heap.size w w'
theorem LxP.bad {x:List SL×Int} {l:List UInt8} {w:World} {e:Ending} {w':World} (hv:svB x=false) (h:LnN w e w'):LxP x l w e w':=⟨(([],0),[]),none,0,[],by unfold Lx;rw [hv];rfl,h.1,RI.nil _ _ (by unfold maxLen;omega),Fr.nil _ _,h.2⟩
theorem LxP.yes {x:List SL×Int} {l:List UInt8} {w:World} {e:Ending} {w':World} (hv:svB x=true) (h:LnP x.1 x.2 l w e w'):LxP x l w e w':=by
 obtain ⟨r,A,c,css,F,hr,he,hox,hb⟩:=h
 obtain ⟨F',ri,fr⟩:=hox.ri
 exact ⟨r,A,c,F',by unfold Lx;rw [if_pos hv];exact hr,he,ri,fr,hb⟩
theorem BD {x:List SL×Int} (hs:svS x) {l:List UInt8} (hl:l.length<=1048576) {A:Option Addr} {cap:Nat} {F:List Nat} (w:World) (ht:Tab w) (hm:iD w) (hx:RI (kE smE) w A x.1.length cap x.1 F) :
  Calls Tryz.prog 9 #[.agg #[.slice A x.1.length cap,.int .i64 x.2],.string (bs l)] w (LxP x l w):=by
 cases hv:svB x
 ·exact (kf (net:=x.1) (s:=x.2) hv hs w hx).mono fun e w' h=>LxP.bad hv h
 ·exact (mz (xm hv) hl w ht hm hx).mono fun e w' h=>LxP.yes hv h
theorem CL {x:List SL×Int} (hs:svS x) {l:List UInt8} (hl:l.length<=1048576) {A:Option Addr} {cap:Nat} {F:List Nat} (w:World) (hx:RI (kE smE) w A x.1.length cap x.1 F) :
  Calls Tryz.prog 10 #[.agg #[.slice A x.1.length cap,.int .i64 x.2],.string (bs l)] w (LxP x l w):=by
 cases hv:svB x
 ·exact (kN (net:=x.1) (s:=x.2) hv hs w hx).mono fun e w' h=>LxP.bad hv h
 ·exact (mL (xm hv) hl w hx).mono fun e w' h=>LxP.yes hv h
theorem Hq.mkR {α:Type} {E:Elt α} {w0 w w':World} {L:List Ow} {b n c:Nat} {A:Option Addr} {xs xs':List α} {F:List Nat} (H:Hq w0 (qR E b A n c xs F::L) w) (hr:RI E w' A n c xs' F) (hm:Mk (fun i=>i∈F) w w'):Hq w0 (qR E b A n c xs' F::L) w':=by
 have K:=H.ul hm.up fun i hi=>hi
 refine ⟨⟨⟨hr,H.S.1.2.ty hm.ty⟩,H.S.2.1,K.S⟩,fun d hd i hi=> ?_,K.O⟩
 rcases List.mem_cons.1 hd with rfl | hd
 ·exact H.B _ (List.mem_cons_self ..) i hi
 ·exact K.B d hd i hi
theorem gf (A:Option Addr) (c:Nat) (x:List SL×Int) (F:List Nat) (l:List UInt8) (w:World) (ht:Tab w) (hm:iD w) (hx:RI (kE smE) w A x.1.length c x.1 F) :
  Calls Tryz.prog 4 #[.agg #[.slice A x.1.length c,.int .i64 x.2],.string (bs l)] w fun e w'=>e= .returned (.bool true)/\Below w.heap.size w w':=by
 have HX:=Lib.hid hx
 have HT:=Lib.hid ht
 have HM:=Lib.hid hm
 clear hx ht hm
 have hbz:=aK l
 rcases Nat.lt_or_ge 1048576 l.length with hl | hl
 ·have h1:(1048576:Int)<((bs l).size:Int):=by omega
  refine zE ?_;intro u1 H
  refine zR ?_;clear H;intro u2 H
  exact ⟨rfl,H.O⟩
 ·have h1:((bs l).size:Int)<=1048576:=by omega
  have HL:=Lib.hid hl
  refine zE ?_;intro u1 H
  refine zG (rO u1 [.slice A x.1.length c,.int .i64 x.2] x F ⟨A,c,rfl,HX.out.below H.O⟩ 1048576 (by omega) (by omega)) ?_
  rintro e w2 ⟨v,rfl,hv0,hv1,hb⟩
  replace H:=H.b hb
  have HV1:=Lib.hid hv1
  clear hv1 hb
  by_cases gv:v<0
  ·refine zR ?_;clear H;intro u3 H
   exact ⟨rfl,H.O⟩
  ·replace gv:=Int.not_lt.1 gv
   have HS:=Lib.hid (HV1.out gv).2
   clear HV1
   refine zN ?_;clear H;intro u3 H
   refine zG (fR u3 [.slice A x.1.length c,.int .i64 x.2] x F ⟨A,c,rfl,HX.out.below H.O⟩ HS.out) ?_
   rintro e w4 ⟨ds,G1,rfl,⟨A1,c1,rfl,ri⟩,fr,hb⟩
   replace H:=H.rf hb ri fr
   clear ri fr hb
   refine zN ?_;clear H;intro u5 H
   refine zG (CL HS.out HL.out u5 (H.f 0).1) ?_
   rintro e w6 ⟨r,A6,c6,F6,hL,rfl,ri,fr,hb⟩
   replace H:=H.rf hb ri fr
   have HLX:=Lib.hid hL
   clear hL ri fr hb
   replace H:=H.d 1
   refine zN ?_;clear H;intro u7 H
   refine zG (fR u7 [.slice A x.1.length c,.int .i64 x.2] x F ⟨A,c,rfl,HX.out.below H.O⟩ HS.out) ?_
   rintro e w8 ⟨ds,G2,rfl,⟨A2,c2,rfl,ri⟩,fr,hb⟩
   replace H:=H.rf hb ri fr
   clear ri fr hb
   refine zN ?_;clear H;intro u9 H
   refine zG (BD HS.out HL.out u9 (HT.out.below H.O (Nat.le_refl _)) (HM.out.below H.O (Nat.le_refl _)) (H.f 1).1) ?_
   rintro e w10 ⟨r',A9,c9,F9,hL,rfl,ri,fr,hb⟩
   replace H:=H.rf hb ri fr
   obtain rfl:=HLX.out.one hL
   clear hL ri fr hb
   have hsm:((bs r.2).toList == (bs r.2).toList)=true:=by simp
   refine zN ?_;clear H;intro u11 H
   refine zB (fQ u11 [.slice A9 r.1.1.length c9,.int .i64 r.1.2] [.slice A6 r.1.1.length c6,.int .i64 r.1.2] r.1 F9 F6 ⟨A9,c9,rfl,(H.f 1).1⟩ ⟨A6,c6,rfl,(H.f 5).1⟩ HLX.out.sv) ?_;clear H;intro w12 u12 H
   refine zX (tg [w8.heap.size,w.heap.size]) ?_;clear H;intro S w13 hne H
   refine zD ((And.intro (H.c 2) (H.c 6))) ?_;intro G
   intros;refine y_ (fR w13 [.slice A x.1.length c,.int .i64 x.2] x F ⟨A,c,rfl,HX.out.below H.O⟩ HS.out) ?_
   rintro K hK e w14 ⟨ds,G3,rfl,⟨A3,c3,rfl,ri⟩,fr,hb⟩
   replace H:=H.rf hb ri fr
   clear ri fr
   refine yK ?_;clear hK K
   refine yB (fQ w14 [.slice A2 x.1.length c2,.int .i64 x.2] [.slice A3 x.1.length c3,.int .i64 x.2] x G2 G3 ⟨A2,c2,rfl,(H.f 4).1⟩ ⟨A3,c3,rfl,(H.f 0).1⟩ HS.out) ?_;clear H;intro w15 H
   refine yN ?_;clear H G;intro u16 H
   have hkx:=svS.ct HS.out
   have kx:0<=1+(ctA ctL x.1:Int):=by omega
   refine zG (jt (s:=x.2) 1 w.heap.size u16 (H.f 4).1 (H.f 4).2 HS.out.1 HS.out.2 (by omega)) ?_
   rintro e w17 ⟨rfl,hr,hm⟩
   replace H:=H.r 4
   replace H:=H.ul hm.up fun i hi=>hi
   clear hr hm
   refine zN ?_;clear H;intro u18 H
   refine zB (fQ u18 [.slice A9 r.1.1.length c9,.int .i64 r.1.2] [.slice A6 r.1.1.length c6,.int .i64 r.1.2] r.1 F9 F6 ⟨A9,c9,rfl,(H.f 2).1⟩ ⟨A6,c6,rfl,(H.f 5).1⟩ HLX.out.sv) ?_;clear H;intro w19 u19 H
   have hkr:=HLX.out.ct
   have kr:0<=1+(ctA ctL r.1.1:Int):=by omega
   refine zG (jt (s:=r.1.2) 1 w.heap.size u19 (H.f 2).1 (H.f 2).2 HLX.out.sv.1 HLX.out.sv.2 (by omega)) ?_
   rintro e w20 ⟨rfl,hr,hm⟩
   replace H:=H.r 2
   replace H:=H.mkR hr hm
   clear hr hm
   refine zN ?_;clear H;intro u21 H
   refine zB (js (s:=r.1.2) 1 u21 (H.f 0).1 HLX.out.sv.1 HLX.out.sv.2 (by omega)) ?_;clear H;intro w22 u22 H
   refine zG (fR u22 [.slice A x.1.length c,.int .i64 x.2] x F ⟨A,c,rfl,HX.out.below H.O⟩ HS.out) ?_
   rintro e w23 ⟨ds,G4,rfl,⟨A4,c4,rfl,ri⟩,fr,hb⟩
   replace H:=H.rf hb ri fr
   clear ri fr hb
   refine zN ?_;clear H;intro u24 H
   refine zG (BD HS.out HL.out u24 (HT.out.below H.O (Nat.le_refl _)) (HM.out.below H.O (Nat.le_refl _)) (H.f 0).1) ?_
   rintro e w25 ⟨r',A5,c5,F5,hL,rfl,ri,fr,hb⟩
   replace H:=H.rf hb ri fr
   obtain rfl:=HLX.out.one hL
   clear hL ri fr hb
   refine zN ?_;clear H;intro u26 H
   refine zB (fQ u26 [.slice A5 r.1.1.length c5,.int .i64 r.1.2] [.slice A6 r.1.1.length c6,.int .i64 r.1.2] r.1 F5 F6 ⟨A5,c5,rfl,(H.f 1).1⟩ ⟨A6,c6,rfl,(H.f 8).1⟩ HLX.out.sv) ?_;clear H;intro w27 u27 H
   refine zB (js (s:=r.1.2) 1 u27 (H.f 3).1 HLX.out.sv.1 HLX.out.sv.2 (by omega)) ?_;clear H;intro w28 u28 H
   refine zR ?_;clear H;intro u29 H
   exact ⟨rfl,H.O⟩
theorem gr (A:Option Addr) (c:Nat) (x:List SL×Int) (F:List Nat) (l:ByteArray) (w:World) (ht:Tab w) (hm:iD w) (hx:RI (kE smE) w A x.1.length c x.1 F) (_:l.size<=maxLen) :
  Calls Tryz.prog 4 #[.agg #[.slice A x.1.length c,.int .i64 x.2],.string l] w fun e w'=>e= .returned (.bool true)/\Below w.heap.size w w':=by
 have h:=gf A c x F l.data.toList w ht hm hx
 rwa [fe] at h
end
end Go.Proofs.YtjciicheoghcdaaGreatDoor

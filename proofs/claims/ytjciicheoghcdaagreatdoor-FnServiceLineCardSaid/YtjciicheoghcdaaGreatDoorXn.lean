/- Part of the proof that the law FnServiceLine of the given program returns true for every input. -/
import Derived.Deep.DeepCutAuto
import Derived.Deep.RegionLaw
import Derived.Test.YtjciicheoghcdaaGreatDoorXc
import Derived.Test.YtjciicheoghcdaaGreatDoorXd
import Derived.Test.YtjciicheoghcdaaGreatDoorXe
import Derived.Test.YtjciicheoghcdaaGreatDoorXj
import Derived.Test.YtjciicheoghcdaaGreatDoorXk
import Derived.Test.YtjciicheoghcdaaGreatDoorXl
import Derived.Test.YtjciicheoghcdaaGreatDoorXm
namespace Go.Proofs.YtjciicheoghcdaaGreatDoor
open Go.RowKit
set_option linter.unusedSimpArgs false
set_option linter.unusedVariables false
set_option maxRecDepth 20000
set_option maxHeartbeats 16000000
@[reducible] def TBl (a b:Int) (A B:Option Addr) (c d:Nat):Value:= .agg #[.int .i64 a,.int .i64 b,.slice A 4096 c,.slice B 4096 d]
theorem qh {a b:Int} (h:sv a b=true) (A B:Option Addr) (c d:Nat) (xs ys:List Int) (w:World) (hx0:SI w A 4096 xs) (hy0:SI w B 4096 ys) (ax:xs.all rv=true) (ay:ys.all rv=true):Calls Tryz.prog 286 #[TBl a b A B c d] w fun e w'=>e= .returned (.bool true)/\Below w.heap.size w w':=by
 have hx:=Lib.hid hx0;have hy:=Lib.hid hy0;clear hx0 hy0;refine zE ?_;intro u1 H;refine zB (bQ h u1) ?_;clear H;intro w2 u2 H;refine zP (iY A 4096 c xs u2 (SI.below hx.out H.O) (by omega)) ?_;clear H;intro u3 H
 refine zP (iY B 4096 d ys u3 (SI.below hy.out H.O) (by omega)) ?_;clear H;intro u4 H
 refine zR ?_;clear H;intro u5 H
 exact ⟨rfl,H.O⟩
theorem uB {xs:List Int} (h:xs.length=4096) (ha:xs.all rv=true):gd xs=true:=by rw [p9 ha];exact decide_eq_true h
theorem qA {a b:Int} (h:sv a b=true) (A B:Option Addr) (c d:Nat) (xs ys:List Int) (w:World) (hx0:SI w A 4096 xs) (hy0:SI w B 4096 ys) (ax:xs.all rv=true) (ay:ys.all rv=true):Calls Tryz.prog 231 #[TBl a b A B c d] w fun e w'=>e= .returned (.bool true)/\Below w.heap.size w w':=by
 have ax:=uB hx0.1 ax;have ay:=uB hy0.1 ay;have hx:=Lib.hid hx0;have hy:=Lib.hid hy0;clear hx0 hy0;refine zE ?_;intro u1 H;refine zB (a8 h u1) ?_;clear H;intro w2 u2 H;refine zP (lK A 4096 c xs u2 (SI.below hx.out H.O) (by omega)) ?_;clear H;intro u3 H
 refine zP (lK B 4096 d ys u3 (SI.below hy.out H.O) (by omega)) ?_;clear H;intro u4 H
 refine zR ?_;clear H;intro u5 H
 exact ⟨rfl,H.O⟩
def opn (x1 x2 a b:Int):Int:=((x1+x2)+(a+b))%4096
theorem nV (x1 x2 a b:Int):0<=opn x1 x2 a b/\opn x1 x2 a b<=4095:=by unfold opn;omega
theorem BX {x1 x2 a b:Int} (h:sv x1 x2=true) (h2:sv a b=true):aJ (aJ x1 x2) (aJ a b)=opn x1 x2 a b:=by
 obtain ⟨h3,h4⟩:=fY h;obtain ⟨h5,h6⟩:=fY h2;rw [dX h3 h4,dX h5 h6,dX (by omega) (by omega)]
 unfold opn
 omega
theorem BY {x1 x2 a b:Int}:aJ ((x1+a)%4096) ((x2+b)%4096)=opn x1 x2 a b:=by
 rw [dX (by omega) (by omega)]
 unfold opn
 omega
def xB (p q r:Int) (w:World) (e:Ending) (w':World):Prop:=e= .returned (.tuple #[T2 p q,.int .i64 r,.bool true])/\Below w.heap.size w w'
theorem sW {x1 x2:Int} (h0:sv x1 x2=true) {a b:Int} (h:sv a b=true) (A B:Option Addr) (c d:Nat) (xs ys:List Int) (w:World) (hx0:SI w A 4096 xs) (hy0:SI w B 4096 ys) (ax:xs.all rv=true) (ay:ys.all rv=true):Calls Tryz.prog 252 #[T2 x1 x2,TBl a b A B c d] w (xB (xs.getD (opn x1 x2 a b).toNat 0) (ys.getD (opn x1 x2 a b).toNat 0) (opn x1 x2 a b) w):=by
 obtain ⟨r,hr⟩:∃ r:Nat,opn x1 x2 a b=(r:Int):=⟨(opn x1 x2 a b).toNat,by have:=nV x1 x2 a b;omega⟩
 have hop:=BX h0 h;rw [hr] at hop;have hr1:(r:Int)<4096:=by have:=nV x1 x2 a b;omega
 have hr0:(0:Int)<=(r:Int):=by omega
 rw [hr,Int.toNat_natCast];clear hr;obtain ⟨bA,oA,rfl,hbA,hcA⟩:=hx0.2 (by omega)
 obtain ⟨bB,oB,rfl,hbB,hcB⟩:=hy0.2 (by omega)
 have HCA:=Lib.hid hcA;have HCB:=Lib.hid hcB;have HAX:=Lib.hid ax;have HAY:=Lib.hid ay;clear hcA hcB ax ay;have hx:=Lib.hid hx0;have hy:=Lib.hid hy0;clear hx0 hy0;refine zE ?_;intro u1 H;refine zB (bQ h0 u1) ?_;clear H;intro w2 u2 H;refine zB (qh h _ _ c d xs ys u2 (SI.below hx.out H.O) (SI.below hy.out H.O) HAX.out HAY.out) ?_;clear H;intro w3 u3 H;refine zX (tg [w.heap.size+1,w.heap.size]) ?_;clear H;intro S w4 hne H;refine zD ((And.intro (H.c 1) (H.c 2))) ?_;intro G;refine yB (bL _ _ w4) ?_;clear H;intro w5 H;refine yB (bL _ _ w5) ?_;clear H;intro w6 H;refine yP (iX _ _ w6) ?_;refine yN ?_;clear H G;intro u7 H;refine zX (tg [w.heap.size+1,bA,bB]) ?_;clear H;intro S w8 hne H;refine zD (H.c 1) ?_;intro G;have rA:=H.row ((H.O.cell (p:=⟨bA,oA+r,none⟩) hbA).trans (HCA.out r (by omega)))
 have rB:=H.row ((H.O.cell (p:=⟨bB,oB+r,none⟩) hbB).trans (HCB.out r (by omega)))
 refine yS ?_;clear H;intro w9 H;refine yN ?_;clear H G;intro u10 H;refine zS_ ?_;clear H;intro u11 H
 exact ⟨rfl,H.O⟩
theorem tn {x1 x2:Int} (h0:sv x1 x2=true) {a b:Int} (h:sv a b=true) (A B:Option Addr) (c d:Nat) (xs ys:List Int) (w:World) (hx0:SI w A 4096 xs) (hy0:SI w B 4096 ys) (ax:xs.all rv=true) (ay:ys.all rv=true):Calls Tryz.prog 189 #[T2 x1 x2,TBl a b A B c d] w (xB (xs.getD (opn x1 x2 a b).toNat 0) (ys.getD (opn x1 x2 a b).toNat 0) (opn x1 x2 a b) w):=by
 obtain ⟨r,hr⟩:∃ r:Nat,opn x1 x2 a b=(r:Int):=⟨(opn x1 x2 a b).toNat,by have:=nV x1 x2 a b;omega⟩
 have hop:=BY (x1:=x1) (x2:=x2) (a:=a) (b:=b);rw [hr] at hop;have hr1:(r:Int)<4096:=by have:=nV x1 x2 a b;omega
 have hr0:(0:Int)<=(r:Int):=by omega
 rw [hr,Int.toNat_natCast];clear hr;obtain ⟨bA,oA,rfl,hbA,hcA⟩:=hx0.2 (by omega)
 obtain ⟨bB,oB,rfl,hbB,hcB⟩:=hy0.2 (by omega)
 have HCA:=Lib.hid hcA;have HCB:=Lib.hid hcB;have HAX:=Lib.hid ax;have HAY:=Lib.hid ay;clear hcA hcB ax ay;have hx:=Lib.hid hx0;have hy:=Lib.hid hy0;clear hx0 hy0;refine zE ?_;intro u1 H;refine zB (a8 h0 u1) ?_;clear H;intro w2 u2 H;refine zB (qA h _ _ c d xs ys u2 (SI.below hx.out H.O) (SI.below hy.out H.O) HAX.out HAY.out) ?_;clear H;intro w3 u3 H;refine zB (oV h0 h u3) ?_;clear H;intro w4 u4 H;refine zB (bV _ _ u4) ?_;clear H;intro w5 u5 H;refine zX (tg [w.heap.size+1,bA,bB]) ?_;clear H;intro S w6 hne H;refine zD (H.c 1) ?_;intro G;have rA:=H.row ((H.O.cell (p:=⟨bA,oA+r,none⟩) hbA).trans (HCA.out r (by omega)))
 have rB:=H.row ((H.O.cell (p:=⟨bB,oB+r,none⟩) hbB).trans (HCB.out r (by omega)))
 refine yS ?_;clear H;intro w7 H;refine yN ?_;clear H G;intro u8 H;refine zS_ ?_;clear H;intro u9 H
 exact ⟨rfl,H.O⟩
theorem rq (f:Nat->Int) (hf:∀ j,j<4096->0<=f j/\f j<=4095) {s:Int} (hs:1<=s/\s<=2147483646) (A:Option Addr) (c:Nat) (w:World) (hx0:SI w A 4096 (fl f 4096)):Calls Tryz.prog 251 #[.slice A 4096 c,.int .i64 s] w (Tb f s w):=by
 have hall:=lg f 4096 hf;have hx:=Lib.hid hx0;clear hx0;refine zE ?_;intro u1 H;refine zP (iY A 4096 c (fl f 4096) u1 (SI.below hx.out H.O) (by omega)) ?_;clear H;intro u2 H
 refine zP (aU hs u2) ?_;clear H;intro u3 H;refine zO (ff hs 2 (by omega) u3) ?_;clear H;intro w4 A2 c2 u4 H
 refine zO (ff (lO hs 2) 4096 (by omega) u4) ?_;clear H;intro w5 AF cF u5 H
 obtain ⟨gF,rfl,_,_⟩:=OS.pos (H.o 0) (by omega)
 obtain ⟨gP,rfl,_,_⟩:=OS.pos (H.o 1) (by omega)
 have E:=H.el;refine zXF (tgF [gP] 10 10 (.cells #[.int .i64 0,.int .i64 0,.slice none 0 0,.slice none 0 0] 215)) ?_;clear H;intro S w6 hne H;have hA:=Rw.aB (cs:=#[.int .i64 (rn s 0),.int .i64 (rn s 1)]) (H.o 1) rfl;have r0:=H.row (hA.cell 0);have r1:=H.row (hA.cell 1);intros
 repeat (first | (refine lE ?_;intro K hK;go_big_quiet_op;go_big_quiet_on) | refine lG ?_)
 refine oU fun w7 hb K hK=> ?_
 have hmk:(Instr.makeSlice 35 (.int .i64 4096) (.int .i64 4096)).run Tryz.prog w7= .ok (.slice (some ⟨w7.heap.size,0,none⟩) 4096 4096) (w7.alloc (ZB 4096)):=jc 4096 (by omega) w7
 unfold Oper.gives
 go_simp
 refine BN ((H.b hb).os ((Below.refl _ _).alloc (Nat.le_refl _) _) (OS.sN w7 4096 (by omega))) ((Below.refl _ _).alloc (Nat.le_refl _) _) hK ?_
 clear hK K hb hmk H;intro w8 H;refine yG ?_;clear H;intro w9 g9 hg9 H;refine yS ?_;clear H;intro w10 H;refine yN ?_;clear H;intro u11 H;refine zB ((show Calls Tryz.prog 284 #[_] u11 (fun e w'=>e= .returned (.int .i64 (shf s))/\Below u11.heap.size u11 w') from uu s ▸ bL (rn s 0) (rn s 1) u11)) ?_;clear H;intro w12 u12 H
 replace H:=H.d 3;replace H:=((((H.r 3).r 3).r 3).r 3);obtain ⟨gT,hgT⟩:∃ g,g=g9:=⟨_,rfl⟩;rw [<- hgT] at H ⊢;clear hgT;obtain ⟨gS,hgS⟩:∃ g,g=w7.heap.size:=⟨_,rfl⟩;rw [<- hgS] at H ⊢;clear hgS;intros
 go_loopw [53] (fun i wr=>∃ j:Nat,j<=4096/\i= .int .i64 j/\Hid (Hq w [qB gT 215 [.int .i64 (rn s 0),.int .i64 (rn s 1),.slice (some ⟨gF,0,none⟩) 4096 cF,.slice (some ⟨gS,0,none⟩) 4096 4096],qO w.heap.size (some ⟨gS,0,none⟩) 4096 4096 (fl (sec f s) j++List.replicate (4096-j) 0),qO w.heap.size (some ⟨gF,0,none⟩) 4096 cF (fl (rn (sds s 2)) 4096),qB w.heap.size 215 [.int .i64 0,.int .i64 0,.slice none 0 0,.slice none 0 0]] wr)) (fun i _=>4096-(intOf i).toNat)
 case atStart=>exact ⟨0,Nat.zero_le _,rfl,Bl (sec f s) 4096 ▸ H⟩
 case round =>
 clear H;obtain ⟨j,hj,rfl,H⟩:=hrel;have H:=H.out
 by_cases hlt:j<4096
 ·obtain ⟨ix,hix⟩:∃ ix:Nat,((j:Int)-shf s)%4096=(ix:Int):=⟨(((j:Int)-shf s)%4096).toNat,(rh j _).symm⟩;have hsb:=xh s;have ix1:(ix:Int)<4096:=by omega
  have ix0:(0:Int)<=(ix:Int):=by omega
  have q1:=IntWalk.i64_in ((j:Int)-shf s) (by omega)
  have hfx:=hf ix (by omega)
  have hrx:=dB (sds s 2) j;have q2:=IntWalk.i64_in (f ix-rn (sds s 2) j) (by omega)
  have HSEC:Hid (bC (f ix) (rn (sds s 2) j)=sec f s j):=by
   have h:=Dy hf s j;rw [hix] at h
   exact h
  have i0:(0:Int)<=(j:Int):=by omega
  have i1:(j:Int)<4096:=by omega
  have HIX:=Lib.hid hix;obtain ⟨bA,oA,rfl,zbA,_⟩:=hx.out.2 (by omega)
  have HS:Hid ((fl (sec f s) j++List.replicate (4096-j) 0).set j (sec f s j)=fl (sec f s) (j+1)++List.replicate (4096-(j+1)) 0):=jF (sec f s) 4096 j hlt;clear hix hsb hfx hrx;refine zC ?_;intro C;intros;go_upto_region 10 with fail;refine zM ?_;clear H C;intro u41 H;have ezF:=(a7 (H.o 2) hlt).1;refine zXZ (tg [gT,bA,gF]) ?_;clear H;intro S w42 hne H;refine zD (H.c 0) ?_;intro G;have rA:=uv hx.out rfl (by omega:ix<4096) H.O
  rw [fL _ _ _ (by omega)] at rA
  replace rA:=H.row rA;have rF:=(a7 (H.o 2) hlt).2.1;rw [fL _ _ _ hlt] at rF;replace rF:=H.row rF;refine yP ((show Calls Tryz.prog 180 #[.int .i64 ((j:Int)-shf s)] w42 (fun e w'=>e= .returned (.int .i64 ((ix:Int)))/\w42=w') from HIX.out ▸ dK ((j:Int)-shf s) w42)) ?_
  refine yP ((show Calls Tryz.prog 209 #[.int .i64 (f ix),.int .i64 (rn (sds s 2) j)] w42 (fun e w'=>e= .returned (.int .i64 (sec f s j))/\w42=w') from HSEC.out ▸ gD (f ix) (rn (sds s 2) j) w42)) ?_
  have D:=a7 (H.o 1) hlt;refine nY ?_;clear H D;intro u42 H;replace H:=((((H.r 3).r 3).r 3).r 3);refine zC ?_;intro C;intros;go_wp2
  go_roundw
  case rel=>exact ⟨j+1,by omega,by go_num,(by rw [HS.out] at H;exact H)⟩
  case measure=>simp [intOf];omega
 ·obtain rfl:j=4096:=by omega
  rw [Nat.sub_self,List.replicate_zero,List.append_nil] at H;refine zS_ ?_;clear H;intro u61 H
  exact ⟨_,_,_,_,rfl,(H.o 2),(H.o 1),H.O⟩
theorem sn (f:Nat->Int) (hf:∀ j,j<4096->0<=f j/\f j<=4095) {s:Int} (hs:1<=s/\s<=2147483646) (A:Option Addr) (c:Nat) (w:World) (hx0:SI w A 4096 (fl f 4096)):Calls Tryz.prog 188 #[.slice A 4096 c,.int .i64 s] w (Tb f s w):=by
 have hall:gd (fl f 4096)=true:=by rw [p9 (lg f 4096 hf),aD];rfl
 have hin:inB s 1 2147483646=true:=by simp [inB];omega
 have hx:=Lib.hid hx0;clear hx0;refine zE ?_;intro u1 H;refine zP (lK A 4096 c (fl f 4096) u1 (SI.below hx.out H.O) (by omega)) ?_;clear H;intro u2 H
 refine zP (lL s 1 2147483646 u2) ?_;clear H;intro u3 H;refine zO (kQ hs 2 (by omega) u3) ?_;clear H;intro w4 A2 c2 u4 H
 refine zO (kQ (lO hs 2) 4096 (by omega) u4) ?_;clear H;intro w5 AF cF u5 H
 obtain ⟨gF,rfl,_,_⟩:=OS.pos (H.o 0) (by omega)
 obtain ⟨gP,rfl,_,_⟩:=OS.pos (H.o 1) (by omega)
 have E:=H.el;refine zXF (tgF [gP] 9 10 (.cells #[.int .i64 0,.int .i64 0,.slice none 0 0,.slice none 0 0] 215)) ?_;clear H;intro S w6 hne H;have hA:=Rw.aB (cs:=#[.int .i64 (rn s 0),.int .i64 (rn s 1)]) (H.o 1) rfl;have r0:=H.row (hA.cell 0);have r1:=H.row (hA.cell 1);refine yG ?_;clear H;intro w7 g7 hg7 H;refine yS ?_;clear H;intro w8 H;refine yN ?_;clear H;intro u9 H;replace H:=H.nil;refine zB ((show Calls Tryz.prog 229 #[_] u9 (fun e w'=>e= .returned (.int .i64 (shf s))/\Below u9.heap.size u9 w') from uu s ▸ bV (rn s 0) (rn s 1) u9)) ?_;clear H;intro w10 u10 H
 replace H:=H.d 3;replace H:=((((H.r 3).r 3).r 2).r 3);obtain ⟨gT,hgT⟩:∃ g,g=g7:=⟨_,rfl⟩;rw [<- hgT] at H ⊢;clear hgT;intros
 go_loopw [12] (fun i wr=>∃ (j c':Nat) (A':Option Addr),j<=4096/\i= .int .i64 j/\Hid (Hq w [qB gT 215 [.int .i64 (rn s 0),.int .i64 (rn s 1),.slice (some ⟨gF,0,none⟩) 4096 cF,.slice A' j c'],qO w.heap.size A' j c' (fl (sec f s) j),qO w.heap.size (some ⟨gF,0,none⟩) 4096 cF (fl (rn (sds s 2)) 4096),qB w.heap.size 215 [.int .i64 0,.int .i64 0,.slice none 0 0,.slice none 0 0]] wr)) (fun i _=>4096-(intOf i).toNat)
 case atStart=>exact ⟨0,0,none,Nat.zero_le _,rfl,H⟩
 case round =>
 clear H;obtain ⟨j,c',A',hj,rfl,H⟩:=hrel;have H:=H.out
 by_cases hlt:j<4096
 ·obtain ⟨ix,hix⟩:∃ ix:Nat,((j:Int)-shf s)%4096=(ix:Int):=⟨(((j:Int)-shf s)%4096).toNat,(rh j _).symm⟩;have hsb:=xh s;have ix1:(ix:Int)<4096:=by omega
  have ix0:(0:Int)<=(ix:Int):=by omega
  have q1:=IntWalk.i64_in ((j:Int)-shf s) (by omega)
  have hfx:=hf ix (by omega)
  have hrx:=dB (sds s 2) j;have q2:=IntWalk.i64_in (f ix-rn (sds s 2) j) (by omega)
  have HSEC:Hid ((f ix-rn (sds s 2) j)%4096=sec f s j):=by
   have h:=B_ (f:=f) s j;rw [hix] at h
   exact h
  have i0:(0:Int)<=(j:Int):=by omega
  have i1:(j:Int)<4096:=by omega
  have HIX:=Lib.hid hix;obtain ⟨bA,oA,rfl,zbA,_⟩:=hx.out.2 (by omega)
  have HS:Hid (fl (sec f s) j++[sec f s j]=fl (sec f s) (j+1)):=(dd (sec f s) j).symm;clear hix hsb hfx hrx;refine zC ?_;intro C;intros;go_upto_region 10 with fail;refine zM ?_;clear H C;intro u41 H;have nA:blk A'≠some bA:=fun e=>by have:=(OS.aj (H.o 1) bA e).1;omega
  have ezF:=(a7 (H.o 2) hlt).1;refine zXZ (tg [gT,bA,gF]) ?_;clear H;intro S w42 hne H;refine zD (H.c 0) ?_;intro G;have rA:=uv hx.out rfl (by omega:ix<4096) H.O
  rw [fL _ _ _ (by omega)] at rA
  replace rA:=H.row rA;have rF:=(a7 (H.o 2) hlt).2.1;rw [fL _ _ _ hlt] at rF;replace rF:=H.row rF;refine yP ((show Calls Tryz.prog 132 #[.int .i64 ((j:Int)-shf s)] w42 (fun e w'=>e= .returned (.int .i64 ((ix:Int)))/\w42=w') from HIX.out ▸ bG ((j:Int)-shf s) w42)) ?_
  refine yP ((show Calls Tryz.prog 132 #[.int .i64 (f ix-rn (sds s 2) j)] w42 (fun e w'=>e= .returned (.int .i64 (sec f s j))/\w42=w') from HSEC.out ▸ bG (f ix-rn (sds s 2) j) w42)) ?_
  refine yM ?_;clear H;intro w43 H;replace H:=H.r 2;refine yA (dQ (H.k 1)) True.intro ?_;clear H;intro C1 k1 w44 H;intros;refine zCr ?_;intro C;intros
  repeat (first | (refine lc' ?_;intro K hK;go_big_quiet_op;go_big_quiet_on) | refine lk' ?_)
  refine aV rfl (by rfl) (by rfl) (fun K hK=> ?_)
  unfold Oper.gives
  go_simp
  refine hK _ _ ?_;replace H:=H.H;refine aI ?_;clear C G;replace H:=(((((H.d 1).r 3).r 3).r 2).r 3);refine zC ?_;intro C;intros;go_wp2
  go_roundw
  case rel=>exact ⟨j+1,k1,C1,by omega,by go_num,(by rw [HS.out] at H;exact (Lib.hid hq))⟩
  case measure=>simp [intOf];omega
 ·obtain rfl:j=4096:=by omega
  refine zS_ ?_;clear H;intro u61 H
  exact ⟨_,_,_,_,rfl,(H.o 2),(H.o 1),H.O⟩
theorem bw {x a b:Int} (h:a<=x/\x<=b) (w:World):Calls Tryz.prog 53 #[.int .i64 x,.int .i64 a,.int .i64 b] w fun e w'=>e= .returned (.bool true)/\w=w':=by
 have e:=lL x a b w
 rwa [show inB x a b=true from decide_eq_true h] at e
def mD (x1 x2 a1 a2:Int):Int:=((x1+x2)-(a1+a2))%4096
theorem ug (x1 x2 a1 a2:Int):0<=mD x1 x2 a1 a2/\mD x1 x2 a1 a2<=4095:=by unfold mD;omega
theorem BO {x1 x2 a1 a2:Int} (hx:sv x1 x2=true) (ha:sv a1 a2=true):bC (aJ x1 x2) (aJ a1 a2)=mD x1 x2 a1 a2:=by
 obtain ⟨h1,h2⟩:=fY hx;obtain ⟨h3,h4⟩:=fY ha;rw [dX h1 h2,dX h3 h4,qL (by omega) (by omega)]
 unfold mD
 omega
theorem BP {x1 x2 a1 a2:Int} (hx:sv x1 x2=true) (ha:sv a1 a2=true):aJ ((x1-a1)%4096) ((x2-a2)%4096)=mD x1 x2 a1 a2:=by
 rw [dX (by omega) (by omega)]
 unfold mD
 omega
def mP1 (c1 b1 a1 d e:Int):Int:=(c1+d*b1+e*a1+d*e)%4096
def mP2 (c2 b2 a2 d e:Int):Int:=(c2+d*b2+e*a2)%4096
def Bo (p1 p2 d e:Int) (w:World) (x:Ending) (w':World):Prop:=∃ (A:Option Addr) (c:Nat),x= .returned (.tuple #[T2 p1 p2,.slice A 2 c,.bool true])/\OS w' w.heap.size A 2 c [d,e]/\Below w.heap.size w w'
theorem gh {a b:Int} (h1:0<=a/\a<=4095) (h2:0<=b/\b<=4095):0<=a*b/\a*b<=16769025:=by
 refine ⟨Int.mul_nonneg h1.1 h2.1,?_⟩;have:=Int.mul_le_mul h1.2 h2.2 h2.1 (by omega)
 omega
theorem ru {x1 x2 y1 y2 a1 a2 b1 b2 c1 c2:Int} (hx:sv x1 x2=true) (hy:sv y1 y2=true) (ha:sv a1 a2=true) (hb':sv b1 b2=true) (hc':sv c1 c2=true) (hr:aJ c1 c2=mulR (aJ a1 a2) (aJ b1 b2)) (w:World) :
  Calls Tryz.prog 289 #[T2 x1 x2,T2 y1 y2,T6 a1 a2 b1 b2 c1 c2] w (Bo (mP1 c1 b1 a1 (mD x1 x2 a1 a2) (mD y1 y2 b1 b2)) (mP2 c2 b2 a2 (mD x1 x2 a1 a2) (mD y1 y2 b1 b2)) (mD x1 x2 a1 a2) (mD y1 y2 b1 b2) w):=by
 have hd:=BO hx ha;have he:=BO hy hb';have bd:=ug x1 x2 a1 a2;have be:=ug y1 y2 b1 b2
 generalize mD x1 x2 a1 a2=d at *
 generalize mD y1 y2 b1 b2=e at *
 obtain ⟨pa1,pa2⟩:=fY ha;obtain ⟨pb1,pb2⟩:=fY hb';obtain ⟨pc1,pc2⟩:=fY hc';have q1:=gh bd pb1;have q2:=gh be pa1;have q3:=gh bd be;have q4:=gh bd pb2;have q5:=gh be pa2;have t1:=IntWalk.i64_in (d*b1) (by omega)
 have t2:=IntWalk.i64_in (e*a1) (by omega)
 have t3:=IntWalk.i64_in (d*e) (by omega)
 have t4:=IntWalk.i64_in (d*b2) (by omega)
 have t5:=IntWalk.i64_in (e*a2) (by omega)
 have t6:=IntWalk.i64_in (c1+d*b1) (by omega)
 have t7:=IntWalk.i64_in (c1+d*b1+e*a1) (by omega)
 have t8:=IntWalk.i64_in (c1+d*b1+e*a1+d*e) (by omega)
 have t9:=IntWalk.i64_in (c2+d*b2) (by omega)
 have t10:=IntWalk.i64_in (c2+d*b2+e*a2) (by omega)
 refine zE ?_;intro u1 H;refine zB (bQ hx u1) ?_;clear H;intro w2 u2 H;refine zB (bQ hy u2) ?_;clear H;intro w3 u3 H;refine zB (oR ha hb' hc' hr u3) ?_;clear H;intro w4 u4 H;refine zX (tg [w.heap.size+2,w.heap.size]) ?_;clear H;intro S w5 hne H;refine zD ((And.intro (H.c 1) (H.c 3))) ?_;intro G;refine yB (bL _ _ w5) ?_;clear H;intro w6 H;refine yB (bL _ _ w6) ?_;clear H;intro w7 H;refine yP (gD _ _ w7) ?_;refine yN ?_;clear H G;intro u8 H;refine zX (tg [w.heap.size+2,w.heap.size+1]) ?_;clear H;intro S w9 hne H;refine zD ((And.intro (H.c 1) (H.c 2))) ?_;intro G;refine yB (bL _ _ w9) ?_;clear H;intro w10 H;refine yB (bL _ _ w10) ?_;clear H;intro w11 H;refine yP (gD _ _ w11) ?_;refine yN ?_;clear H G;intro u12 H;have E:=H.el;refine zXF (tgF [w.heap.size+2] 37 11 (.cells #[.int .i64 0,.int .i64 0] 213)) ?_;clear H;intro S w13 hne H;refine zD (H.c 1) ?_;intro G;refine fP (fun w14 (hb:Bw w13 w14)=>dK _ w14) ?_;clear H;intro w14 H
 refine fP (fun w15 (hb:Bw w14 w15)=>dK _ w15) ?_;clear H;intro w15 H
 refine yG ?_;clear H;intro w16 g16 hg16 H;refine yS ?_;clear H;intro w17 H;refine yN ?_;clear H G;intro u18 H;refine zS_ ?_;clear H;intro u19 H
 exact ⟨_,2,rfl,OS.wK (xs:=[d,e]) (H.k 0) (H.ge 0) (by simp [maxLen]),H.O⟩
theorem su {x1 x2 y1 y2 a1 a2 b1 b2 c1 c2:Int} (hx:sv x1 x2=true) (hy:sv y1 y2=true) (ha:sv a1 a2=true) (hb':sv b1 b2=true) (hc':sv c1 c2=true) (hr:aJ c1 c2=mulR (aJ a1 a2) (aJ b1 b2)) (w:World) :
  Calls Tryz.prog 236 #[T2 x1 x2,T2 y1 y2,T6 a1 a2 b1 b2 c1 c2] w (Bo (mP1 c1 b1 a1 (mD x1 x2 a1 a2) (mD y1 y2 b1 b2)) (mP2 c2 b2 a2 (mD x1 x2 a1 a2) (mD y1 y2 b1 b2)) (mD x1 x2 a1 a2) (mD y1 y2 b1 b2) w):=by
 have hd:=BP hx ha;have he:=BP hy hb';have bd:=ug x1 x2 a1 a2;have be:=ug y1 y2 b1 b2
 generalize mD x1 x2 a1 a2=d at *
 generalize mD y1 y2 b1 b2=e at *
 obtain ⟨pa1,pa2⟩:=fY ha;obtain ⟨pb1,pb2⟩:=fY hb';obtain ⟨pc1,pc2⟩:=fY hc';have q1:=gh bd pb1;have q2:=gh be pa1;have q3:=gh bd be;have q4:=gh bd pb2;have q5:=gh be pa2;have t1:=IntWalk.i64_in (d*b1) (by omega)
 have t2:=IntWalk.i64_in (e*a1) (by omega)
 have t3:=IntWalk.i64_in (d*e) (by omega)
 have t4:=IntWalk.i64_in (d*b2) (by omega)
 have t5:=IntWalk.i64_in (e*a2) (by omega)
 have t6:=IntWalk.i64_in (c1+d*b1) (by omega)
 have t7:=IntWalk.i64_in (c1+d*b1+e*a1) (by omega)
 have t8:=IntWalk.i64_in (c1+d*b1+e*a1+d*e) (by omega)
 have t9:=IntWalk.i64_in (c2+d*b2) (by omega)
 have t10:=IntWalk.i64_in (c2+d*b2+e*a2) (by omega)
 refine zE ?_;intro u1 H;refine zB (a8 hx u1) ?_;clear H;intro w2 u2 H;refine zB (a8 hy u2) ?_;clear H;intro w3 u3 H;refine zB (o8 ha hb' hc' hr u3) ?_;clear H;intro w4 u4 H;refine zB (jy hx ha u4) ?_;clear H;intro w5 u5 H;refine zB (bV _ _ u5) ?_;clear H;intro w6 u6 H;refine zB (jy hy hb' u6) ?_;clear H;intro w7 u7 H;refine zB (bV _ _ u7) ?_;clear H;intro w8 u8 H;have E:=H.el;refine zXF (tgF [w.heap.size+2] 37 11 (.cells #[.int .i64 0,.int .i64 0] 213)) ?_;clear H;intro S w9 hne H;refine zD (H.c 1) ?_;intro G;refine fP (fun w10 (hb:Bw w9 w10)=>bG _ w10) ?_;clear H;intro w10 H
 refine fP (fun w11 (hb:Bw w10 w11)=>bG _ w11) ?_;clear H;intro w11 H
 refine yG ?_;clear H;intro w12 g12 hg12 H;refine yS ?_;clear H;intro w13 H;refine yN ?_;clear H G;intro u14 H;refine zS_ ?_;clear H;intro u15 H
 exact ⟨_,2,rfl,OS.wK (xs:=[d,e]) (H.k 0) (H.ge 0) (by simp [maxLen]),H.O⟩
def lk1 (s j:Int):Int:=rn (sds s 2) ((j+shf s)%4096).toNat
def lk2 (f:Nat->Int) (s j:Int):Int:=(f j.toNat-lk1 s j)%4096
theorem Av (s j:Int):0<=lk1 s j/\lk1 s j<=4095:=dB _ _
theorem Az (f:Nat->Int) (s j:Int):0<=lk2 f s j/\lk2 f s j<=4095:=by unfold lk2;omega
theorem look_eq (f:Nat->Int) (s:Int) {x1 x2 j:Int} (hj:(x1+x2)%4096=j):opn x1 x2 (rn s 0) (rn s 1)=(j+shf s)%4096/\(fl (rn (sds s 2)) 4096).getD (opn x1 x2 (rn s 0) (rn s 1)).toNat 0=lk1 s j/\(fl (sec f s) 4096).getD (opn x1 x2 (rn s 0) (rn s 1)).toNat 0=lk2 f s j:=by
 have e:opn x1 x2 (rn s 0) (rn s 1)=(j+shf s)%4096:=by subst hj;unfold opn shf;omega
 have hb:=nV x1 x2 (rn s 0) (rn s 1);refine ⟨e,?_,?_⟩
 ·rw [fL _ _ _ (by omega),e]
  rfl
 ·rw [fL _ _ _ (by omega),e]
  unfold sec lk2 lk1;have h1:((((j+shf s)%4096).toNat:Int)-shf s)%4096=j:=by
   have h0:0<=j/\j<=4095:=by omega
   omega
  rw [h1]
theorem Aj {f:Nat->Int} (hf:∀ j,j<4096->0<=f j/\f j<=4095) {s j x1 x2:Int} (h0:sv x1 x2=true) (hj:(x1+x2)%4096=j) (A B:Option Addr) (c d:Nat) (w:World) (hx:SI w A 4096 (fl (rn (sds s 2)) 4096)) (hy:SI w B 4096 (fl (sec f s) 4096)) :
  Calls Tryz.prog 252 #[T2 x1 x2,TBl (rn s 0) (rn s 1) A B c d] w (xB (lk1 s j) (lk2 f s j) ((j+shf s)%4096) w):=by
 have h:=sW h0 (fX (dB s 0) (dB s 1)) A B c d _ _ w hx hy (lg _ _ fun k _=>dB _ k) (lg _ _ fun k _=>w_ f s k)
 obtain ⟨e1,e2,e3⟩:=look_eq f s hj;rw [e1] at e2 e3;rw [e1,e2,e3] at h
 exact h
theorem AZ {f:Nat->Int} (hf:∀ j,j<4096->0<=f j/\f j<=4095) {s j x1 x2:Int} (h0:sv x1 x2=true) (hj:(x1+x2)%4096=j) (A B:Option Addr) (c d:Nat) (w:World) (hx:SI w A 4096 (fl (rn (sds s 2)) 4096)) (hy:SI w B 4096 (fl (sec f s) 4096)) :
  Calls Tryz.prog 189 #[T2 x1 x2,TBl (rn s 0) (rn s 1) A B c d] w (xB (lk1 s j) (lk2 f s j) ((j+shf s)%4096) w):=by
 have h:=tn h0 (fX (dB s 0) (dB s 1)) A B c d _ _ w hx hy (lg _ _ fun k _=>dB _ k) (lg _ _ fun k _=>w_ f s k)
 obtain ⟨e1,e2,e3⟩:=look_eq f s hj;rw [e1] at e2 e3;rw [e1,e2,e3] at h
 exact h
def sTb (s:Int):Int:=sds (sds s 2) 4096
def mpS (s:Int):Nat->Int
 | 0=>s
 | k+1=>sTb (mpS s k)
def shJ (p:Mx×Mx) (k:Nat):Int:=(p.1.v.getD k 0+p.2.v.getD k 0)%4096
def mp1 (p:Mx×Mx) (s:Int) (k:Nat):Int:=lk1 (mpS s k) (shJ p k)
def mp2 (f:Nat->Int) (p:Mx×Mx) (s:Int) (k:Nat):Int:=lk2 f (mpS s k) (shJ p k)
def dv (f:Nat->Int) (p:Mx×Mx) (s:Int):(Mx×Mx)×Int:=((⟨p.1.r,p.1.c,fl (mp1 p s) p.1.v.length⟩,⟨p.1.r,p.1.c,fl (mp2 f p s) p.1.v.length⟩),mpS s p.1.v.length)
structure MTr where
 a:Mx×Mx
 b:Mx×Mx
 c:Mx×Mx
def oz (r i s:Int):Int:=sds s (nm r i)
def xq (r i s:Int):Mx×Mx:=(cT r i s,cT r i (oz r i s))
def xr (r i c s:Int):Mx×Mx:=(cT i c (oz r i (oz r i s)),cT i c (oz i c (oz r i (oz r i s))))
def E7 (r i c s:Int):Int:=oz i c (oz i c (oz r i (oz r i s)))
def ig (r i c s:Int):MTr:=⟨xq r i s,xr r i c s,(cT r c (E7 r i c s),aE bC (mulM (aq (xq r i s)) (aq (xr r i c s))) (cT r c (E7 r i c s)))⟩
def oC (r i c s:Int):Int:=oz r c (E7 r i c s)
def pD (x:Mx×Mx) (t:MTr):Mx:=aE bC (aq x) (aq t.a)
def pE (y:Mx×Mx) (t:MTr):Mx:=aE bC (aq y) (aq t.b)
def sb (c d b a e:Mx):Mx:=aE aJ (aE aJ c (mulM d b)) (mulM a e)
def dw (x y:Mx×Mx) (t:MTr):Mx:=aE aJ (sb t.c.1 (pD x t) t.b.1 t.a.1 (pE y t)) (mulM (pD x t) (pE y t))
def dF (x y:Mx×Mx) (t:MTr):Mx:=sb t.c.2 (pD x t) t.b.2 t.a.2 (pE y t)
def dG (x y:Mx×Mx) (s:Int):(Mx×Mx)×Int:=((dw x y (ig x.1.r x.1.c y.1.c s),dF x y (ig x.1.r x.1.c y.1.c s)),oC x.1.r x.1.c y.1.c s)
section
def RM (w:World) (v:Value) (m:Mx):Prop:=∃ (A:Option Addr) (c:Nat),v=MV m.r m.c A m.v.length c/\SI w A m.v.length m.v/\m.v.length<=c/\c<=maxLen
def RS (w:World) (v:Value) (p:Mx×Mx):Prop:=∃ (A B:Option Addr) (c d:Nat),v=SMV p.1.r p.1.c A p.1.v.length c p.2.r p.2.c B p.2.v.length d/\SI w A p.1.v.length p.1.v/\p.1.v.length<=c/\c<=maxLen/\SI w B p.2.v.length p.2.v/\p.2.v.length<=d/\d<=maxLen
section
variable {w w':World} {v:Value} {m:Mx} {p:Mx×Mx}
theorem RM.below (h:RM w v m) (hb:Below w.heap.size w w'):RM w' v m:=by
 obtain ⟨A,c,e,h1,h2⟩:=h
 exact ⟨A,c,e,SI.below h1 hb,h2⟩
theorem RM.aB {base c:Nat} {A:Option Addr} (h:OS w base A m.v.length c m.v):RM w (MV m.r m.c A m.v.length c) m:=⟨A,c,rfl,h.si,h.dC⟩
theorem RM.mk {A:Option Addr} {c:Nat} (h:SI w A m.v.length m.v) (h1:m.v.length<=c) (h2:c<=maxLen):RM w (MV m.r m.c A m.v.length c) m:=⟨A,c,rfl,h,h1,h2⟩
theorem RS.below (h:RS w v p) (hb:Below w.heap.size w w'):RS w' v p:=by
 obtain ⟨A,B,c,d,e,h1,h2,h3,h4,h5⟩:=h
 exact ⟨A,B,c,d,e,SI.below h1 hb,h2,h3,SI.below h4 hb,h5⟩
theorem RS.aB {base c d:Nat} {A B:Option Addr} (h:OS w base A p.1.v.length c p.1.v) (k:OS w base B p.2.v.length d p.2.v):RS w (SMV p.1.r p.1.c A p.1.v.length c p.2.r p.2.c B p.2.v.length d) p:=⟨A,B,c,d,rfl,h.si,h.dC.1,h.dC.2,k.si,k.dC⟩
theorem RS.mk {c d:Nat} {A B:Option Addr} (h:SI w A p.1.v.length p.1.v) (h1:p.1.v.length<=c) (h2:c<=maxLen) (k:SI w B p.2.v.length p.2.v) (k1:p.2.v.length<=d) (k2:d<=maxLen):RS w (SMV p.1.r p.1.c A p.1.v.length c p.2.r p.2.c B p.2.v.length d) p:=⟨A,B,c,d,rfl,h,h1,h2,k,k1,k2⟩
end
def okS (p:Mx×Mx):Bool:=az p.1 p.2
theorem ai {p:Mx×Mx} (h:okS p=true):mvB p.1=true/\mvB p.2=true/\p.1.r=p.2.r/\p.1.c=p.2.c:=i_ h
theorem fs {p:Mx×Mx} (h:okS p=true):p.1.v.length<=25/\p.2.v.length<=25:=⟨(bt h).2.2,(ee h).2⟩
theorem zL {f:Nat->Int} {n:Nat} (h:∀ k,k<n->rv (f k)=true):(fl f n).all rv=true:=by
 rw [List.all_eq_true];intro x hx;obtain ⟨k,hk,rfl⟩:=List.mem_map.1 hx
 exact h k (List.mem_range.1 hk)
theorem sl (x:Int):rv (x%4096)=true:=aR (by omega)
theorem mf {r c:Int} {f:Nat->Int} {n:Nat} (h1:side r=true) (h2:side c=true) (hn:(n:Int)=r*c) (h:∀ k,k<n->rv (f k)=true):mvB ⟨r,c,fl f n⟩=true:=by
 unfold mvB;simp only [h1,h2,aD,hn,decide_true,Bool.true_and]
 exact zL h
theorem aA {m:Mx} (h:mvB m=true):side m.r=true/\side m.c=true:=by
 obtain ⟨_,h2,h3,_⟩:=cZ h
 exact ⟨h2,h3⟩
theorem tK {a b:Int} (h1:rv a=true) (h2:rv b=true):rv (aJ a b)=true:=by unfold aJ;rw [if_pos ⟨h1,h2⟩];exact sl _
theorem yv {a b:Int} (h1:rv a=true) (h2:rv b=true):rv (bC a b)=true:=by unfold bC;rw [if_pos ⟨h1,h2⟩];exact sl _
theorem kH {m:Mx} (h:mvB m=true) (k:Nat):rv (m.v.getD k 0)=true:=aR (dE h k)
theorem nW {f:Int->Int->Int} (hf:∀ a b,rv a=true->rv b=true->rv (f a b)=true) {a b:Mx} (h:az a b=true):mvB (aE f a b)=true/\(aE f a b).r=a.r/\(aE f a b).c=a.c:=by
 obtain ⟨h1,h2,_,_⟩:=i_ h;obtain ⟨l1,s1,s2,_⟩:=cZ h1;rw [fi h]
 exact ⟨mf s1 s2 l1 (fun k _=>hf _ _ (kH h1 k) (kH h2 k)),rfl,rfl⟩
theorem aY {a b:Mx} (h1:mvB a=true) (h2:mvB b=true) (h3:a.r=b.r) (h4:a.c=b.c):az a b=true:=by unfold az;rw [h1,h2];unfold bS;rw [h3,h4];simp
theorem aN {p:Mx×Mx} (h:okS p=true):mvB (aq p)=true/\(aq p).r=p.1.r/\(aq p).c=p.1.c:=nW (fun _ _=>tK) h
theorem jd {a b:Mx} (h1:mvB a=true) (h2:mvB b=true) (h3:a.c=b.r):iz a b=true:=by unfold iz;rw [h1,h2,h3];simp
theorem et {n:Int} (h:side n=true):((n.toNat:Nat):Int)=n:=by have:=bI h;omega
theorem eV {a b:Mx} (h:iz a b=true):mvB (mulM a b)=true/\(mulM a b).r=a.r/\(mulM a b).c=b.c:=by
 rw [ta h];unfold iz at h;simp only [Bool.and_eq_true] at h;obtain ⟨h1,h2,_⟩:=h;obtain ⟨s1,_⟩:=aA h1;obtain ⟨_,s2⟩:=aA h2;refine ⟨mf s1 s2 ?_ (fun k _=>sl _),rfl,rfl⟩
 push_cast
 rw [et s1,et s2]
theorem bU {r c s:Int} (hr:side r=true) (hc:side c=true):mvB (cT r c s)=true:=by
 have:=e6 hr hc
 exact mf hr hc (by unfold nm;omega) (fun k _=>aR (dB s k))
theorem kW {a b:Mx} (h:az a b=true):mvB (aE bC a b)=true/\(aE bC a b).r=a.r/\(aE bC a b).c=a.c:=nW (fun _ _=>yv) h
theorem fc {a b:Mx} (h:az a b=true):mvB (aE aJ a b)=true/\(aE aJ a b).r=a.r/\(aE aJ a b).c=a.c:=nW (fun _ _=>tK) h
theorem dj {n:Int} (h:side n=true) (w:World):Calls Tryz.prog 106 #[.int .i64 n] w fun e w'=>e= .returned (.bool true)/\w=w':=by
 have:=dt n w
 rwa [h] at this
theorem Cz {m:Mx} (h:mvB m=true) {v:Value} (w:World) (hx:RM w v m):Calls Tryz.prog 57 #[v] w fun e w'=>e= .returned (.bool true)/\Below w.heap.size w w':=by
 obtain ⟨A,c,rfl,h1,_⟩:=hx
 exact bP h w h1
theorem rp {a b:Mx} (h:az a b=true) {x y:Value} (w:World) (hx:RM w x a) (hy:RM w y b):Calls Tryz.prog 104 #[x,y] w (bD (aE aJ a b) w):=by
 obtain ⟨A,c,rfl,h1,_⟩:=hx;obtain ⟨B,d,rfl,h2,_⟩:=hy
 exact eT _ _ _ _ _ _ _ _ _ _ _ _ w h1 h2 (by have:=(bt h).2.2;omega) (by have:=(ee h).2;omega)
theorem tY {a b:Mx} (h:az a b=true) {x y:Value} (w:World) (hx:RM w x a) (hy:RM w y b):Calls Tryz.prog 168 #[x,y] w (bD (aE bC a b) w):=by
 obtain ⟨A,c,rfl,h1,_⟩:=hx;obtain ⟨B,d,rfl,h2,_⟩:=hy
 exact oQ _ _ _ _ _ _ _ _ _ _ _ _ w h1 h2 (by have:=(bt h).2.2;omega) (by have:=(ee h).2;omega)
theorem pg {a b:Mx} (h:iz a b=true) {x y:Value} (w:World) (hx:RM w x a) (hy:RM w y b):Calls Tryz.prog 296 #[x,y] w (bD (mulM a b) w):=by
 obtain ⟨A,c,rfl,h1,h3,h4⟩:=hx;obtain ⟨B,d,rfl,h2,_⟩:=hy
 exact mx h A B c d w h1 h2 h3 h4
theorem iJ {p:Mx×Mx} (h:okS p=true) {x:Value} (w:World) (hx:RS w x p):Calls Tryz.prog 55 #[x] w (bD (aq p) w):=by
 obtain ⟨A,B,c,d,rfl,h1,_,_,h2,_⟩:=hx
 exact j_ _ _ _ _ _ _ _ _ _ _ _ _ w h1 h2 (by have:=(fs h).1;omega) (by have:=(fs h).2;omega)
theorem sZ {a b:Mx} (h1:a.r=b.r) (h2:a.c=b.c) {x y:Value} (w:World) (hx:RM w x a) (hy:RM w y b):Calls Tryz.prog 195 #[x,y] w fun e w'=>e= .returned (.bool true)/\Below w.heap.size w w':=by
 obtain ⟨A,c,rfl,_⟩:=hx;obtain ⟨B,d,rfl,_⟩:=hy
 exact gg (by unfold bS;rw [h1,h2];simp) w
end
end Go.Proofs.YtjciicheoghcdaaGreatDoor

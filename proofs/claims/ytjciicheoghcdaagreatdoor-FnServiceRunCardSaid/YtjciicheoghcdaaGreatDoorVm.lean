/- Part of the proof: the law FnServiceRun is true for every input. -/
import Derived.Deep.DeepCutAuto
import Derived.Deep.RegionLaw
import Derived.Test.YtjciicheoghcdaaGreatDoorVa
import Derived.Test.YtjciicheoghcdaaGreatDoorVf
import Derived.Test.YtjciicheoghcdaaGreatDoorVg
import Derived.Test.YtjciicheoghcdaaGreatDoorVh
import Derived.Test.YtjciicheoghcdaaGreatDoorVj
import Derived.Test.YtjciicheoghcdaaGreatDoorVk
import Derived.Test.YtjciicheoghcdaaGreatDoorVl
namespace Go.Proofs.YtjciicheoghcdaaGreatDoor
open Go.RowKit Go.Proofs.Tryz
set_option linter.all false
set_option maxRecDepth 20000
set_option maxHeartbeats 16000000
def gd (xs:List Int):Bool:=decide (xs.length=4096) && xs.all rv
theorem Ai {xs:List Int} (h:xs.all rv=false):gd xs=false:=by
 unfold gd;rw[h,Bool.and_false]
theorem p9 {xs:List Int} (h:xs.all rv=true):gd xs=decide (xs.length=4096):=by
 unfold gd;rw[h,Bool.and_true]
theorem lK (A:Option Addr) (n c:Nat) (xs:List Int) (w:World) (hx:SI w A n xs) (bn:n<=281474976710656) :
  Calls prog 228 #[.slice A n c] w fun e w'=>e= .returned (.bool (gd xs))/\w=w':=by
 by_cases h0:n=0
 ·subst h0;have e0:xs=[]:=List.eq_nil_of_length_eq_zero hx.1;subst e0;clear hx
  go_enter func228,ntmps228
  go_wp2;refine wp_loop_rounds 1 ?_;rw[rounds_succ];go_wp2
  go_ret
  exact⟨rfl,rfl⟩
 obtain⟨b,off,rfl,hb,hc⟩:=hx.2 (by omega)
 have lx:=Qh hx.1;have HC:=Qh hc;clear hx hc
 go_enter func228,ntmps228
 go_wp2
 go_loop [3] (fun i=>∃ k:Nat,k<=n/\i= .int .i64 k/\Hid ((xs.take k).all rv=true)) (fun i=>n-(intOf i).toNat)
 case atStart=>exact⟨0,Nat.zero_le _,rfl,by simp[Hid]⟩
 case round =>
  obtain⟨k,hk,rfl,heq⟩:=hrel
  by_cases hlt:k<n
  ·obtain⟨x,ex⟩:∃ x,x=xs.getD k 0:=⟨_,rfl⟩;have cx:w.cell? ⟨b,off+k,none⟩=some (.int .i64 x):=by rw[ex];exact HC.out k hlt
   have EX:=Qh ex;have i0:(0:Int)<=(k:Int):=by omega
   have i1:(k:Int)<(n:Int):=by omega
   clear ex
   by_cases hxv:0<=x/\x<=4095
   ·go_wp2_with fail
    refine Qc (ak x hxv _) ?_;go_wp2
    go_round
    case rel=>exact⟨k+1,by omega,by go_num,k_ (by rw[lx.out];exact hlt) heq.out (by rw[<-EX.out];exact aR hxv)⟩
    case measure=>simp[intOf];omega
   ·have hfin:gd xs=false:=Ai (pO (j7 (k:=k) (by rw[lx.out];exact hlt)) (by rw[<-EX.out];exact bF hxv))
    have HF:=Qh hfin;clear hfin
    go_wp2_with fail
    refine Qc (bM x hxv _) ?_;go_wp2
    go_ret
    exact⟨dn (a:=false) HF.out.symm,rfl⟩
  ·have hall:xs.all rv=true:=by
    have:k=n:=by omega
    subst this;have h:=heq.out
    rwa [List.take_of_length_le (by rw[lx.out];exact Nat.le_refl _)] at h
   by_cases h4:n=4096
   ·have hfin:gd xs=true:=by rw[p9 hall,lx.out];exact decide_eq_true h4
    have HF:=Qh hfin;have hI:((n:Int) == 4096)=true:=by simp;omega
    clear hfin heq hall;go_wp2
    go_ret
    rw[HF.out]
    exact⟨rfl,rfl⟩
   ·have hfin:gd xs=false:=by rw[p9 hall,lx.out];exact decide_eq_false h4
    have HF:=Qh hfin;have hI:((n:Int) == 4096)=false:=by simp;omega
    clear hfin heq hall;go_wp2
    go_ret
    rw[HF.out]
    exact⟨rfl,rfl⟩
@[reducible] def TBl (a b:Int) (A B:Option Addr) (c d:Nat):Value:= .agg #[.int .i64 a,.int .i64 b,.slice A 4096 c,.slice B 4096 d]
theorem qh {a b:Int} (h:sv a b=true) (A B:Option Addr) (c d:Nat) (xs ys:List Int) (w:World) (hx0:SI w A 4096 xs) (hy0:SI w B 4096 ys) (ax:xs.all rv=true) (ay:ys.all rv=true):Calls prog 286 #[TBl a b A B c d] w fun e w'=>e= .returned (.bool true)/\Below w.heap.size w w':=by
 have hx:=Qh hx0;have hy:=Qh hy0;clear hx0 hy0;refine zE ?_;intro u1 H;refine zB (bQ h u1) ?_;clear H;intro w2 u2 H;refine zP (iY A 4096 c xs u2 (SI.below hx.out H.O) (by omega)) ?_;clear H;intro u3 H
 refine zP (iY B 4096 d ys u3 (SI.below hy.out H.O) (by omega)) ?_;clear H;intro u4 H
 refine zR ?_;clear H;intro u5 H
 exact⟨rfl,H.O⟩
theorem uB {xs:List Int} (h:xs.length=4096) (ha:xs.all rv=true):gd xs=true:=by rw[p9 ha];exact decide_eq_true h
theorem qA {a b:Int} (h:sv a b=true) (A B:Option Addr) (c d:Nat) (xs ys:List Int) (w:World) (hx0:SI w A 4096 xs) (hy0:SI w B 4096 ys) (ax:xs.all rv=true) (ay:ys.all rv=true):Calls prog 231 #[TBl a b A B c d] w fun e w'=>e= .returned (.bool true)/\Below w.heap.size w w':=by
 have ax:=uB hx0.1 ax;have ay:=uB hy0.1 ay;have hx:=Qh hx0;have hy:=Qh hy0;clear hx0 hy0;refine zE ?_;intro u1 H;refine zB (a8 h u1) ?_;clear H;intro w2 u2 H;refine zP (lK A 4096 c xs u2 (SI.below hx.out H.O) (by omega)) ?_;clear H;intro u3 H
 refine zP (lK B 4096 d ys u3 (SI.below hy.out H.O) (by omega)) ?_;clear H;intro u4 H
 refine zR ?_;clear H;intro u5 H
 exact⟨rfl,H.O⟩
def opn (x1 x2 a b:Int):Int:=((x1+x2)+(a+b))%4096
theorem nV (x1 x2 a b:Int):0<=opn x1 x2 a b/\opn x1 x2 a b<=4095:=by unfold opn;omega
theorem BX {x1 x2 a b:Int} (h:sv x1 x2=true) (h2:sv a b=true):aJ (aJ x1 x2) (aJ a b)=opn x1 x2 a b:=by
 obtain⟨h3,h4⟩:=fY h;obtain⟨h5,h6⟩:=fY h2;rw[dX h3 h4,dX h5 h6,dX (by omega) (by omega)]
 unfold opn
 omega
theorem BY {x1 x2 a b:Int}:aJ ((x1+a)%4096) ((x2+b)%4096)=opn x1 x2 a b:=by
 rw[dX (by omega) (by omega)]
 unfold opn
 omega
def xB (p q r:Int) (w:World) (e:Ending) (w':World):Prop:=e= .returned (.tuple #[T2 p q,.int .i64 r,.bool true])/\Below w.heap.size w w'
theorem sW {x1 x2:Int} (h0:sv x1 x2=true) {a b:Int} (h:sv a b=true) (A B:Option Addr) (c d:Nat) (xs ys:List Int) (w:World) (hx0:SI w A 4096 xs) (hy0:SI w B 4096 ys) (ax:xs.all rv=true) (ay:ys.all rv=true):Calls prog 252 #[T2 x1 x2,TBl a b A B c d] w (xB (xs.getD (opn x1 x2 a b).toNat 0) (ys.getD (opn x1 x2 a b).toNat 0) (opn x1 x2 a b) w):=by
 obtain⟨r,hr⟩:∃ r:Nat,opn x1 x2 a b=(r:Int):=⟨(opn x1 x2 a b).toNat,by have:=nV x1 x2 a b;omega⟩
 have hop:=BX h0 h;rw[hr] at hop;have hr1:(r:Int)<4096:=by have:=nV x1 x2 a b;omega
 have hr0:(0:Int)<=(r:Int):=by omega
 rw[hr,Int.toNat_natCast];clear hr;obtain⟨bA,oA,rfl,hbA,hcA⟩:=hx0.2 (by omega)
 obtain⟨bB,oB,rfl,hbB,hcB⟩:=hy0.2 (by omega)
 have HCA:=Qh hcA;have HCB:=Qh hcB;have HAX:=Qh ax;have HAY:=Qh ay;clear hcA hcB ax ay;have hx:=Qh hx0;have hy:=Qh hy0;clear hx0 hy0;refine zE ?_;intro u1 H;refine zB (bQ h0 u1) ?_;clear H;intro w2 u2 H;refine zB (qh h _ _ c d xs ys u2 (SI.below hx.out H.O) (SI.below hy.out H.O) HAX.out HAY.out) ?_;clear H;intro w3 u3 H;refine zX (tg [w.heap.size+1,w.heap.size]) ?_;clear H;intro S w4 hne H;refine zD ((And.intro (H.c 1) (H.c 2))) ?_;intro G;refine yB (bL _ _ w4) ?_;clear H;intro w5 H;refine yB (bL _ _ w5) ?_;clear H;intro w6 H;refine yP (iX _ _ w6) ?_;refine yN ?_;clear H G;intro u7 H;refine zX (tg [w.heap.size+1,bA,bB]) ?_;clear H;intro S w8 hne H;refine zD (H.c 1) ?_;intro G;have rA:=H.row ((H.O.cell (p:=⟨bA,oA+r,none⟩) hbA).trans (HCA.out r (by omega)))
 have rB:=H.row ((H.O.cell (p:=⟨bB,oB+r,none⟩) hbB).trans (HCB.out r (by omega)))
 refine yS ?_;clear H;intro w9 H;refine yN ?_;clear H G;intro u10 H;refine zS_ ?_;clear H;intro u11 H
 exact⟨rfl,H.O⟩
theorem tn {x1 x2:Int} (h0:sv x1 x2=true) {a b:Int} (h:sv a b=true) (A B:Option Addr) (c d:Nat) (xs ys:List Int) (w:World) (hx0:SI w A 4096 xs) (hy0:SI w B 4096 ys) (ax:xs.all rv=true) (ay:ys.all rv=true):Calls prog 189 #[T2 x1 x2,TBl a b A B c d] w (xB (xs.getD (opn x1 x2 a b).toNat 0) (ys.getD (opn x1 x2 a b).toNat 0) (opn x1 x2 a b) w):=by
 obtain⟨r,hr⟩:∃ r:Nat,opn x1 x2 a b=(r:Int):=⟨(opn x1 x2 a b).toNat,by have:=nV x1 x2 a b;omega⟩
 have hop:=BY (x1:=x1) (x2:=x2) (a:=a) (b:=b);rw[hr] at hop;have hr1:(r:Int)<4096:=by have:=nV x1 x2 a b;omega
 have hr0:(0:Int)<=(r:Int):=by omega
 rw[hr,Int.toNat_natCast];clear hr;obtain⟨bA,oA,rfl,hbA,hcA⟩:=hx0.2 (by omega)
 obtain⟨bB,oB,rfl,hbB,hcB⟩:=hy0.2 (by omega)
 have HCA:=Qh hcA;have HCB:=Qh hcB;have HAX:=Qh ax;have HAY:=Qh ay;clear hcA hcB ax ay;have hx:=Qh hx0;have hy:=Qh hy0;clear hx0 hy0;refine zE ?_;intro u1 H;refine zB (a8 h0 u1) ?_;clear H;intro w2 u2 H;refine zB (qA h _ _ c d xs ys u2 (SI.below hx.out H.O) (SI.below hy.out H.O) HAX.out HAY.out) ?_;clear H;intro w3 u3 H;refine zB (oV h0 h u3) ?_;clear H;intro w4 u4 H;refine zB (bV _ _ u4) ?_;clear H;intro w5 u5 H;refine zX (tg [w.heap.size+1,bA,bB]) ?_;clear H;intro S w6 hne H;refine zD (H.c 1) ?_;intro G;have rA:=H.row ((H.O.cell (p:=⟨bA,oA+r,none⟩) hbA).trans (HCA.out r (by omega)))
 have rB:=H.row ((H.O.cell (p:=⟨bB,oB+r,none⟩) hbB).trans (HCB.out r (by omega)))
 refine yS ?_;clear H;intro w7 H;refine yN ?_;clear H G;intro u8 H;refine zS_ ?_;clear H;intro u9 H
 exact⟨rfl,H.O⟩
theorem rq (f:Nat->Int) (hf:∀ j,j<4096->0<=f j/\f j<=4095) {s:Int} (hs:1<=s/\s<=2147483646) (A:Option Addr) (c:Nat) (w:World) (hx0:SI w A 4096 (fl f 4096)):Calls prog 251 #[.slice A 4096 c,.int .i64 s] w (Tb f s w):=by
 have hall:=lg f 4096 hf;have hx:=Qh hx0;clear hx0;refine zE ?_;intro u1 H;refine zP (iY A 4096 c (fl f 4096) u1 (SI.below hx.out H.O) (by omega)) ?_;clear H;intro u2 H
 refine zP (aU hs u2) ?_;clear H;intro u3 H;refine zO (ff hs 2 (by omega) u3) ?_;clear H;intro w4 A2 c2 u4 H
 refine zO (ff (lO hs 2) 4096 (by omega) u4) ?_;clear H;intro w5 AF cF u5 H
 obtain⟨gF,rfl,_,_⟩:=OS.pos (H.o 0) (by omega)
 obtain⟨gP,rfl,_,_⟩:=OS.pos (H.o 1) (by omega)
 have E:=H.el;refine zXF (tgF [gP] 10 10 (.cells #[.int .i64 0,.int .i64 0,.slice none 0 0,.slice none 0 0] 215)) ?_;clear H;intro S w6 hne H;have hA:=Rw.aB (cs:=#[.int .i64 (rn s 0),.int .i64 (rn s 1)]) (H.o 1) rfl;have r0:=H.row (hA.cell 0);have r1:=H.row (hA.cell 1);intros
 repeat (first|(refine lE ?_;intro K hK;go_big_quiet_op;go_big_quiet_on)|refine lG ?_)
 refine oU fun w7 hb K hK=>?_
 have hmk:(Instr.makeSlice 35 (.int .i64 4096) (.int .i64 4096)).run prog w7= .ok (.slice (some ⟨w7.heap.size,0,none⟩) 4096 4096) (w7.alloc (ZB 4096)):=jc 4096 (by omega) w7
 unfold Oper.gives
 go_simp
 refine BN ((H.b hb).os (Qb.alloc Ql _) (OS.sN w7 4096 (by omega))) (Qb.alloc Ql _) hK ?_
 clear hK K hb hmk H;intro w8 H;refine yG ?_;clear H;intro w9 g9 hg9 H;refine yS ?_;clear H;intro w10 H;refine yN ?_;clear H;intro u11 H;refine zB ((show Calls prog 284 #[_] u11 (fun e w'=>e= .returned (.int .i64 (shf s))/\Below u11.heap.size u11 w') from uu s ▸ bL (rn s 0) (rn s 1) u11)) ?_;clear H;intro w12 u12 H
 replace H:=H.d 3;replace H:=((((H.r 3).r 3).r 3).r 3);obtain⟨gT,hgT⟩:∃ g,g=g9:=⟨_,rfl⟩;rw[<-hgT] at H ⊢;clear hgT;obtain⟨gS,hgS⟩:∃ g,g=w7.heap.size:=⟨_,rfl⟩;rw[<-hgS] at H ⊢;clear hgS;intros
 go_loopw [53] (fun i wr=>∃ j:Nat,j<=4096/\i= .int .i64 j/\Hid (Hq w [qB gT 215 [.int .i64 (rn s 0),.int .i64 (rn s 1),.slice (some ⟨gF,0,none⟩) 4096 cF,.slice (some ⟨gS,0,none⟩) 4096 4096],qO w.heap.size (some ⟨gS,0,none⟩) 4096 4096 (fl (sec f s) j++List.replicate (4096-j) 0),qO w.heap.size (some ⟨gF,0,none⟩) 4096 cF (fl (rn (sds s 2)) 4096),qB w.heap.size 215 [.int .i64 0,.int .i64 0,.slice none 0 0,.slice none 0 0]] wr)) (fun i _=>4096-(intOf i).toNat)
 case atStart=>exact⟨0,Nat.zero_le _,rfl,Bl (sec f s) 4096 ▸ H⟩
 case round =>
 clear H;obtain⟨j,hj,rfl,H⟩:=hrel;have H:=H.out
 by_cases hlt:j<4096
 ·obtain⟨ix,hix⟩:∃ ix:Nat,((j:Int)-shf s)%4096=(ix:Int):=⟨(((j:Int)-shf s)%4096).toNat,(rh j _).symm⟩;have hsb:=xh s;have ix1:(ix:Int)<4096:=by omega
  have ix0:(0:Int)<=(ix:Int):=by omega
  have q1:=IntWalk.i64_in ((j:Int)-shf s) (by omega)
  have hfx:=hf ix (by omega)
  have hrx:=dB (sds s 2) j;have q2:=IntWalk.i64_in (f ix-rn (sds s 2) j) (by omega)
  have HSEC:Hid (bC (f ix) (rn (sds s 2) j)=sec f s j):=by
   have h:=Dy hf s j;rw[hix] at h
   exact h
  have i0:(0:Int)<=(j:Int):=by omega
  have i1:(j:Int)<4096:=by omega
  have HIX:=Qh hix;obtain⟨bA,oA,rfl,zbA,_⟩:=hx.out.2 (by omega)
  have HS:Hid ((fl (sec f s) j++List.replicate (4096-j) 0).set j (sec f s j)=fl (sec f s) (j+1)++List.replicate (4096-(j+1)) 0):=jF (sec f s) 4096 j hlt;clear hix hsb hfx hrx;refine zC ?_;intro C;intros;go_upto_region 10 with fail;refine zM ?_;clear H C;intro u41 H;have ezF:=(a7 (H.o 2) hlt).1;refine zXZ (tg [gT,bA,gF]) ?_;clear H;intro S w42 hne H;refine zD (H.c 0) ?_;intro G;have rA:=uv hx.out rfl (by omega:ix<4096) H.O
  rw[fL _ _ _ (by omega)] at rA
  replace rA:=H.row rA;have rF:=(a7 (H.o 2) hlt).2.1;rw[fL _ _ _ hlt] at rF;replace rF:=H.row rF;refine yP ((show Calls prog 180 #[.int .i64 ((j:Int)-shf s)] w42 (fun e w'=>e= .returned (.int .i64 ((ix:Int)))/\w42=w') from HIX.out ▸ dK ((j:Int)-shf s) w42)) ?_
  refine yP ((show Calls prog 209 #[.int .i64 (f ix),.int .i64 (rn (sds s 2) j)] w42 (fun e w'=>e= .returned (.int .i64 (sec f s j))/\w42=w') from HSEC.out ▸ gD (f ix) (rn (sds s 2) j) w42)) ?_
  have D:=a7 (H.o 1) hlt;refine nY ?_;clear H D;intro u42 H;replace H:=((((H.r 3).r 3).r 3).r 3);refine zC ?_;intro C;intros;go_wp2
  go_roundw
  case rel=>exact⟨j+1,by omega,by go_num,(by rw[HS.out] at H;exact H)⟩
  case measure=>simp[intOf];omega
 ·obtain rfl:j=4096:=by omega
  rw[Nat.sub_self,List.replicate_zero,List.append_nil] at H;refine zS_ ?_;clear H;intro u61 H
  exact⟨_,_,_,_,rfl,(H.o 2),(H.o 1),H.O⟩
theorem sn (f:Nat->Int) (hf:∀ j,j<4096->0<=f j/\f j<=4095) {s:Int} (hs:1<=s/\s<=2147483646) (A:Option Addr) (c:Nat) (w:World) (hx0:SI w A 4096 (fl f 4096)):Calls prog 188 #[.slice A 4096 c,.int .i64 s] w (Tb f s w):=by
 have hall:gd (fl f 4096)=true:=by rw[p9 (lg f 4096 hf),aD];rfl
 have hin:inB s 1 2147483646=true:=by simp[inB];omega
 have hx:=Qh hx0;clear hx0;refine zE ?_;intro u1 H;refine zP (lK A 4096 c (fl f 4096) u1 (SI.below hx.out H.O) (by omega)) ?_;clear H;intro u2 H
 refine zP (lL s 1 2147483646 u2) ?_;clear H;intro u3 H;refine zO (kQ hs 2 (by omega) u3) ?_;clear H;intro w4 A2 c2 u4 H
 refine zO (kQ (lO hs 2) 4096 (by omega) u4) ?_;clear H;intro w5 AF cF u5 H
 obtain⟨gF,rfl,_,_⟩:=OS.pos (H.o 0) (by omega)
 obtain⟨gP,rfl,_,_⟩:=OS.pos (H.o 1) (by omega)
 have E:=H.el;refine zXF (tgF [gP] 9 10 (.cells #[.int .i64 0,.int .i64 0,.slice none 0 0,.slice none 0 0] 215)) ?_;clear H;intro S w6 hne H;have hA:=Rw.aB (cs:=#[.int .i64 (rn s 0),.int .i64 (rn s 1)]) (H.o 1) rfl;have r0:=H.row (hA.cell 0);have r1:=H.row (hA.cell 1);refine yG ?_;clear H;intro w7 g7 hg7 H;refine yS ?_;clear H;intro w8 H;refine yN ?_;clear H;intro u9 H;replace H:=H.nil;refine zB ((show Calls prog 229 #[_] u9 (fun e w'=>e= .returned (.int .i64 (shf s))/\Below u9.heap.size u9 w') from uu s ▸ bV (rn s 0) (rn s 1) u9)) ?_;clear H;intro w10 u10 H
 replace H:=H.d 3;replace H:=((((H.r 3).r 3).r 2).r 3);obtain⟨gT,hgT⟩:∃ g,g=g7:=⟨_,rfl⟩;rw[<-hgT] at H ⊢;clear hgT;intros
 go_loopw [12] (fun i wr=>∃ (j c':Nat) (A':Option Addr),j<=4096/\i= .int .i64 j/\Hid (Hq w [qB gT 215 [.int .i64 (rn s 0),.int .i64 (rn s 1),.slice (some ⟨gF,0,none⟩) 4096 cF,.slice A' j c'],qO w.heap.size A' j c' (fl (sec f s) j),qO w.heap.size (some ⟨gF,0,none⟩) 4096 cF (fl (rn (sds s 2)) 4096),qB w.heap.size 215 [.int .i64 0,.int .i64 0,.slice none 0 0,.slice none 0 0]] wr)) (fun i _=>4096-(intOf i).toNat)
 case atStart=>exact⟨0,0,none,Nat.zero_le _,rfl,H⟩
 case round =>
 clear H;obtain⟨j,c',A',hj,rfl,H⟩:=hrel;have H:=H.out
 by_cases hlt:j<4096
 ·obtain⟨ix,hix⟩:∃ ix:Nat,((j:Int)-shf s)%4096=(ix:Int):=⟨(((j:Int)-shf s)%4096).toNat,(rh j _).symm⟩;have hsb:=xh s;have ix1:(ix:Int)<4096:=by omega
  have ix0:(0:Int)<=(ix:Int):=by omega
  have q1:=IntWalk.i64_in ((j:Int)-shf s) (by omega)
  have hfx:=hf ix (by omega)
  have hrx:=dB (sds s 2) j;have q2:=IntWalk.i64_in (f ix-rn (sds s 2) j) (by omega)
  have HSEC:Hid ((f ix-rn (sds s 2) j)%4096=sec f s j):=by
   have h:=B_ (f:=f) s j;rw[hix] at h
   exact h
  have i0:(0:Int)<=(j:Int):=by omega
  have i1:(j:Int)<4096:=by omega
  have HIX:=Qh hix;obtain⟨bA,oA,rfl,zbA,_⟩:=hx.out.2 (by omega)
  have HS:Hid (fl (sec f s) j++[sec f s j]=fl (sec f s) (j+1)):=(dd (sec f s) j).symm;clear hix hsb hfx hrx;refine zC ?_;intro C;intros;go_upto_region 10 with fail;refine zM ?_;clear H C;intro u41 H;have nA:blk A'≠some bA:=fun e=>by have:=(OS.aj (H.o 1) bA e).1;omega
  have ezF:=(a7 (H.o 2) hlt).1;refine zXZ (tg [gT,bA,gF]) ?_;clear H;intro S w42 hne H;refine zD (H.c 0) ?_;intro G;have rA:=uv hx.out rfl (by omega:ix<4096) H.O
  rw[fL _ _ _ (by omega)] at rA
  replace rA:=H.row rA;have rF:=(a7 (H.o 2) hlt).2.1;rw[fL _ _ _ hlt] at rF;replace rF:=H.row rF;refine yP ((show Calls prog 132 #[.int .i64 ((j:Int)-shf s)] w42 (fun e w'=>e= .returned (.int .i64 ((ix:Int)))/\w42=w') from HIX.out ▸ bG ((j:Int)-shf s) w42)) ?_
  refine yP ((show Calls prog 132 #[.int .i64 (f ix-rn (sds s 2) j)] w42 (fun e w'=>e= .returned (.int .i64 (sec f s j))/\w42=w') from HSEC.out ▸ bG (f ix-rn (sds s 2) j) w42)) ?_
  refine yM ?_;clear H;intro w43 H;replace H:=H.r 2;refine yA (dQ (H.k 1)) True.intro ?_;clear H;intro C1 k1 w44 H;intros;refine zCr ?_;intro C;intros
  repeat (first|(refine lc' ?_;intro K hK;go_big_quiet_op;go_big_quiet_on)|refine lk' ?_)
  refine aV rfl (by rfl) (by rfl) (fun K hK=>?_)
  unfold Oper.gives
  go_simp
  refine hK _ _ ?_;replace H:=H.H;refine aI ?_;clear C G;replace H:=(((((H.d 1).r 3).r 3).r 2).r 3);refine zC ?_;intro C;intros;go_wp2
  go_roundw
  case rel=>exact⟨j+1,k1,C1,by omega,by go_num,(by rw[HS.out] at H;exact(Qh hq))⟩
  case measure=>simp[intOf];omega
 ·obtain rfl:j=4096:=by omega
  refine zS_ ?_;clear H;intro u61 H
  exact⟨_,_,_,_,rfl,(H.o 2),(H.o 1),H.O⟩
theorem B5 {x a b:Int} (h:a<=x/\x<=b) (w:World):Calls prog 53 #[.int .i64 x,.int .i64 a,.int .i64 b] w fun e w'=>e= .returned (.bool true)/\w=w':=by
 have e:=lL x a b w
 rwa [show inB x a b=true from decide_eq_true h] at e
def mD (x1 x2 a1 a2:Int):Int:=((x1+x2)-(a1+a2))%4096
theorem ug (x1 x2 a1 a2:Int):0<=mD x1 x2 a1 a2/\mD x1 x2 a1 a2<=4095:=by unfold mD;omega
theorem BO {x1 x2 a1 a2:Int} (hx:sv x1 x2=true) (ha:sv a1 a2=true):bC (aJ x1 x2) (aJ a1 a2)=mD x1 x2 a1 a2:=by
 obtain⟨h1,h2⟩:=fY hx;obtain⟨h3,h4⟩:=fY ha;rw[dX h1 h2,dX h3 h4,qL (by omega) (by omega)]
 unfold mD
 omega
theorem BP {x1 x2 a1 a2:Int} (hx:sv x1 x2=true) (ha:sv a1 a2=true):aJ ((x1-a1)%4096) ((x2-a2)%4096)=mD x1 x2 a1 a2:=by
 rw[dX (by omega) (by omega)]
 unfold mD
 omega
def mP1 (c1 b1 a1 d e:Int):Int:=(c1+d*b1+e*a1+d*e)%4096
def mP2 (c2 b2 a2 d e:Int):Int:=(c2+d*b2+e*a2)%4096
def Bo (p1 p2 d e:Int) (w:World) (x:Ending) (w':World):Prop:=∃ (A:Option Addr) (c:Nat),x= .returned (.tuple #[T2 p1 p2,.slice A 2 c,.bool true])/\OS w' w.heap.size A 2 c [d,e]/\Below w.heap.size w w'
theorem gh {a b:Int} (h1:0<=a/\a<=4095) (h2:0<=b/\b<=4095):0<=a*b/\a*b<=16769025:=by
 refine⟨Int.mul_nonneg h1.1 h2.1,?_⟩;have:=Int.mul_le_mul h1.2 h2.2 h2.1 (by omega)
 omega
theorem ru {x1 x2 y1 y2 a1 a2 b1 b2 c1 c2:Int} (hx:sv x1 x2=true) (hy:sv y1 y2=true) (ha:sv a1 a2=true) (hb':sv b1 b2=true) (hc':sv c1 c2=true) (hr:aJ c1 c2=mulR (aJ a1 a2) (aJ b1 b2)) (w:World) :
  Calls prog 289 #[T2 x1 x2,T2 y1 y2,T6 a1 a2 b1 b2 c1 c2] w (Bo (mP1 c1 b1 a1 (mD x1 x2 a1 a2) (mD y1 y2 b1 b2)) (mP2 c2 b2 a2 (mD x1 x2 a1 a2) (mD y1 y2 b1 b2)) (mD x1 x2 a1 a2) (mD y1 y2 b1 b2) w):=by
 have hd:=BO hx ha;have he:=BO hy hb';have bd:=ug x1 x2 a1 a2;have be:=ug y1 y2 b1 b2
 generalize mD x1 x2 a1 a2=d at *
 generalize mD y1 y2 b1 b2=e at *
 obtain⟨pa1,pa2⟩:=fY ha;obtain⟨pb1,pb2⟩:=fY hb';obtain⟨pc1,pc2⟩:=fY hc';have q1:=gh bd pb1;have q2:=gh be pa1;have q3:=gh bd be;have q4:=gh bd pb2;have q5:=gh be pa2;have t1:=IntWalk.i64_in (d*b1) (by omega)
 have t2:=IntWalk.i64_in (e*a1) (by omega)
 have t3:=IntWalk.i64_in (d*e) (by omega)
 have t4:=IntWalk.i64_in (d*b2) (by omega)
 have t5:=IntWalk.i64_in (e*a2) (by omega)
 have t6:=IntWalk.i64_in (c1+d*b1) (by omega)
 have t7:=IntWalk.i64_in (c1+d*b1+e*a1) (by omega)
 have t8:=IntWalk.i64_in (c1+d*b1+e*a1+d*e) (by omega)
 have t9:=IntWalk.i64_in (c2+d*b2) (by omega)
 have t10:=IntWalk.i64_in (c2+d*b2+e*a2) (by omega)
 refine zE ?_;intro u1 H;refine zB (bQ hx u1) ?_;clear H;intro w2 u2 H;refine zB (bQ hy u2) ?_;clear H;intro w3 u3 H;refine zB (oR ha hb' hc' hr u3) ?_;clear H;intro w4 u4 H;refine zX (tg [w.heap.size+2,w.heap.size]) ?_;clear H;intro S w5 hne H;refine zD ((And.intro (H.c 1) (H.c 3))) ?_;intro G;refine yB (bL _ _ w5) ?_;clear H;intro w6 H;refine yB (bL _ _ w6) ?_;clear H;intro w7 H;refine yP (gD _ _ w7) ?_;refine yN ?_;clear H G;intro u8 H;refine zX (tg [w.heap.size+2,w.heap.size+1]) ?_;clear H;intro S w9 hne H;refine zD ((And.intro (H.c 1) (H.c 2))) ?_;intro G;refine yB (bL _ _ w9) ?_;clear H;intro w10 H;refine yB (bL _ _ w10) ?_;clear H;intro w11 H;refine yP (gD _ _ w11) ?_;refine yN ?_;clear H G;intro u12 H;have E:=H.el;refine zXF (tgF [w.heap.size+2] 37 11 (.cells #[.int .i64 0,.int .i64 0] 213)) ?_;clear H;intro S w13 hne H;refine zD (H.c 1) ?_;intro G;refine fP (fun w14 (hb:Bw w13 w14)=>dK _ w14) ?_;clear H;intro w14 H
 refine fP (fun w15 (hb:Bw w14 w15)=>dK _ w15) ?_;clear H;intro w15 H
 refine yG ?_;clear H;intro w16 g16 hg16 H;refine yS ?_;clear H;intro w17 H;refine yN ?_;clear H G;intro u18 H;refine zS_ ?_;clear H;intro u19 H
 exact⟨_,2,rfl,OS.wK (xs:=[d,e]) (H.k 0) (H.ge 0) (by simp[maxLen]),H.O⟩
theorem su {x1 x2 y1 y2 a1 a2 b1 b2 c1 c2:Int} (hx:sv x1 x2=true) (hy:sv y1 y2=true) (ha:sv a1 a2=true) (hb':sv b1 b2=true) (hc':sv c1 c2=true) (hr:aJ c1 c2=mulR (aJ a1 a2) (aJ b1 b2)) (w:World) :
  Calls prog 236 #[T2 x1 x2,T2 y1 y2,T6 a1 a2 b1 b2 c1 c2] w (Bo (mP1 c1 b1 a1 (mD x1 x2 a1 a2) (mD y1 y2 b1 b2)) (mP2 c2 b2 a2 (mD x1 x2 a1 a2) (mD y1 y2 b1 b2)) (mD x1 x2 a1 a2) (mD y1 y2 b1 b2) w):=by
 have hd:=BP hx ha;have he:=BP hy hb';have bd:=ug x1 x2 a1 a2;have be:=ug y1 y2 b1 b2
 generalize mD x1 x2 a1 a2=d at *
 generalize mD y1 y2 b1 b2=e at *
 obtain⟨pa1,pa2⟩:=fY ha;obtain⟨pb1,pb2⟩:=fY hb';obtain⟨pc1,pc2⟩:=fY hc';have q1:=gh bd pb1;have q2:=gh be pa1;have q3:=gh bd be;have q4:=gh bd pb2;have q5:=gh be pa2;have t1:=IntWalk.i64_in (d*b1) (by omega)
 have t2:=IntWalk.i64_in (e*a1) (by omega)
 have t3:=IntWalk.i64_in (d*e) (by omega)
 have t4:=IntWalk.i64_in (d*b2) (by omega)
 have t5:=IntWalk.i64_in (e*a2) (by omega)
 have t6:=IntWalk.i64_in (c1+d*b1) (by omega)
 have t7:=IntWalk.i64_in (c1+d*b1+e*a1) (by omega)
 have t8:=IntWalk.i64_in (c1+d*b1+e*a1+d*e) (by omega)
 have t9:=IntWalk.i64_in (c2+d*b2) (by omega)
 have t10:=IntWalk.i64_in (c2+d*b2+e*a2) (by omega)
 refine zE ?_;intro u1 H;refine zB (a8 hx u1) ?_;clear H;intro w2 u2 H;refine zB (a8 hy u2) ?_;clear H;intro w3 u3 H;refine zB (o8 ha hb' hc' hr u3) ?_;clear H;intro w4 u4 H;refine zB (jy hx ha u4) ?_;clear H;intro w5 u5 H;refine zB (bV _ _ u5) ?_;clear H;intro w6 u6 H;refine zB (jy hy hb' u6) ?_;clear H;intro w7 u7 H;refine zB (bV _ _ u7) ?_;clear H;intro w8 u8 H;have E:=H.el;refine zXF (tgF [w.heap.size+2] 37 11 (.cells #[.int .i64 0,.int .i64 0] 213)) ?_;clear H;intro S w9 hne H;refine zD (H.c 1) ?_;intro G;refine fP (fun w10 (hb:Bw w9 w10)=>bG _ w10) ?_;clear H;intro w10 H
 refine fP (fun w11 (hb:Bw w10 w11)=>bG _ w11) ?_;clear H;intro w11 H
 refine yG ?_;clear H;intro w12 g12 hg12 H;refine yS ?_;clear H;intro w13 H;refine yN ?_;clear H G;intro u14 H;refine zS_ ?_;clear H;intro u15 H
 exact⟨_,2,rfl,OS.wK (xs:=[d,e]) (H.k 0) (H.ge 0) (by simp[maxLen]),H.O⟩
def lk1 (s j:Int):Int:=rn (sds s 2) ((j+shf s)%4096).toNat
def lk2 (f:Nat->Int) (s j:Int):Int:=(f j.toNat-lk1 s j)%4096
theorem Av (s j:Int):0<=lk1 s j/\lk1 s j<=4095:=dB _ _
theorem Az (f:Nat->Int) (s j:Int):0<=lk2 f s j/\lk2 f s j<=4095:=by unfold lk2;omega
theorem look_eq (f:Nat->Int) (s:Int) {x1 x2 j:Int} (hj:(x1+x2)%4096=j):opn x1 x2 (rn s 0) (rn s 1)=(j+shf s)%4096/\(fl (rn (sds s 2)) 4096).getD (opn x1 x2 (rn s 0) (rn s 1)).toNat 0=lk1 s j/\(fl (sec f s) 4096).getD (opn x1 x2 (rn s 0) (rn s 1)).toNat 0=lk2 f s j:=by
 have e:opn x1 x2 (rn s 0) (rn s 1)=(j+shf s)%4096:=by subst hj;unfold opn shf;omega
 have hb:=nV x1 x2 (rn s 0) (rn s 1);refine⟨e,?_,?_⟩
 ·rw[fL _ _ _ (by omega),e]
  rfl
 ·rw[fL _ _ _ (by omega),e]
  unfold sec lk2 lk1;have h1:((((j+shf s)%4096).toNat:Int)-shf s)%4096=j:=by
   have h0:0<=j/\j<=4095:=by omega
   omega
  rw[h1]
theorem Aj {f:Nat->Int} (hf:∀ j,j<4096->0<=f j/\f j<=4095) {s j x1 x2:Int} (h0:sv x1 x2=true) (hj:(x1+x2)%4096=j) (A B:Option Addr) (c d:Nat) (w:World) (hx:SI w A 4096 (fl (rn (sds s 2)) 4096)) (hy:SI w B 4096 (fl (sec f s) 4096)) :
  Calls prog 252 #[T2 x1 x2,TBl (rn s 0) (rn s 1) A B c d] w (xB (lk1 s j) (lk2 f s j) ((j+shf s)%4096) w):=by
 have h:=sW h0 (fX (dB s 0) (dB s 1)) A B c d _ _ w hx hy (lg _ _ fun k _=>dB _ k) (lg _ _ fun k _=>w_ f s k)
 obtain⟨e1,e2,e3⟩:=look_eq f s hj;rw[e1] at e2 e3;rw[e1,e2,e3] at h
 exact h
theorem AZ {f:Nat->Int} (hf:∀ j,j<4096->0<=f j/\f j<=4095) {s j x1 x2:Int} (h0:sv x1 x2=true) (hj:(x1+x2)%4096=j) (A B:Option Addr) (c d:Nat) (w:World) (hx:SI w A 4096 (fl (rn (sds s 2)) 4096)) (hy:SI w B 4096 (fl (sec f s) 4096)) :
  Calls prog 189 #[T2 x1 x2,TBl (rn s 0) (rn s 1) A B c d] w (xB (lk1 s j) (lk2 f s j) ((j+shf s)%4096) w):=by
 have h:=tn h0 (fX (dB s 0) (dB s 1)) A B c d _ _ w hx hy (lg _ _ fun k _=>dB _ k) (lg _ _ fun k _=>w_ f s k)
 obtain⟨e1,e2,e3⟩:=look_eq f s hj;rw[e1] at e2 e3;rw[e1,e2,e3] at h
 exact h
def sTb (s:Int):Int:=sds (sds s 2) 4096
def mpS (s:Int):Nat->Int
 | 0=>s
 | k+1=>sTb (mpS s k)
def shJ (p:Mx×Mx) (k:Nat):Int:=(p.1.v.getD k 0+p.2.v.getD k 0)%4096
def mp1 (p:Mx×Mx) (s:Int) (k:Nat):Int:=lk1 (mpS s k) (shJ p k)
def mp2 (f:Nat->Int) (p:Mx×Mx) (s:Int) (k:Nat):Int:=lk2 f (mpS s k) (shJ p k)
def dv (f:Nat->Int) (p:Mx×Mx) (s:Int):(Mx×Mx)×Int:=((⟨p.1.r,p.1.c,fl (mp1 p s) p.1.v.length⟩,⟨p.1.r,p.1.c,fl (mp2 f p s) p.1.v.length⟩),mpS s p.1.v.length)
structure MTr where
 a:Mx×Mx
 b:Mx×Mx
 c:Mx×Mx
def oz (r i s:Int):Int:=sds s (nm r i)
def xq (r i s:Int):Mx×Mx:=(cT r i s,cT r i (oz r i s))
def xr (r i c s:Int):Mx×Mx:=(cT i c (oz r i (oz r i s)),cT i c (oz i c (oz r i (oz r i s))))
def E7 (r i c s:Int):Int:=oz i c (oz i c (oz r i (oz r i s)))
def ig (r i c s:Int):MTr:=⟨xq r i s,xr r i c s,(cT r c (E7 r i c s),aE bC (mulM (aq (xq r i s)) (aq (xr r i c s))) (cT r c (E7 r i c s)))⟩
def oC (r i c s:Int):Int:=oz r c (E7 r i c s)
def pD (x:Mx×Mx) (t:MTr):Mx:=aE bC (aq x) (aq t.a)
def pE (y:Mx×Mx) (t:MTr):Mx:=aE bC (aq y) (aq t.b)
def sb (c d b a e:Mx):Mx:=aE aJ (aE aJ c (mulM d b)) (mulM a e)
def dw (x y:Mx×Mx) (t:MTr):Mx:=aE aJ (sb t.c.1 (pD x t) t.b.1 t.a.1 (pE y t)) (mulM (pD x t) (pE y t))
def dF (x y:Mx×Mx) (t:MTr):Mx:=sb t.c.2 (pD x t) t.b.2 t.a.2 (pE y t)
def dG (x y:Mx×Mx) (s:Int):(Mx×Mx)×Int:=((dw x y (ig x.1.r x.1.c y.1.c s),dF x y (ig x.1.r x.1.c y.1.c s)),oC x.1.r x.1.c y.1.c s)
section
def RM (w:World) (v:Value) (m:Mx):Prop:=∃ (A:Option Addr) (c:Nat),v=MV m.r m.c A m.v.length c/\SI w A m.v.length m.v/\m.v.length<=c/\c<=maxLen
def RS (w:World) (v:Value) (p:Mx×Mx):Prop:=∃ (A B:Option Addr) (c d:Nat),v=SMV p.1.r p.1.c A p.1.v.length c p.2.r p.2.c B p.2.v.length d/\SI w A p.1.v.length p.1.v/\p.1.v.length<=c/\c<=maxLen/\SI w B p.2.v.length p.2.v/\p.2.v.length<=d/\d<=maxLen
section
variable {w w':World} {v:Value} {m:Mx} {p:Mx×Mx}
theorem RM.below (h:RM w v m) (hb:Below w.heap.size w w'):RM w' v m:=by
 obtain⟨A,c,e,h1,h2⟩:=h
 exact⟨A,c,e,SI.below h1 hb,h2⟩
theorem RM.aB {base c:Nat} {A:Option Addr} (h:OS w base A m.v.length c m.v):RM w (MV m.r m.c A m.v.length c) m:=⟨A,c,rfl,h.si,h.dC⟩
theorem RM.mk {A:Option Addr} {c:Nat} (h:SI w A m.v.length m.v) (h1:m.v.length<=c) (h2:c<=maxLen):RM w (MV m.r m.c A m.v.length c) m:=⟨A,c,rfl,h,h1,h2⟩
theorem RS.below (h:RS w v p) (hb:Below w.heap.size w w'):RS w' v p:=by
 obtain⟨A,B,c,d,e,h1,h2,h3,h4,h5⟩:=h
 exact⟨A,B,c,d,e,SI.below h1 hb,h2,h3,SI.below h4 hb,h5⟩
theorem RS.aB {base c d:Nat} {A B:Option Addr} (h:OS w base A p.1.v.length c p.1.v) (k:OS w base B p.2.v.length d p.2.v):RS w (SMV p.1.r p.1.c A p.1.v.length c p.2.r p.2.c B p.2.v.length d) p:=⟨A,B,c,d,rfl,h.si,h.dC.1,h.dC.2,k.si,k.dC⟩
theorem RS.mk {c d:Nat} {A B:Option Addr} (h:SI w A p.1.v.length p.1.v) (h1:p.1.v.length<=c) (h2:c<=maxLen) (k:SI w B p.2.v.length p.2.v) (k1:p.2.v.length<=d) (k2:d<=maxLen):RS w (SMV p.1.r p.1.c A p.1.v.length c p.2.r p.2.c B p.2.v.length d) p:=⟨A,B,c,d,rfl,h,h1,h2,k,k1,k2⟩
end
def okS (p:Mx×Mx):Bool:=az p.1 p.2
theorem ai {p:Mx×Mx} (h:okS p=true):mvB p.1=true/\mvB p.2=true/\p.1.r=p.2.r/\p.1.c=p.2.c:=i_ h
theorem fs {p:Mx×Mx} (h:okS p=true):p.1.v.length<=25/\p.2.v.length<=25:=⟨(bt h).2.2,(ee h).2⟩
theorem zL {f:Nat->Int} {n:Nat} (h:∀ k,k<n->rv (f k)=true):(fl f n).all rv=true:=by
 rw[List.all_eq_true];intro x hx;obtain⟨k,hk,rfl⟩:=List.mem_map.1 hx
 exact h k (List.mem_range.1 hk)
theorem sl (x:Int):rv (x%4096)=true:=aR (by omega)
theorem mf {r c:Int} {f:Nat->Int} {n:Nat} (h1:side r=true) (h2:side c=true) (hn:(n:Int)=r*c) (h:∀ k,k<n->rv (f k)=true):mvB ⟨r,c,fl f n⟩=true:=by
 unfold mvB;simp only[h1,h2,aD,hn,decide_true,Bool.true_and]
 exact zL h
theorem aA {m:Mx} (h:mvB m=true):side m.r=true/\side m.c=true:=by
 obtain⟨_,h2,h3,_⟩:=cZ h
 exact⟨h2,h3⟩
theorem tK {a b:Int} (h1:rv a=true) (h2:rv b=true):rv (aJ a b)=true:=by unfold aJ;rw[if_pos ⟨h1,h2⟩];exact sl _
theorem yv {a b:Int} (h1:rv a=true) (h2:rv b=true):rv (bC a b)=true:=by unfold bC;rw[if_pos ⟨h1,h2⟩];exact sl _
theorem kH {m:Mx} (h:mvB m=true) (k:Nat):rv (m.v.getD k 0)=true:=aR (dE h k)
theorem nW {f:Int->Int->Int} (hf:∀ a b,rv a=true->rv b=true->rv (f a b)=true) {a b:Mx} (h:az a b=true):mvB (aE f a b)=true/\(aE f a b).r=a.r/\(aE f a b).c=a.c:=by
 obtain⟨h1,h2,_,_⟩:=i_ h;obtain⟨l1,s1,s2,_⟩:=cZ h1;rw[fi h]
 exact⟨mf s1 s2 l1 (fun k _=>hf _ _ (kH h1 k) (kH h2 k)),rfl,rfl⟩
theorem aY {a b:Mx} (h1:mvB a=true) (h2:mvB b=true) (h3:a.r=b.r) (h4:a.c=b.c):az a b=true:=by unfold az;rw[h1,h2];unfold bS;rw[h3,h4];simp
theorem aN {p:Mx×Mx} (h:okS p=true):mvB (aq p)=true/\(aq p).r=p.1.r/\(aq p).c=p.1.c:=nW (fun _ _=>tK) h
theorem jd {a b:Mx} (h1:mvB a=true) (h2:mvB b=true) (h3:a.c=b.r):iz a b=true:=by unfold iz;rw[h1,h2,h3];simp
theorem et {n:Int} (h:side n=true):((n.toNat:Nat):Int)=n:=by have:=bI h;omega
theorem eV {a b:Mx} (h:iz a b=true):mvB (mulM a b)=true/\(mulM a b).r=a.r/\(mulM a b).c=b.c:=by
 rw[ta h];unfold iz at h;simp only[Bool.and_eq_true] at h;obtain⟨h1,h2,_⟩:=h;obtain⟨s1,_⟩:=aA h1;obtain⟨_,s2⟩:=aA h2;refine⟨mf s1 s2 ?_ (fun k _=>sl _),rfl,rfl⟩
 push_cast
 rw[et s1,et s2]
theorem bU {r c s:Int} (hr:side r=true) (hc:side c=true):mvB (cT r c s)=true:=by
 have:=e6 hr hc
 exact mf hr hc (by unfold nm;omega) (fun k _=>aR (dB s k))
theorem kW {a b:Mx} (h:az a b=true):mvB (aE bC a b)=true/\(aE bC a b).r=a.r/\(aE bC a b).c=a.c:=nW (fun _ _=>yv) h
theorem fc {a b:Mx} (h:az a b=true):mvB (aE aJ a b)=true/\(aE aJ a b).r=a.r/\(aE aJ a b).c=a.c:=nW (fun _ _=>tK) h
theorem dj {n:Int} (h:side n=true) (w:World):Calls prog 106 #[.int .i64 n] w fun e w'=>e= .returned (.bool true)/\w=w':=by
 have:=dt n w
 rwa [h] at this
theorem Cz {m:Mx} (h:mvB m=true) {v:Value} (w:World) (hx:RM w v m):Calls prog 57 #[v] w fun e w'=>e= .returned (.bool true)/\Below w.heap.size w w':=by
 obtain⟨A,c,rfl,h1,_⟩:=hx
 exact bP h w h1
theorem rp {a b:Mx} (h:az a b=true) {x y:Value} (w:World) (hx:RM w x a) (hy:RM w y b):Calls prog 104 #[x,y] w (bD (aE aJ a b) w):=by
 obtain⟨A,c,rfl,h1,_⟩:=hx;obtain⟨B,d,rfl,h2,_⟩:=hy
 exact eT _ _ _ _ _ _ _ _ _ _ _ _ w h1 h2 (by have:=(bt h).2.2;omega) (by have:=(ee h).2;omega)
theorem tY {a b:Mx} (h:az a b=true) {x y:Value} (w:World) (hx:RM w x a) (hy:RM w y b):Calls prog 168 #[x,y] w (bD (aE bC a b) w):=by
 obtain⟨A,c,rfl,h1,_⟩:=hx;obtain⟨B,d,rfl,h2,_⟩:=hy
 exact oQ _ _ _ _ _ _ _ _ _ _ _ _ w h1 h2 (by have:=(bt h).2.2;omega) (by have:=(ee h).2;omega)
theorem pg {a b:Mx} (h:iz a b=true) {x y:Value} (w:World) (hx:RM w x a) (hy:RM w y b):Calls prog 296 #[x,y] w (bD (mulM a b) w):=by
 obtain⟨A,c,rfl,h1,h3,h4⟩:=hx;obtain⟨B,d,rfl,h2,_⟩:=hy
 exact mx h A B c d w h1 h2 h3 h4
theorem iJ {p:Mx×Mx} (h:okS p=true) {x:Value} (w:World) (hx:RS w x p):Calls prog 55 #[x] w (bD (aq p) w):=by
 obtain⟨A,B,c,d,rfl,h1,_,_,h2,_⟩:=hx
 exact j_ _ _ _ _ _ _ _ _ _ _ _ _ w h1 h2 (by have:=(fs h).1;omega) (by have:=(fs h).2;omega)
theorem sZ {a b:Mx} (h1:a.r=b.r) (h2:a.c=b.c) {x y:Value} (w:World) (hx:RM w x a) (hy:RM w y b):Calls prog 195 #[x,y] w fun e w'=>e= .returned (.bool true)/\Below w.heap.size w w':=by
 obtain⟨A,c,rfl,_⟩:=hx;obtain⟨B,d,rfl,_⟩:=hy
 exact gg (by unfold bS;rw[h1,h2];simp) w
end
section
abbrev qX {α:Type} (E:Elt α) (b:Nat) (T:TypeId) (A:Option Addr) (n c:Nat) (css:List (List Value)) (xs:List α) (F:List Nat):Ow :=
 qT (fun i=>blk A=some i\/i∈F) (fun w=>OX E w b T A n c css xs F) (fun w h i e=>e.elim (fun e=>(h.aj i e).2) (h.lt i)) (fun w w' h hs k=>h.au hs fun g hl hg=>k g hg hl)
abbrev qR {α:Type} (E:Elt α) (b:Nat) (A:Option Addr) (n c:Nat) (xs:List α) (F:List Nat):Ow :=
 qT (fun i=>i∈F) (fun w=>RI E w A n c xs F/\Fr w b F) (fun w h i e=>h.1.lt i e) (fun w w' h hs k=>⟨h.1.au fun g hg=>k g hg (h.1.lt g hg),h.2.au fun g hg=>k g hg (h.1.lt g hg)⟩)
abbrev qS (b:Nat) (A:Option Addr) (c:Nat) (B:Option Addr) (d:Nat) (p:Mx×Mx):Ow :=
 qT (fun i=>blk A=some i\/blk B=some i) (fun w=>OS w b A p.1.v.length c p.1.v/\OS w b B p.2.v.length d p.2.v) (fun w h i e=>e.elim (fun e=>(h.1.aj i e).2) (fun e=>(h.2.aj i e).2)) (fun w w' h hs k=>⟨h.1.au hs fun g hg hl=>k g (.inl hg) hl,h.2.au hs fun g hg hl=>k g (.inr hg) hl⟩)
theorem RS.m12 {w:World} {A B:Option Addr} {c d:Nat} {p:Mx×Mx} (h:RS w (SMV p.1.r p.1.c A p.1.v.length c p.2.r p.2.c B p.2.v.length d) p):RM w (MV p.1.r p.1.c A p.1.v.length c) p.1/\RM w (MV p.2.r p.2.c B p.2.v.length d) p.2:=by
 obtain⟨A',B',c',d',e,h1,h2,h3,h4,h5,h6⟩:=h;simp only[SMV,Value.agg.injEq,Array.mk.injEq,List.cons.injEq,Value.slice.injEq,true_and,and_true] at e;obtain⟨⟨rfl,rfl⟩,rfl,rfl⟩:=e
 exact⟨RM.mk h1 h2 h3,RM.mk h4 h5 h6⟩
section
variable {w w' w0 u:World} {L:List Ow} {A:Option Addr} {n q b:Nat} {t:TypeId} {xs:List Int}
theorem qS.rs {B:Option Addr} {c d:Nat} {p:Mx×Mx} (h:(qS b A c B d p).P w):RS w (SMV p.1.r p.1.c A p.1.v.length c p.2.r p.2.c B p.2.v.length d) p:=RS.aB h.1 h.2
theorem Hq.ss {B:Option Addr} {d:Nat} {p:Mx×Mx} (H:Hq w0 L w) (hb:Below w.heap.size w w') (f:OS w' w.heap.size A p.1.v.length q p.1.v) (k:OS w' w.heap.size B p.2.v.length d p.2.v):Hq w0 (qS w0.heap.size A q B d p::L) w' :=
 H.add hb _ ⟨f.mono H.m,k.mono H.m⟩ fun i hi=>hi.elim (fun e=>(f.aj i e).1) (fun e=>(k.aj i e).1)
theorem Hq.so {B C:Option Addr} {d c n:Nat} {p:Mx×Mx} (H:Hq w0 L w) (hb:Below w.heap.size w w') (f:OS w' w.heap.size A p.1.v.length q p.1.v) (k:OS w' w.heap.size B p.2.v.length d p.2.v) (l:OS w' w.heap.size C n c xs):Hq w0 ((qS w0.heap.size A q B d p).and (qO w0.heap.size C n c xs)::L) w' :=
 H.add hb _ ⟨⟨f.mono H.m,k.mono H.m⟩,l.mono H.m⟩ fun i hi=>hi.elim (fun e=>e.elim (fun e=>(f.aj i e).1) (fun e=>(k.aj i e).1)) (fun e=>(l.aj i e).1)
theorem Hq.tt {A1 A2 B1 B2 C1 C2:Option Addr} {p1 p2 q1 q2 r1 r2:Nat} {a b d:Mx×Mx} (H:Hq w0 L w) (hb:Below w.heap.size w w') (f:OS w' w.heap.size A1 a.1.v.length p1 a.1.v/\OS w' w.heap.size A2 a.2.v.length p2 a.2.v) (k:OS w' w.heap.size B1 b.1.v.length q1 b.1.v/\OS w' w.heap.size B2 b.2.v.length q2 b.2.v) (l:OS w' w.heap.size C1 d.1.v.length r1 d.1.v/\OS w' w.heap.size C2 d.2.v.length r2 d.2.v) :
  Hq w0 ((qS w0.heap.size A1 p1 A2 p2 a).and ((qS w0.heap.size B1 q1 B2 q2 b).and (qS w0.heap.size C1 r1 C2 r2 d))::L) w':=by
 refine H.add hb _ ⟨⟨f.1.mono H.m,f.2.mono H.m⟩,⟨k.1.mono H.m,k.2.mono H.m⟩,⟨l.1.mono H.m,l.2.mono H.m⟩⟩ fun i hi=>?_
 rcases hi with(h|h)|(h|h)|(h|h)
 ·exact(f.1.aj i h).1
 ·exact(f.2.aj i h).1
 ·exact(k.1.aj i h).1
 ·exact(k.2.aj i h).1
 ·exact(l.1.aj i h).1
 ·exact(l.2.aj i h).1
theorem Hq.soo {B C D:Option Addr} {d c n c' n':Nat} {p:Mx×Mx} {ys:List Int} (H:Hq w0 L w) (hb:Below w.heap.size w w') (f:OS w' w.heap.size A p.1.v.length q p.1.v) (k:OS w' w.heap.size B p.2.v.length d p.2.v) (l:OS w' w.heap.size C n c xs) (m:OS w' w.heap.size D n' c' ys):Hq w0 ((qS w0.heap.size A q B d p).and ((qO w0.heap.size C n c xs).and (qO w0.heap.size D n' c' ys))::L) w':=by
 refine H.add hb _ ⟨⟨f.mono H.m,k.mono H.m⟩,l.mono H.m,m.mono H.m⟩ fun i hi=>?_
 rcases hi with(h|h)|h|h
 ·exact(f.aj i h).1
 ·exact(k.aj i h).1
 ·exact(l.aj i h).1
 ·exact(m.aj i h).1
theorem Hq.ox {α:Type} {E:Elt α} {T:TypeId} {css:List (List Value)} {ys:List α} {F:List Nat} (H:Hq w0 L w) (hb:Below w.heap.size w w') (f:OX E w' w.heap.size T A n q css ys F):Hq w0 (qX E w0.heap.size T A n q css ys F::L) w' :=
 H.add hb _ (f.mono H.m) fun i hi=>hi.elim (fun e=>(f.aj i e).1) (fun e=>(f.2.2.2.1.2 i e).1)
theorem Hq.rf {α:Type} {E:Elt α} {ys:List α} {F:List Nat} (H:Hq w0 L w) (hb:Below w.heap.size w w') (f:RI E w' A n q ys F) (k:Fr w' w.heap.size F):Hq w0 (qR E w0.heap.size A n q ys F::L) w':=H.add hb _ ⟨f,k.mono H.m⟩ fun i hi=>(k.2 i hi).1
theorem RI.blt' {α:Type} {E:Elt α} {b o n c:Nat} {ys:List α} {F:List Nat} (h:RI E w (some ⟨b,o,none⟩) n c ys F) (hn:0<n):b<w.heap.size/\b∈F:=by
 obtain⟨_,_,_,h4⟩:=h;rcases h4 with⟨h0,_⟩|⟨b',off,css,F',e,hb,rfl,_⟩
 ·omega
 ·injection e with e;injection e with e1 e2;rw[e1]
  exact⟨hb,List.mem_cons_self ..⟩
theorem Hq.f {α:Type} {E:Elt α} {ys:List α} {F:List Nat} (i:Nat) (H:Hq w0 L w) (k:nth L i=some (qR E b A n q ys F):=by rfl):RI E w A n q ys F/\Fr w b F:=H.get (.nth k)
theorem Hq.x {α:Type} {E:Elt α} {css:List (List Value)} {ys:List α} {F:List Nat} (i:Nat) (H:Hq w0 L w) (k:nth L i=some (qX E b t A n q css ys F):=by rfl):OX E w b t A n q css ys F:=H.get (.nth k)
theorem Hq.rs {B:Option Addr} {d:Nat} {p:Mx×Mx} (i:Nat) (H:Hq w0 L w) (k:nth L i=some (qS b A q B d p):=by rfl):RS w (SMV p.1.r p.1.c A p.1.v.length q p.2.r p.2.c B p.2.v.length d) p:=qS.rs (H.get (.nth k))
section
variable {S:World->Prop} {gs:List Nat}
theorem Hr.ss {B:Option Addr} {d:Nat} {p:Mx×Mx} (Z:Hr S u gs w0 L w) (hb:Below w.heap.size w w') (f:OS w' w.heap.size A p.1.v.length q p.1.v) (k:OS w' w.heap.size B p.2.v.length d p.2.v):Hr S u gs w0 (qS w0.heap.size A q B d p::L) w':=Z.bk hb fun H=>H.ss hb f k
theorem Hr.so {B C:Option Addr} {d c n:Nat} {p:Mx×Mx} (Z:Hr S u gs w0 L w) (hb:Below w.heap.size w w') (f:OS w' w.heap.size A p.1.v.length q p.1.v) (k:OS w' w.heap.size B p.2.v.length d p.2.v) (l:OS w' w.heap.size C n c xs):Hr S u gs w0 ((qS w0.heap.size A q B d p).and (qO w0.heap.size C n c xs)::L) w':=Z.bk hb fun H=>H.so hb f k l
theorem Hr.tt {A1 A2 B1 B2 C1 C2:Option Addr} {p1 p2 q1 q2 r1 r2:Nat} {a b d:Mx×Mx} (Z:Hr S u gs w0 L w) (hb:Below w.heap.size w w') (f:OS w' w.heap.size A1 a.1.v.length p1 a.1.v/\OS w' w.heap.size A2 a.2.v.length p2 a.2.v) (k:OS w' w.heap.size B1 b.1.v.length q1 b.1.v/\OS w' w.heap.size B2 b.2.v.length q2 b.2.v) (l:OS w' w.heap.size C1 d.1.v.length r1 d.1.v/\OS w' w.heap.size C2 d.2.v.length r2 d.2.v) :
  Hr S u gs w0 ((qS w0.heap.size A1 p1 A2 p2 a).and ((qS w0.heap.size B1 q1 B2 q2 b).and (qS w0.heap.size C1 r1 C2 r2 d))::L) w':=Z.bk hb fun H=>H.tt hb f k l
theorem Hr.rf {α:Type} {E:Elt α} {ys:List α} {F:List Nat} (Z:Hr S u gs w0 L w) (hb:Below w.heap.size w w') (f:RI E w' A n q ys F) (k:Fr w' w.heap.size F):Hr S u gs w0 (qR E w0.heap.size A n q ys F::L) w':=Z.bk hb fun H=>H.rf hb f k
theorem Hr.ox {α:Type} {E:Elt α} {T:TypeId} {css:List (List Value)} {ys:List α} {F:List Nat} (Z:Hr S u gs w0 L w) (hb:Below w.heap.size w w') (f:OX E w' w.heap.size T A n q css ys F):Hr S u gs w0 (qX E w0.heap.size T A n q css ys F::L) w':=Z.bk hb fun H=>H.ox hb f
theorem Hr.f {α:Type} {E:Elt α} {ys:List α} {F:List Nat} (i:Nat) (Z:Hr S u gs w0 L w) (k:nth L i=some (qR E b A n q ys F):=by rfl):RI E w A n q ys F/\Fr w b F:=Z.H.f i k
theorem Hr.x {α:Type} {E:Elt α} {css:List (List Value)} {ys:List α} {F:List Nat} (i:Nat) (Z:Hr S u gs w0 L w) (k:nth L i=some (qX E b t A n q css ys F):=by rfl):OX E w b t A n q css ys F:=Z.H.x i k
theorem Hr.rs {B:Option Addr} {d:Nat} {p:Mx×Mx} (i:Nat) (Z:Hr S u gs w0 L w) (k:nth L i=some (qS b A q B d p):=by rfl):RS w (SMV p.1.r p.1.c A p.1.v.length q p.2.r p.2.c B p.2.v.length d) p:=Z.H.rs i k
end
end
theorem RS.m1 {w:World} {A B:Option Addr} {c d:Nat} {p:Mx×Mx} (h:RS w (SMV p.1.r p.1.c A p.1.v.length c p.2.r p.2.c B p.2.v.length d) p):RM w (MV p.1.r p.1.c A p.1.v.length c) p.1:=h.m12.1
theorem RS.m2 {w:World} {A B:Option Addr} {c d:Nat} {p:Mx×Mx} (h:RS w (SMV p.1.r p.1.c A p.1.v.length c p.2.r p.2.c B p.2.v.length d) p):RM w (MV p.2.r p.2.c B p.2.v.length d) p.2:=h.m12.2
theorem qS.a {w:World} {b:Nat} {A B:Option Addr} {c d:Nat} {p:Mx×Mx} (h:(qS b A c B d p).P w):OS w b A p.1.v.length c p.1.v:=h.1
theorem qS.b {w:World} {b:Nat} {A B:Option Addr} {c d:Nat} {p:Mx×Mx} (h:(qS b A c B d p).P w):OS w b B p.2.v.length d p.2.v:=h.2
theorem qS.m1 {w:World} {b:Nat} {A B:Option Addr} {c d:Nat} {p:Mx×Mx} (h:(qS b A c B d p).P w):RM w (MV p.1.r p.1.c A p.1.v.length c) p.1:=(qS.rs h).m1
theorem qS.m2 {w:World} {b:Nat} {A B:Option Addr} {c d:Nat} {p:Mx×Mx} (h:(qS b A c B d p).P w):RM w (MV p.2.r p.2.c B p.2.v.length d) p.2:=(qS.rs h).m2
theorem an2 {a b:Prop} (x:a) (y:b):a/\b:=⟨x,y⟩
theorem an4 {a b c d:Prop} (x:a) (y:b) (z:c) (u:d):a/\b/\c/\d:=⟨x,y,z,u⟩
theorem an6 {a b c d e f:Prop} (x:a) (y:b) (z:c) (u:d) (v:e) (p:f):a/\b/\c/\d/\e/\f:=⟨x,y,z,u,v,p⟩
theorem Sp.off:∀ {L:List Ow} {w:World} {i:Nat} {c:Ow} {M:List Ow},Rot i L c M->Sp L w->∀ g,c.F g->∀ d,d∈M->¬d.F g:=fun r s g hg d hd=>(r.sp s).1.2.1 g hg d hd
theorem zW {P Q T0:Prop} (c:T0) (k:Q) (h:T0->Wr Q->P:=by
  intro c q;intros;refine c.mono ?_;clear c;rintro e w' ⟨A,B,c,d,rfl,f,k,hb⟩;replace H:=H.ss hb f k;clear hb f k;have C:=H.C;simp only[aC0,aC1,aN0,aN1,fv,fz,FR,FU,DB,DA,cf0,cf1,Nat.zero_add,Nat.add_zero,Nat.reduceAdd,true_and,and_true,and_assoc] at C
  go_wp2_with fail
  (try simp only[Nat.add_assoc,Nat.reduceAdd])
  (first|apply nqC|apply nqW|apply nqL|apply nqE|apply nqF)
  ·repeat (with_reducible first|exact H|apply Hq.bs0|apply Hq.al|apply Hq.st|apply Hq.sk)
   all_goals (try first|(simp only[World.size_alloc,World.size_setCell,World.size_drew,Nat.add_assoc,Nat.reduceAdd];done)|(simp only[World.size_alloc,World.size_setCell,World.size_drew,Nat.add_assoc,Nat.reduceAdd];exact rfl)|exact rfl)
   all_goals (repeat (with_reducible first|exact gv.z0|apply gv.s0|apply Upd.h0|apply Upd.o0|apply Upd.t0))
  intro u Hn
  (try clear H)
  clear C
  repeat (revert ‹Act->World->Prop›;have zz:=q;clear zz)
  revert A B c d w' u Hn
  exact q.o):P:=h c ⟨k⟩
theorem yW {P Q T0:Prop} (c:T0) (k:Q) (h:T0->Wr Q->P:=by
  intro c q;intros
  repeat (first|(refine lc' ?_;intro K hK;go_big_quiet_op;go_big_quiet_on)|refine lk' ?_)
  refine lo' fun K hK=>?_
  unfold Oper.gives
  go_simp
  refine c.mono ?_;rintro e w' ⟨A,B,c,d,rfl,f,k,hb⟩;replace H:=H.ss hb f k;refine lx' H hK ?_;clear hK K;clear hb f k
  repeat (revert ‹Act->World->Prop›;have zz:=q;clear zz)
  revert A B c d w' H
  exact q.o):P:=h c ⟨k⟩
theorem fW {P Q T0:Prop} (c:T0) (k:Q) (h:T0->Wr Q->P:=by
  intro c q;intros
  repeat (first|(refine lE ?_;intro K hK;go_big_quiet_op;go_big_quiet_on)|refine lG ?_)
  refine oU fun w1 hb K hK=>?_
  unfold Oper.gives
  go_simp
  refine(c w1 hb).mono ?_;replace H:=H.b hb;clear hb c;rintro e w' ⟨A,B,c,d,rfl,f,k,hb⟩;replace H:=H.ss hb f k;refine xZ H hb hK ?_;clear hK K;clear hb f k
  repeat (revert ‹Act->World->Prop›;have zz:=q;clear zz)
  revert A B c d w' H
  exact q.o):P:=h c ⟨k⟩
theorem zV {P Q T0:Prop} (c:T0) (k:Q) (h:T0->Wr Q->P:=by
  intro c q;intros;refine c.mono ?_;clear c;rintro e w' ⟨A,B,D,E,a,b,d,e,rfl,f,k,l,m,hb⟩;replace H:=H.soo hb f k l m;clear hb f k l m;have C:=H.C;simp only[aC0,aC1,aN0,aN1,fv,fz,FR,FU,DB,DA,cf0,cf1,Nat.zero_add,Nat.add_zero,Nat.reduceAdd,true_and,and_true,and_assoc] at C
  go_wp2_with fail
  (try simp only[Nat.add_assoc,Nat.reduceAdd])
  (first|apply nqC|apply nqW|apply nqL|apply nqE|apply nqF)
  ·repeat (with_reducible first|exact H|apply Hq.bs0|apply Hq.al|apply Hq.st|apply Hq.sk)
   all_goals (try first|(simp only[World.size_alloc,World.size_setCell,World.size_drew,Nat.add_assoc,Nat.reduceAdd];done)|(simp only[World.size_alloc,World.size_setCell,World.size_drew,Nat.add_assoc,Nat.reduceAdd];exact rfl)|exact rfl)
   all_goals (repeat (with_reducible first|exact gv.z0|apply gv.s0|apply Upd.h0|apply Upd.o0|apply Upd.t0))
  intro u Hn
  (try clear H)
  clear C
  repeat (revert ‹Act->World->Prop›;have zz:=q;clear zz)
  revert A B D E a b d e w' u Hn
  exact q.o):P:=h c ⟨k⟩
theorem zI {P Q T0:Prop} (c:T0) (k:Q) (h:T0->Wr Q->P:=by
  intro c q;intros;refine c.mono ?_;clear c;rintro e w' ⟨A,c,F,rfl,f,k,hb⟩;replace H:=H.rf hb f k;clear hb f k;have C:=H.C;simp only[aC0,aC1,aN0,aN1,fv,fz,FR,FU,DB,DA,cf0,cf1,Nat.zero_add,Nat.add_zero,Nat.reduceAdd,true_and,and_true,and_assoc] at C
  go_wp2_with fail
  (try simp only[Nat.add_assoc,Nat.reduceAdd])
  (first|apply nqC|apply nqW|apply nqL|apply nqE|apply nqF)
  ·repeat (with_reducible first|exact H|apply Hq.bs0|apply Hq.al|apply Hq.st|apply Hq.sk)
   all_goals (try first|(simp only[World.size_alloc,World.size_setCell,World.size_drew,Nat.add_assoc,Nat.reduceAdd];done)|(simp only[World.size_alloc,World.size_setCell,World.size_drew,Nat.add_assoc,Nat.reduceAdd];exact rfl)|exact rfl)
   all_goals (repeat (with_reducible first|exact gv.z0|apply gv.s0|apply Upd.h0|apply Upd.o0|apply Upd.t0))
  intro u Hn
  (try clear H)
  clear C
  repeat (revert ‹Act->World->Prop›;have zz:=q;clear zz)
  revert A c F w' u Hn
  exact q.o):P:=h c ⟨k⟩
end
structure TOK (a b c:Mx×Mx):Prop where
 va:okS a=true
 vb:okS b=true
 vc:okS c=true
 vab:a.1.c=b.1.r
 vm:aq c=mulM (aq a) (aq b)
theorem cS {s:Int} (h:sdB s=true) (n:Nat):sdB (sds s n)=true:=decide_eq_true (lO (dH h) n)
section
attribute [local go_sem] af ah ae
theorem b8 {r c s:Int} (hr:side r=true) (hc:side c=true) (hs:sdB s=true) (w:World):Calls prog 167 #[.int .i64 r,.int .i64 c,.int .i64 s] w (ij (cT r c s) (sds s (nm r c)) w):=by
 obtain⟨n,hnm⟩:∃ n,n=nm r c:=⟨_,rfl⟩;have hm:=e6 hr hc;have HM:Hid (cT r c s=⟨r,c,fl (rn s) n⟩):=by rw[hnm];exact rfl
 have hn:n<=4096:=by rw[hnm];unfold nm;omega
 have q:IntKind.i64.wrap (r*c)=(n:Int):=gN (by rw[hnm];unfold nm;omega) (by omega)
 rw[<-hnm];have HR:=Qh hr;have HC:=Qh hc;have HS:=Qh (dH hs);clear hm hr hc hs hnm;refine zE ?_;intro u1 H;refine zP (dj HR.out u1) ?_;clear H;intro u2 H;refine zP (dj HC.out u2) ?_;clear H;intro u3 H;refine zP (aU HS.out u3) ?_;clear H;intro u4 H;refine zO (ff HS.out n hn u4) ?_;clear H;intro w5 A c' u5 H;refine zS_ ?_;clear H;intro u6 H
 exact⟨A,c',by rw[HM.out,aD];rfl,by rw[HM.out];dsimp only;rw[aD];exact(H.o 0),H.O⟩
def tI (p:Mx×Mx) (k:Int) (w:World) (e:Ending) (w':World):Prop:=∃ (A B:Option Addr) (c d:Nat),e= .returned (.tuple #[SMV p.1.r p.1.c A p.1.v.length c p.2.r p.2.c B p.2.v.length d,.int .i64 k])/\OS w' w.heap.size A p.1.v.length c p.1.v/\OS w' w.heap.size B p.2.v.length d p.2.v/\eJ A B/\Below w.heap.size w w'
theorem nO {m:Mx} (h:mvB m=true) (s:Int):az m (cT m.r m.c s)=true:=aY h (bU (aA h).1 (aA h).2) rfl rfl
theorem e8 {m:Mx} {s:Int} (hm:mvB m=true) (hs:sdB s=true) {x:Value} (w:World) (hx:RM w x m):Calls prog 125 #[x,.int .i64 s] w (tI (cH m s).1 (cH m s).2 w):=by
 rw[lS hm hs];obtain⟨A,c,rfl,h1,h2,h3⟩:=hx;have HX:=Qh (RM.mk h1 h2 h3);have HM:=Qh hm;have HD:=Qh hs;have HS:=Qh (dH hs);have HR:=Qh (aA hm).1;have HC:=Qh (aA hm).2;have HL:=Qh (nO hm s);clear h1 h2 h3 hm hs;refine zE ?_;intro u1 H;refine zB (Cz HM.out u1 (RM.below HX.out H.O)) ?_;clear H;intro w2 u2 H;refine zP (aU HS.out u2) ?_;clear H;intro u3 H;refine zO (b8 HR.out HC.out HD.out u3) ?_;clear H;intro w4 B d u4 H;refine zX (tg [w4.heap.size,w.heap.size]) ?_;clear H;intro S w5 hne H;refine zD ((And.intro (H.c 0) (H.c 3))) ?_;intro G;refine yO (tY HL.out w5 (RM.below HX.out H.O) (RM.aB (H.o 1))) ?_;clear H;intro w6 Ca e' H;refine yS ?_;clear H;intro w7 H;refine yN ?_;clear H G;intro u8 H;refine zS_ ?_;clear H;intro u9 H
 exact⟨B,Ca,d,e',rfl,(H.o 2),(H.o 0),fun i hi hi'=>H.noo 0 2 i hi' hi,H.O⟩
def MTV (a b c:Mx×Mx) (A1 A2 B1 B2 C1 C2:Option Addr) (p1 p2 q1 q2 r1 r2:Nat):Value:= .agg #[.int .i64 a.1.r,.int .i64 a.1.c,.slice A1 a.1.v.length p1,.int .i64 a.2.r,.int .i64 a.2.c,.slice A2 a.2.v.length p2,.int .i64 b.1.r,.int .i64 b.1.c,.slice B1 b.1.v.length q1,.int .i64 b.2.r,.int .i64 b.2.c,.slice B2 b.2.v.length q2,.int .i64 c.1.r,.int .i64 c.1.c,.slice C1 c.1.v.length r1,.int .i64 c.2.r,.int .i64 c.2.c,.slice C2 c.2.v.length r2]
def RT (w:World) (v:Value) (a b c:Mx×Mx):Prop:=∃ A1 A2 B1 B2 C1 C2 p1 p2 q1 q2 r1 r2,v=MTV a b c A1 A2 B1 B2 C1 C2 p1 p2 q1 q2 r1 r2/\RS w (SMV a.1.r a.1.c A1 a.1.v.length p1 a.2.r a.2.c A2 a.2.v.length p2) a/\RS w (SMV b.1.r b.1.c B1 b.1.v.length q1 b.2.r b.2.c B2 b.2.v.length q2) b/\RS w (SMV c.1.r c.1.c C1 c.1.v.length r1 c.2.r c.2.c C2 c.2.v.length r2) c
theorem RT.below {w w':World} {v:Value} {a b c:Mx×Mx} (h:RT w v a b c) (hb:Below w.heap.size w w'):RT w' v a b c:=by
 obtain⟨A1,A2,B1,B2,C1,C2,p1,p2,q1,q2,r1,r2,e,h1,h2,h3⟩:=h
 exact⟨A1,A2,B1,B2,C1,C2,p1,p2,q1,q2,r1,r2,e,h1.below hb,h2.below hb,h3.below hb⟩
theorem eZ {a b:Mx×Mx} (ha:okS a=true) (hb:okS b=true) (h:a.1.c=b.1.r):iz (aq a) (aq b)=true:=by
 obtain⟨h1,_,h2⟩:=aN ha;obtain⟨h3,h4,_⟩:=aN hb
 exact jd h1 h3 (by rw[h2,h4,h])
theorem nw {a b c:Mx×Mx} (h1:okS a=true) (h2:okS b=true) (h3:a.1.c=b.1.r) {x:Value} (w:World) (ht:RT w x a b c):Calls prog 293 #[x] w (bD (mulM (aq a) (aq b)) w):=by
 obtain⟨A1,A2,B1,B2,C1,C2,p1,p2,q1,q2,r1,r2,rfl,ha,hb,hc⟩:=ht;unfold MTV;have HA:=Qh h1;have HB:=Qh h2;have HM:=Qh (eZ h1 h2 h3);have HX:=Qh ha;have HY:=Qh hb;clear h1 h2 h3 ha hb hc;refine zE ?_;intro u1 H;refine zX (tg [w.heap.size]) ?_;clear H;intro S w2 hne H;refine zD (H.c 1) ?_;intro G;refine yO (iJ HA.out w2 (RS.below HX.out H.O)) ?_;clear H;intro w3 P cP H;refine yO (iJ HB.out w3 (RS.below HY.out H.O)) ?_;clear H;intro w4 Q cQ H;refine yO (pg HM.out w4 (RM.aB (H.o 1)) (RM.aB (H.o 0))) ?_;clear H;intro w5 Z cR H;refine yS ?_;clear H;intro w6 H;refine yN ?_;clear H G;intro u7 H;refine zS_ ?_;clear H;intro u8 H
 exact⟨Z,cR,rfl,(H.o 0),H.O⟩
end
end Go.Proofs.YtjciicheoghcdaaGreatDoor

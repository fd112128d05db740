/- Part of the proof: the law FnServiceRun is true for every input. -/
import Derived.BigQuiet
import Derived.BigRegionIn
import Derived.Deep.QuietTactic
import Derived.Deep.RegionHeld3
import Derived.LoopIn
import Derived.LoopNIn
import Derived.Maps.AppendAt
import Derived.OwnWalkIn
import Derived.RangeFuncBound
import Derived.RangeFuncBox
import Derived.RangeFuncCalls
import Derived.RangeFuncLeaves
import Derived.RangeFuncNested
import Derived.Shelf.Abstract
import Derived.Shelf.RegionOpen
import Derived.TacticsInMore
import Derived.WalkKit
import Derived.Test.YtjciicheoghcdaaGreatDoorVa
import Derived.Test.YtjciicheoghcdaaGreatDoorVf
import Derived.Test.YtjciicheoghcdaaGreatDoorVh
import Derived.Test.YtjciicheoghcdaaGreatDoorVk
namespace Go.Proofs.YtjciicheoghcdaaGreatDoor
open Go.RowKit Go.Proofs.Tryz
set_option linter.all false
set_option maxRecDepth 20000
set_option maxHeartbeats 16000000
theorem toN {r:Int} (h:1<=r/\r<=5):∃ n:Nat,r=(n:Int)/\1<=n/\n<=5:=⟨r.toNat,by omega,by omega,by omega⟩
theorem e9 {r k ar ac:Nat} (hr:r<ar) (hk:k<ac):r*ac+k<ar*ac:=by
 have:(r+1)*ac<=ar*ac:=Nat.mul_le_mul_right _ hr;rw[Nat.succ_mul] at this
 omega
theorem ub {r c k n:Nat} (h:r*c+k<n) (hn:n<=25):∃ i:Nat,r*c=i/\IntKind.i64.wrap ((r:Int)*(c:Int))=(i:Int)/\IntKind.i64.wrap ((i:Int)+(k:Int))=(i:Int)+(k:Int)/\((i:Int)+(k:Int)).toNat=i+k/\(i:Int)+(k:Int)<(n:Int)/\(0:Int)<=(i:Int)+(k:Int):=by
 refine⟨r*c,rfl,?_⟩;obtain⟨i,hi⟩:∃ i,i=r*c:=⟨_,rfl⟩;have e:(r:Int)*(c:Int)=(i:Int):=by rw[hi];push_cast;rfl
 rw[<-hi] at h ⊢;rw[e]
 exact⟨IntWalk.i64_in _ (by omega),IntWalk.i64_in _ (by omega),by omega,by omega,by omega⟩
theorem mP {r n q:Nat} (h:q<n):(r*n+q)/n=r/\(r*n+q)%n=q:=by
 rw[Nat.mul_comm]
 exact⟨by rw[Nat.mul_add_div (by omega),Nat.div_eq_of_lt h,Nat.add_zero],by rw[Nat.mul_add_mod,Nat.mod_eq_of_lt h]⟩
theorem vY {r q a b:Nat} (h:r*b+q<a*b) (ha:a<=5) (hb:b<=5):r*b+q<25:=Nat.lt_of_lt_of_le h (Nat.mul_le_mul ha hb)
theorem mJ (a b:Mx) (h:iz a b=true) (A1 A2:Option Addr) (p1 p2:Nat) (w:World) (hx0:SI w A1 a.v.length a.v) (hy0:SI w A2 b.v.length b.v) :
  Calls prog 259 #[MV a.r a.c A1 a.v.length p1,MV b.r b.c A2 b.v.length p2] w (bD (mulM a b) w):=by
 have hab:mvB a=true/\mvB b=true/\a.c=b.r:=by
  unfold iz at h;simp only[Bool.and_eq_true,decide_eq_true_eq] at h
  exact⟨h.1,h.2.1,h.2.2⟩
 obtain⟨ha,hb,hc⟩:=hab;have h5:=ta h;obtain⟨ar,ac,v1⟩:=a;obtain⟨br,bc,v2⟩:=b
 dsimp only at hc hx0 hy0 ⊢
 obtain⟨la,sar,sac,_⟩:=cZ ha
 dsimp only at la sar sac
 obtain⟨r1,rfl,r11,r12⟩:=toN (bI sar);obtain⟨c1,rfl,c11,c12⟩:=toN (bI sac);have la':v1.length=r1*c1:=by exact_mod_cast la
 obtain⟨lb,sbr,sbc,_⟩:=cZ hb
 dsimp only at lb sbr sbc
 obtain⟨c2,rfl,c21,c22⟩:=toN (bI sbc);subst hc;have lb':v2.length=c1*c2:=by exact_mod_cast lb
 have hla:v1.length<=25:=by rw[la'];exact Nat.mul_le_mul r12 c12
 have pla:0<v1.length:=by rw[la'];exact Nat.mul_pos r11 c11
 have hlX:v1.length<=1048576:=by omega
 have HX:=Qh hx0;have MX:=Qh ha;have LX:=Qh la';have hlb:v2.length<=25:=by rw[lb'];exact Nat.mul_le_mul c12 c22
 have plb:0<v2.length:=by rw[lb'];exact Nat.mul_pos c11 c21
 have hlY:v2.length<=1048576:=by omega
 have HY:=Qh hy0;have MY:=Qh hb;have LY:=Qh lb';obtain⟨F,hF⟩:∃ F:Nat->Int,F=fun i=>gx ⟨(r1:Int),(c1:Int),v1⟩ ⟨(c1:Int),(c2:Int),v2⟩ c1 c2 (i/c2) (i%c2) c1%4096:=⟨_,rfl⟩
 have HM:Hid (mulM ⟨(r1:Int),(c1:Int),v1⟩ ⟨(c1:Int),(c2:Int),v2⟩=⟨(r1:Int),(c2:Int),fl F (r1*c2)⟩):=by rw[hF];exact h5
 have HF:Hid (∀ r q,q<c2->gx ⟨(r1:Int),(c1:Int),v1⟩ ⟨(c1:Int),(c2:Int),v2⟩ c1 c2 r q c1%4096=F (r*c2+q)):=by
  intro r q h;rw[hF]
  dsimp only
  rw[(mP h).1,(mP h).2]
 clear la la' lb lb' sar sac sbr sbc hx0 hy0 ha hb hF h h5;refine zE ?_;intro u1 H;refine zG (aQ (r1:Int) (c1:Int) v1 A1 _ p1 u1 (SI.below HX.out H.O) hlX) ?_;rintro e w2 ⟨AX,cX,rfl,hos,hb⟩;replace H:=H.os hb hos
 dsimp only at H ⊢
 refine zN ?_;clear H;intro u3 H;refine zG (aQ (c1:Int) (c2:Int) v2 A2 _ p2 u3 (SI.below HY.out H.O) hlY) ?_;rintro e w4 ⟨AY,cY,rfl,hos,hb⟩;replace H:=H.os hb hos
 dsimp only at H ⊢
 refine zN ?_;clear H;intro u5 H;refine zB ((show Calls prog 89 #[_] u5 (fun e w'=>e= .returned (.bool true)/\Below u5.heap.size u5 w') from(show mvB ⟨(r1:Int),(c1:Int),v1⟩=true from MX.out) ▸ aM (r1:Int) (c1:Int) v1 AX _ cX u5 (OS.si (H.o 1)) (by omega))) ?_;clear H;intro w6 u6 H
 refine zB ((show Calls prog 89 #[_] u6 (fun e w'=>e= .returned (.bool true)/\Below u6.heap.size u6 w') from(show mvB ⟨(c1:Int),(c2:Int),v2⟩=true from MY.out) ▸ aM (c1:Int) (c2:Int) v2 AY _ cY u6 (OS.si (H.o 0)) (by omega))) ?_;clear H;intro w7 u7 H
 replace H:=H.nil;obtain⟨gT,hgT⟩:∃ g,g=w7.heap.size:=⟨_,rfl⟩;rw[<-hgT] at H ⊢;clear hgT;obtain⟨gX,rfl,_,_⟩:=(H.o 3).pos (by omega)
 obtain⟨gY,rfl,_,_⟩:=(H.o 2).pos (by omega)
 intros
 go_loopw [6] (fun i wr=>∃ (r J c':Nat) (A':Option Addr),r<=r1/\i= .int .i64 r/\J=r*c2/\Hid (Hq w [qO w.heap.size A' J c' (fl F J),qB gT 37 [.int .i64 (r1:Int),.int .i64 (c2:Int),.slice A' J c'],qO w.heap.size (some ⟨gY,0,none⟩) v2.length cY v2,qO w.heap.size (some ⟨gX,0,none⟩) v1.length cX v1,qB (w.heap.size+2) 37 [.int .i64 0,.int .i64 0,.slice none 0 0],qB (w.heap.size+1) 37 [.int .i64 (c1:Int),.int .i64 (c2:Int),.slice (some ⟨gY,0,none⟩) v2.length cY],qB w.heap.size 37 [.int .i64 (r1:Int),.int .i64 (c1:Int),.slice (some ⟨gX,0,none⟩) v1.length cX]] wr)) (fun i _=>r1-(intOf i).toNat)
 case atStart=>exact⟨0,0,0,none,Nat.zero_le _,rfl,by omega,H⟩
 case round =>
 clear H;obtain⟨r,J,c',A',hr,rfl,hJ,H⟩:=hrel;have HJ:=Qh hJ;clear hJ;have H:=H.out
 by_cases hlt:r<r1
 ·refine zN ?_;clear H;intro u H;intros
  go_loopw [7] (fun i wr=>∃ (p J c':Nat) (A':Option Addr),p<=c2/\i= .int .i64 p/\J=r*c2+p/\Hid (Hq w [qO w.heap.size A' J c' (fl F J),qB gT 37 [.int .i64 (r1:Int),.int .i64 (c2:Int),.slice A' J c'],qO w.heap.size (some ⟨gY,0,none⟩) v2.length cY v2,qO w.heap.size (some ⟨gX,0,none⟩) v1.length cX v1,qB (w.heap.size+2) 37 [.int .i64 0,.int .i64 0,.slice none 0 0],qB (w.heap.size+1) 37 [.int .i64 (c1:Int),.int .i64 (c2:Int),.slice (some ⟨gY,0,none⟩) v2.length cY],qB w.heap.size 37 [.int .i64 (r1:Int),.int .i64 (c1:Int),.slice (some ⟨gX,0,none⟩) v1.length cX]] wr)) (fun i _=>c2-(intOf i).toNat)
  case atStart=>exact⟨0,J,c',A',Nat.zero_le _,rfl,by have:=HJ.out;omega,H⟩
  case round =>
  clear H;obtain⟨p,J,c',A',hp,rfl,hJ,H⟩:=hrel;have HJ:=Qh hJ;clear hJ;have H:=H.out
  by_cases hpc:p<c2
  ·have J25:J<25:=by rw[HJ.out];exact vY (e9 hlt hpc) r12 c22
   refine zN ?_;clear H;intro u H;intros
   go_loopw [8,9] (fun v i wr=>∃ k:Nat,k<=c1/\i= .int .i64 k/\v= .int .i64 (gx ⟨(r1:Int),(c1:Int),v1⟩ ⟨(c1:Int),(c2:Int),v2⟩ c1 c2 r p k)/\Hid (Hq w [qO w.heap.size A' J c' (fl F J),qB gT 37 [.int .i64 (r1:Int),.int .i64 (c2:Int),.slice A' J c'],qO w.heap.size (some ⟨gY,0,none⟩) v2.length cY v2,qO w.heap.size (some ⟨gX,0,none⟩) v1.length cX v1,qB (w.heap.size+2) 37 [.int .i64 0,.int .i64 0,.slice none 0 0],qB (w.heap.size+1) 37 [.int .i64 (c1:Int),.int .i64 (c2:Int),.slice (some ⟨gY,0,none⟩) v2.length cY],qB w.heap.size 37 [.int .i64 (r1:Int),.int .i64 (c1:Int),.slice (some ⟨gX,0,none⟩) v1.length cX]] wr)) (fun _ i _=>c1-(intOf i).toNat)
   case atStart=>exact⟨0,Nat.zero_le _,rfl,rfl,H⟩
   case round =>
   clear H;obtain⟨k,hk,rfl,rfl,H⟩:=hrel;have H:=H.out
   by_cases hkc:k<c1
   ·have hi1:r*c1+k<v1.length:=by rw[LX.out];exact e9 hlt hkc
    have hi2:k*c2+p<v2.length:=by rw[LY.out];exact e9 hkc hpc
    obtain⟨x0,x1⟩:=dE MX.out (r*c1+k);obtain⟨y0,y1⟩:=dE MY.out (k*c2+p);obtain⟨s0,s1⟩:=jD MX.out MY.out c1 c2 r p k
    dsimp only at x0 x1 y0 y1
    have HDS:Hid (gx ⟨(r1:Int),(c1:Int),v1⟩ ⟨(c1:Int),(c2:Int),v2⟩ c1 c2 r p (k+1)=gx ⟨(r1:Int),(c1:Int),v1⟩ ⟨(c1:Int),(c2:Int),v2⟩ c1 c2 r p k+v1.getD (r*c1+k) 0*v2.getD (k*c2+p) 0):=rfl;obtain⟨i1,hi1e,m1,w1,t1,j1,j2⟩:=ub hi1 hla;obtain⟨i2,hi2e,m2,w2,t2,j3,j4⟩:=ub hi2 hlb;rw[hi1e] at hi1 x0 x1 HDS;rw[hi2e] at hi2 y0 y1 HDS;clear hi1e hi2e;obtain⟨s,hs⟩:∃ s,s=gx ⟨(r1:Int),(c1:Int),v1⟩ ⟨(c1:Int),(c2:Int),v2⟩ c1 c2 r p k:=⟨_,rfl⟩;have Es:=Qh hs;obtain⟨x,hx⟩:∃ x,x=v1.getD (i1+k) 0:=⟨_,rfl⟩;have Ex:=Qh hx;obtain⟨y,hy⟩:∃ y,y=v2.getD (i2+p) 0:=⟨_,rfl⟩;have Ey:=Qh hy;rw[<-hs,<-hx,<-hy] at HDS;rw[<-hs] at s0 s1 ⊢;rw[<-hx] at x0 x1;rw[<-hy] at y0 y1;clear hs hx hy Es;have hxy:x*y<=4095*4095:=Int.mul_le_mul x1 y1 y0 (by omega)
    have hxy0:=Int.mul_nonneg x0 y0;have hk5:(k:Int)<=5:=by omega
    have hs5:s<=100000000:=by omega
    have w3:=IntWalk.i64_in (x*y) (by omega)
    have w4:=IntWalk.i64_in (s+x*y) (by omega)
    refine zC ?_;intro C;intros;go_upto_region 16 with fail;refine zM ?_;clear H C;intro u21 H;have ezX:=(a7 (H.o 3) hi1).1;have ezY:=(a7 (H.o 2) hi2).1;refine zX (tg [(w.heap.size+1),w.heap.size,gX,gY]) ?_;clear H;intro S w22 hne H;refine zD ((And.intro (H.c 5) (H.c 6))) ?_;intro G;have rX:=(a7 (H.o 3) hi1).2.1;rw[<-Ex.out] at rX;replace rX:=H.row rX;have rY:=(a7 (H.o 2) hi2).2.1;rw[<-Ey.out] at rY;replace rY:=H.row rY;intros
    repeat (first|(refine lc' ?_;intro K hK;go_big_quiet_op;go_big_quiet_on)|refine lk' ?_)
    refine aI ?_;replace H:=H.H;clear G;replace H:=(((((((H.r 6).r 6).r 6).r 6).r 6).r 6).r 6);refine zC ?_;intro C;intros;go_wp2
    go_roundw
    case rel=>exact⟨k+1,by omega,by go_num,by rw[HDS.out],H⟩
    case measure=>simp[intOf];omega
   ·obtain rfl:k=c1:=by omega
    obtain⟨s,hs⟩:∃ s,s=gx ⟨(r1:Int),(k:Int),v1⟩ ⟨(k:Int),(c2:Int),v2⟩ k c2 r p k:=⟨_,rfl⟩;have Es:=Qh hs;have HFJ:=HF.out r p hpc;rw[<-hs,<-HJ.out] at HFJ;rw[<-hs];obtain⟨v,hv⟩:∃ v,v=s%4096:=⟨_,rfl⟩;rw[<-hv] at HFJ;have HRG:Hid (∀ W:World,Calls prog 132 #[.int .i64 s] W fun e w'=>e= .returned (.int .i64 v)/\W=w'):=by rw[hv];exact fun W=>bG s W
    have HS:Hid (fl F J++[v]=fl F (J+1)):=by rw[HFJ];exact(dd F J).symm
    clear hv HFJ hs Es;refine zC ?_;intro C;intros;go_upto_region 17 with fail;refine zM ?_;clear H C;intro u51 H;refine zXZ (tg [gT]) ?_;clear H;intro S w52 hne H;refine zD (H.c 1) ?_;intro G;refine yP (HRG.out w52) ?_;refine yM ?_;clear H;intro w53 H;replace H:=H.r 1;refine yA (dQ (H.k 1)) True.intro ?_;clear H;intro C1 k1 w54 H;intros;refine zCr ?_;intro C;intros
    repeat (first|(refine lc' ?_;intro K hK;go_big_quiet_op;go_big_quiet_on)|refine lk' ?_)
    refine aV rfl (by rfl) (by rfl) (fun K hK=>?_)
    unfold Oper.gives
    go_simp
    refine hK _ _ ?_;replace H:=H.H;refine aI ?_;clear C G;replace H:=((((((((H.d 1).r 6).r 6).r 6).r 6).r 6).r 6).r 6);refine zC ?_;intro C;intros;go_wp2
    go_roundw
    case rel=>exact⟨p+1,J+1,k1,C1,by omega,by go_num,by have:=HJ.out;omega,(by rw[HS.out] at H;exact(Qh hq))⟩
    case measure=>simp[intOf];omega
  ·obtain rfl:p=c2:=by omega
   replace H:=(((((((H.r 6).r 6).r 6).r 6).r 6).r 6).r 6);refine zC ?_;intro C;intros;go_wp2
   go_roundw
   case rel=>exact⟨r+1,J,c',A',by omega,by go_num,by rw[Nat.succ_mul];have:=HJ.out;omega,H⟩
   case measure=>simp[intOf];omega
 ·obtain rfl:r=r1:=by omega
  refine zS_ ?_;clear H;intro u91 H
  exact(by rw[HM.out,<-HJ.out];exact⟨A',c',by dsimp only;rw[aD],by dsimp only;rw[aD];exact(H.o 0),H.O⟩)
section
attribute [local go_sem] af ah ae
theorem gN {x:Int} {n:Nat} (h:x=(n:Int)) (hn:n<=4611686018427387904):IntKind.i64.wrap x=(n:Int):=by
 rw[h];exact IntWalk.i64_in _ (by omega)
theorem B8 {u v:Value} (h:u=v):Ending.returned u=Ending.returned v:=congrArg _ h
theorem dT {n:Nat} {f f':Nat->Int} (h:∀ k,k<n->f k=f' k):fl f n=fl f' n:=by
 unfold fl
 exact List.map_congr_left fun k hk=>h k (List.mem_range.1 hk)
theorem j6 (n:Nat) (x:Int):fl (fun _=>x) n=List.replicate n x:=by
 unfold fl;apply List.ext_getElem <;> simp
theorem Bx (f:Nat->Int) {n k:Nat} (h:k<n):(fl f n).getD k 0=f k:=by simp[fl,h]
theorem nS {m:Mx} (h:mvB m=true):∃ (r c:Nat) (v:List Int),m=⟨(r:Int),(c:Int),v⟩/\1<=r/\r<=5/\1<=c/\c<=5/\v.length=r*c/\v.length<=25:=by
 obtain⟨r,c,v⟩:=m;obtain⟨h1,h2,h3,_⟩:=cZ h;have h25:=(dy h).2;obtain⟨a1,a2⟩:=bI h2;obtain⟨b1,b2⟩:=bI h3
 dsimp only at *
 obtain⟨r,rfl⟩:=Int.eq_ofNat_of_zero_le (by omega:0<=r)
 obtain⟨c,rfl⟩:=Int.eq_ofNat_of_zero_le (by omega:0<=c)
 exact⟨r,c,v,rfl,by omega,by omega,by omega,by omega,by exact_mod_cast h1,h25⟩
theorem kR {w w':World} {B b off n i:Nat} {v:List Int} (h:SI w (some ⟨b,off,none⟩) n v) (hb:Below B w w') (hB:w.heap.size<=B) (hi:i<n):w'.cell? ⟨b,off+i,none⟩=some (.int .i64 (v.getD i 0)):=by
 obtain⟨b',off',e,hl,hc⟩:=(SI.below h (hb.mono hB)).2 (by omega)
 injection e with e;injection e with e1 e2;subst e1 e2
 exact hc i hi
theorem pW {n i:Nat} {f f':Nat->Int} {v:Int} (hi:i<n) (hf:∀ k,k<n->f' k=if k=i then v else f k):fl f' n=(fl f n).set i v:=by
 apply List.ext_getElem
 ·simp[aD]
 ·intro k hk _;have hk':k<n:=by simpa [aD] using hk
  rw[List.getElem_set];simp only[fl,List.getElem_map,List.getElem_range];rw[hf k hk']
  by_cases hik:i=k
  ·subst hik;simp
  ·simp[hik,Ne.symm hik]
theorem qj {r c k n:Nat} (hk:k<r) (hr:r<=5) (hc:1<=c/\c<=5) (hn:n=r*c) {b off cap:Nat} (hcap:n<=cap) (hm:cap<=maxLen) (w:World) :
  Calls prog 58 #[MV (r:Int) (c:Int) (some ⟨b,off,none⟩) n cap,.int .i64 (k:Int)] w fun e w'=>e= .returned (.slice (some ⟨b,off+k*c,none⟩) c (cap-k*c))/\Below w.heap.size w w':=by
 obtain⟨i1,h1⟩:∃ i1,i1=k*c:=⟨_,rfl⟩;obtain⟨i2,h2⟩:∃ i2,i2=(k+1)*c:=⟨_,rfl⟩;have l2:i2=i1+c:=by rw[h1,h2,Nat.succ_mul]
 have l3:i2<=n:=by rw[h2,hn];exact Nat.mul_le_mul_right c hk
 have l4:n<=25:=by rw[hn];exact Nat.mul_le_mul hr hc.2
 have e1:IntKind.i64.wrap ((k:Int)*(c:Int))=(i1:Int):=gN (by rw[h1];push_cast;rfl) (by omega)
 have e2:IntKind.i64.wrap (((k:Int)+1)*(c:Int))=(i2:Int):=gN (by rw[h2];push_cast;rfl) (by omega)
 have HE:Hid (Value.slice (some ⟨b,off+i1,none⟩) (i1+c-i1) (cap-i1)=Value.slice (some ⟨b,off+k*c,none⟩) c (cap-k*c)):=by
  show Value.slice (some ⟨b,off+i1,none⟩) (i1+c-i1) (cap-i1)=Value.slice (some ⟨b,off+k*c,none⟩) c (cap-k*c)
  rw[<-h1,show i1+c-i1=c by omega]
 have b1:(0:Int)<=(i1:Int):=by omega
 have b2:(i1:Int)<=(i2:Int):=by omega
 have b3:(i2:Int)<=(cap:Int):=by omega
 have b4:¬cap=i1:=by omega
 have b5:(0:Int)<=(i2:Int):=by omega
 clear h1 h2 hn
 go_enter func58,ntmps58
 go_wp2
 go_ret
 exact⟨B8 HE.out,(Qb.alloc Ql _)⟩
theorem uQ {r c k yq n:Nat} (hk:k<r) (hr:r<=5) (hq:yq<c) (hc:c<=5) (hn:n=r*c) {b off cap:Nat} {v:List Int} (w:World) (hv:SI w (some ⟨b,off,none⟩) n v) :
  Calls prog 302 #[MV (r:Int) (c:Int) (some ⟨b,off,none⟩) n cap,.int .i64 (k:Int),.int .i64 (yq:Int)] w fun e w'=>e= .returned (.int .i64 (v.getD (k*c+yq) 0))/\Below w.heap.size w w':=by
 have hi:k*c+yq<n:=by rw[hn];exact e9 hk hq
 have l4:n<=25:=by rw[hn];exact Nat.mul_le_mul hr hc
 have cx:=kR hv (Below.refl w.heap.size w) Ql hi;have hb:b<w.heap.size:=by
  obtain⟨b',off',e,hl,_⟩:=hv.2 (by omega)
  injection e with e;injection e with e1 e2;subst e1;exact hl
 obtain⟨i1,h1⟩:∃ i1,i1=k*c:=⟨_,rfl⟩;have e1:IntKind.i64.wrap ((k:Int)*(c:Int))=(i1:Int):=gN (by rw[h1];push_cast;rfl) (by omega)
 rw[<-h1] at hi cx;have b1:(0:Int)<=(i1:Int)+(yq:Int):=by omega
 have b2:(i1:Int)+(yq:Int)<(n:Int):=by omega
 have b3:((i1:Int)+(yq:Int)).toNat=i1+yq:=by omega
 have b4:=IntWalk.i64_in ((i1:Int)+(yq:Int)) (by omega)
 rw[<-h1];clear h1 hn hv
 go_enter func302,ntmps302
 go_wp2
 go_ret
 exact⟨rfl,(Qb.alloc Ql _)⟩
theorem mx {ma mb:Mx} (h:iz ma mb=true) (A1 A2:Option Addr) (p1 p2:Nat) (w:World) (hx0:SI w A1 ma.v.length ma.v) (hy0:SI w A2 mb.v.length mb.v) (hp1:ma.v.length<=p1) (hq1:p1<=maxLen) :
  Calls prog 296 #[MV ma.r ma.c A1 ma.v.length p1,MV mb.r mb.c A2 mb.v.length p2] w (bD (mulM ma mb) w):=by
 have hmm:=ta h;unfold iz at h;simp only[Bool.and_eq_true,decide_eq_true_eq] at h;obtain⟨ha,hb,hc⟩:=h;obtain⟨r1,c1,v1,rfl,r11,r12,c11,c12,l1,b1⟩:=nS ha;obtain⟨c1',c2,v2,rfl,_,_,c21,c22,l2,b2⟩:=nS hb
 dsimp only at hc hx0 hy0 hp1
 obtain rfl:c1=c1':=by exact_mod_cast hc
 clear hc;obtain⟨a1,o1,rfl,_,_⟩:=hx0.2 (by rw[l1];exact Nat.mul_pos r11 c11)
 obtain⟨a2,o2,rfl,_,_⟩:=hy0.2 (by rw[l2];exact Nat.mul_pos c11 c21)
 obtain⟨n,hnn⟩:∃ n,n=r1*c2:=⟨_,rfl⟩;have hN:(r1:Int)*(c2:Int)=(n:Int):=by rw[hnn];push_cast;rfl
 have hn1:0<n:=by rw[hnn];exact Nat.mul_pos r11 c21
 have hn25:n<=25:=by rw[hnn];exact Nat.mul_le_mul r12 c22
 have hn2:n<=1048576:=by omega
 obtain⟨F,hF⟩:∃ F:Nat->Int,F=fun i=>gx ⟨(r1:Int),(c1:Int),v1⟩ ⟨(c1:Int),(c2:Int),v2⟩ c1 c2 (i/c2) (i%c2) c1%4096:=⟨_,rfl⟩
 have HMM:Hid (mulM ⟨(r1:Int),(c1:Int),v1⟩ ⟨(c1:Int),(c2:Int),v2⟩=⟨(r1:Int),(c2:Int),fl F n⟩):=by
  show mulM _ _=_
  rw[hmm,hF,hnn]
  rfl
 have HX:=Qh hx0;have HY:=Qh hy0;have HA:=Qh ha;have HB:=Qh hb;have HL1:=Qh l1;have HL2:=Qh l2;have HN:=Qh hN;have HNN:=Qh hnn;have HFN:=Qh hF;clear hx0 hy0 ha hb l1 l2 hN hnn hF hmm;refine zE ?_;intro u1 H;refine zB (bP (m:=⟨(r1:Int),(c1:Int),v1⟩) HA.out u1 (SI.below HX.out H.O)) ?_;clear H;intro w2 u2 H;refine zB (bP (m:=⟨(c1:Int),(c2:Int),v2⟩) HB.out u2 (SI.below HY.out H.O)) ?_;clear H;intro w3 u3 H;refine zG (di HN.out hn2 u3) ?_;rintro e w4 ⟨A,cG,rfl,hos,hb⟩;replace H:=H.os hb hos;clear hos hb
 dsimp only at H ⊢
 rw[List.length_replicate] at H ⊢;obtain⟨g,rfl,-,-⟩:=OS.pos (H.o 0) hn1;refine zN ?_;clear H;intro u5 H;obtain⟨gT,hgT⟩:∃ g,g=w4.heap.size:=⟨_,rfl⟩;rw[<-hgT] at H ⊢;clear hgT;replace H:=(((((H.r 4).r 4).r 4).r 3).r 4);intros
 go_loopw [35] (fun i wr=>∃ r:Nat,r<=r1/\i= .int .i64 r/\Hid (Hq w [qO w.heap.size (some ⟨g,0,none⟩) n cG (fl (fun i=>if i<r*c2+0 then F i else 0) n),qB gT 37 [.int .i64 (r1:Int),.int .i64 (c2:Int),.slice (some ⟨g,0,none⟩) n cG],qB (w.heap.size+2) 37 [.int .i64 0,.int .i64 0,.slice none 0 0],qB (w.heap.size+1) 37 [.int .i64 (c1:Int),.int .i64 (c2:Int),.slice (some ⟨a2,o2,none⟩) v2.length p2],qB w.heap.size 37 [.int .i64 (r1:Int),.int .i64 (c1:Int),.slice (some ⟨a1,o1,none⟩) v1.length p1]] wr)) (fun i _=>r1-(intOf i).toNat)
 case atStart=>exact⟨0,Nat.zero_le _,rfl,by rw[show fl (fun i=>if i<0*c2+0 then F i else 0) n=List.replicate n 0 from by rw[<-j6];exact dT fun k _=>by simp];exact H⟩
 case round =>
 clear H;obtain⟨r,hr,rfl,H⟩:=hrel;have H:=H.out
 by_cases hlt:r<r1
 ·refine zN ?_;clear H;intro u21 H;refine zB (qj hlt r12 ⟨c11,c12⟩ HL1.out hp1 hq1 u21) ?_;clear H;intro w22 u22 H;intros
  go_loopw [43] (fun i wr=>∃ p:Nat,p<=c2/\i= .int .i64 p/\Hid (Hq w [qO w.heap.size (some ⟨g,0,none⟩) n cG (fl (fun i=>if i<r*c2+p then F i else 0) n),qB gT 37 [.int .i64 (r1:Int),.int .i64 (c2:Int),.slice (some ⟨g,0,none⟩) n cG],qB (w.heap.size+2) 37 [.int .i64 0,.int .i64 0,.slice none 0 0],qB (w.heap.size+1) 37 [.int .i64 (c1:Int),.int .i64 (c2:Int),.slice (some ⟨a2,o2,none⟩) v2.length p2],qB w.heap.size 37 [.int .i64 (r1:Int),.int .i64 (c1:Int),.slice (some ⟨a1,o1,none⟩) v1.length p1]] wr)) (fun i _=>c2-(intOf i).toNat)
  case atStart=>exact⟨0,Nat.zero_le _,rfl,H⟩
  case round =>
  clear H;obtain⟨p,hp,rfl,H⟩:=hrel;have H:=H.out
  by_cases hqc:p<c2
  ·refine zN ?_;clear H;intro u31 H;intros
   go_loopw [9,48] (fun v9 i wr=>∃ k:Nat,k<=c1/\i= .int .i64 k/\v9= .int .i64 (gx ⟨(r1:Int),(c1:Int),v1⟩ ⟨(c1:Int),(c2:Int),v2⟩ c1 c2 r p k)/\Hid (Hq w [qO w.heap.size (some ⟨g,0,none⟩) n cG (fl (fun i=>if i<r*c2+p then F i else 0) n),qB gT 37 [.int .i64 (r1:Int),.int .i64 (c2:Int),.slice (some ⟨g,0,none⟩) n cG],qB (w.heap.size+2) 37 [.int .i64 0,.int .i64 0,.slice none 0 0],qB (w.heap.size+1) 37 [.int .i64 (c1:Int),.int .i64 (c2:Int),.slice (some ⟨a2,o2,none⟩) v2.length p2],qB w.heap.size 37 [.int .i64 (r1:Int),.int .i64 (c1:Int),.slice (some ⟨a1,o1,none⟩) v1.length p1]] wr)) (fun _ i _=>c1-(intOf i).toNat)
   case atStart=>exact⟨0,Nat.zero_le _,rfl,rfl,H⟩
   case round =>
   clear H;obtain⟨k,hk,rfl,rfl,H⟩:=hrel;have H:=H.out
   by_cases hkc:k<c1
   ·have hi1:r*c1+k<v1.length:=by rw[HL1.out];exact e9 hlt hkc
    have cx:=kR HX.out H.O Ql hi1;rw[<-Nat.add_assoc] at cx;obtain⟨x0,x1⟩:=dE HA.out (r*c1+k);obtain⟨y0,y1⟩:=dE HB.out (k*c2+p);obtain⟨s0,s1⟩:=jD HA.out HB.out c1 c2 r p k
    dsimp only at x0 x1 y0 y1
    have HDS:Hid (gx ⟨(r1:Int),(c1:Int),v1⟩ ⟨(c1:Int),(c2:Int),v2⟩ c1 c2 r p (k+1)=gx ⟨(r1:Int),(c1:Int),v1⟩ ⟨(c1:Int),(c2:Int),v2⟩ c1 c2 r p k+v1.getD (r*c1+k) 0*v2.getD (k*c2+p) 0):=rfl;have HVA:Hid (∀ W:World,Below w.heap.size w W->Calls prog 302 #[MV (c1:Int) (c2:Int) (some ⟨a2,o2,none⟩) v2.length p2,.int .i64 (k:Int),.int .i64 (p:Int)] W fun e w'=>e= .returned (.int .i64 (v2.getD (k*c2+p) 0))/\Below W.heap.size W w'):=fun W hW=>uQ hkc c12 hqc c22 HL2.out W (SI.below HY.out hW)
    obtain⟨s,hs⟩:∃ s,s=gx ⟨(r1:Int),(c1:Int),v1⟩ ⟨(c1:Int),(c2:Int),v2⟩ c1 c2 r p k:=⟨_,rfl⟩;obtain⟨x,hx⟩:∃ x,x=v1.getD (r*c1+k) 0:=⟨_,rfl⟩;obtain⟨y,hy⟩:∃ y,y=v2.getD (k*c2+p) 0:=⟨_,rfl⟩;rw[<-hs,<-hx,<-hy] at HDS;rw[<-hy] at HVA;rw[<-hs] at s0 s1 ⊢;rw[<-hx] at x0 x1 cx;rw[<-hy] at y0 y1;clear hs hx hy hi1;have hxy:x*y<=4095*4095:=Int.mul_le_mul x1 y1 y0 (by omega)
    have hxy0:=Int.mul_nonneg x0 y0;have hs5:s<=100000000:=by omega
    have w1:=IntWalk.i64_in (x*y) (by omega)
    have w2:=IntWalk.i64_in (s+x*y) (by omega)
    have j0:(0:Int)<=(k:Int):=by omega
    have j1:(k:Int)<(c1:Int):=by omega
    refine zN ?_;clear H;intro u41 H;refine zG (HVA.out u41 H.O) ?_;rintro e w42 ⟨rfl,hb⟩;replace H:=H.b hb;clear hb;refine zC ?_;intro C;intros;go_wp2
    go_roundw
    case rel=>exact⟨k+1,by omega,by go_num,by rw[HDS.out],H⟩
    case measure=>simp[intOf];omega
   ·obtain rfl:k=c1:=by omega
    obtain⟨jj,hjj⟩:∃ jj,jj=r*c2:=⟨_,rfl⟩;have hjl:jj+p<n:=by rw[hjj,HNN.out];exact e9 hlt hqc
    have hFv:gx ⟨(r1:Int),(k:Int),v1⟩ ⟨(k:Int),(c2:Int),v2⟩ k c2 r p k%4096=F (jj+p):=by
     have e1:(r*c2+p)/c2=r:=by rw[Nat.mul_comm,Nat.mul_add_div (by omega),Nat.div_eq_of_lt hqc,Nat.add_zero]
     have e2:(r*c2+p)%c2=p:=by rw[Nat.mul_comm,Nat.mul_add_mod,Nat.mod_eq_of_lt hqc]
     rw[HFN.out,hjj]
     dsimp only
     rw[e1,e2]
    have hm2w:IntKind.i64.wrap ((r:Int)*(c2:Int))=(jj:Int):=gN (by rw[hjj];push_cast;rfl) (by omega)
    rw[<-hjj] at H;obtain⟨s,hs⟩:∃ s,s=gx ⟨(r1:Int),(k:Int),v1⟩ ⟨(k:Int),(c2:Int),v2⟩ k c2 r p k:=⟨_,rfl⟩;rw[<-hs] at hFv ⊢;obtain⟨v,hv⟩:∃ v,v=s%4096:=⟨_,rfl⟩;have HRG:Hid (∀ W:World,Calls prog 180 #[.int .i64 s] W fun e w'=>e= .returned (.int .i64 v)/\W=w'):=by rw[hv];exact fun W=>dK s W
    have HST:Hid (fl (fun i=>if i<r*c2+(p+1) then F i else 0) n=(fl (fun i=>if i<jj+p then F i else 0) n).set (jj+p) v):=pW hjl fun i hi=>by rw[<-hjj,hv.trans hFv];by_cases e:i=jj+p <;> by_cases e2:i<jj+p <;> simp[e,e2] <;> omega
    clear hs hv hFv hjj;have j0:(0:Int)<=(jj:Int)+(p:Int):=by omega
    have j1:(jj:Int)+(p:Int)<(n:Int):=by omega
    have j2:((jj:Int)+(p:Int)).toNat=jj+p:=by omega
    have j3:=IntWalk.i64_in ((jj:Int)+(p:Int)) (by omega)
    refine zN ?_;clear H;intro u51 H;refine zXZ (tg [gT,(w.heap.size+1)]) ?_;clear H;intro S w52 hne H;refine zD ((And.intro (H.c 1) (H.c 3))) ?_;intro G;refine yP (HRG.out w52) ?_;have D:=a7 (H.o 0) hjl;refine nY ?_;clear H D;intro u52 H;refine zC ?_;intro C;intros;go_wp2
    go_roundw
    case rel=>exact⟨p+1,by omega,by go_num,(by rw[HST.out];exact H)⟩
    case measure=>simp[intOf];omega
  ·obtain rfl:p=c2:=by omega
   have HSE:Hid ((fun i=>if i<r*p+p then F i else 0)=(fun i=>if i<(r+1)*p+0 then F i else 0)):=by show _=_;rw[show r*p+p=(r+1)*p+0 from by rw[Nat.succ_mul,Nat.add_zero]]
   refine zC ?_;intro C;intros;go_wp2
   go_roundw
   case rel=>exact⟨r+1,by omega,by go_num,(by rw[<-HSE.out];exact H)⟩
   case measure=>simp[intOf];omega
 ·obtain rfl:r=r1:=by omega
  rw[show fl (fun i=>if i<r*c2+0 then F i else 0) n=fl F n from dT fun i hi=>by rw[if_pos (by rw[Nat.add_zero,<-HNN.out];exact hi)]] at H
  refine zS_ ?_;clear H;intro u81 H
  exact(by rw[HMM.out];exact⟨some ⟨g,0,none⟩,cG,by dsimp only;rw[aD],by dsimp only;rw[aD];exact(H.o 0),H.O⟩)
end
@[reducible] def T2 (a b:Int):Value:= .agg #[.int .i64 a,.int .i64 b]
def sv (a b:Int):Bool:=rv a && rv b
theorem fY {a b:Int} (h:sv a b=true):(0<=a/\a<=4095)/\0<=b/\b<=4095:=by
 simp only[sv,Bool.and_eq_true] at h
 exact⟨kJ h.1,kJ h.2⟩
theorem fX {a b:Int} (h1:0<=a/\a<=4095) (h2:0<=b/\b<=4095):sv a b=true:=by simp[sv,aR h1,aR h2]
theorem dX {x y:Int} (h1:0<=x/\x<=4095) (h2:0<=y/\y<=4095):aJ x y=(x+y)%4096:=by simp[aJ,aR h1,aR h2]
theorem qL {x y:Int} (h1:0<=x/\x<=4095) (h2:0<=y/\y<=4095):bC x y=(x-y)%4096:=by simp[bC,aR h1,aR h2]
def bd (v:Bool) (x:Int):Int:=if v=true then x else -1
theorem oO (a b:Int) (w:World):Calls prog 285 #[T2 a b] w fun e w'=>e= .returned (.bool (sv a b))/\Below w.heap.size w w':=by
 cases h1:rv a <;> cases h2:rv b
 all_goals
  go_enter func285,ntmps285
  go_wp2_with (go_at_call 54;refine Qc (iL _ _) ?_)
  go_ret
  exact⟨by simp[sv,h1,h2],(by repeat (first|assumption|exact Below.refl _ _|apply Below.drew|(refine Below.setCell ?_ (by(first|omega|(simp <;> omega))) _)|(refine Below.alloc ?_ (by(first|omega|(simp <;> omega))) _)|(refine bp (by assumption) (by(first|omega|(simp <;> omega))) ?_)))⟩
theorem bQ {a b:Int} (h:sv a b=true) (w:World):Calls prog 285 #[T2 a b] w fun e w'=>e= .returned (.bool true)/\Below w.heap.size w w':=by
 have:=oO a b w
 rwa [h] at this
theorem DZ (a b:Int) (w:World):Calls prog 230 #[T2 a b] w fun e w'=>e= .returned (.bool (sv a b))/\Below w.heap.size w w':=by
 cases h1:rv a <;> cases h2:rv b
 all_goals
  go_enter func230,ntmps230
  go_wp2_with (go_at_call 133;refine Qc (iQ _ _) ?_)
  go_ret
  exact⟨by simp[sv,h1,h2],(by repeat (first|assumption|exact Below.refl _ _|apply Below.drew|(refine Below.setCell ?_ (by(first|omega|(simp <;> omega))) _)|(refine Below.alloc ?_ (by(first|omega|(simp <;> omega))) _)|(refine bp (by assumption) (by(first|omega|(simp <;> omega))) ?_)))⟩
theorem a8 {a b:Int} (h:sv a b=true) (w:World):Calls prog 230 #[T2 a b] w fun e w'=>e= .returned (.bool true)/\Below w.heap.size w w':=by
 have:=DZ a b w
 rwa [h] at this
theorem oV {a b c d:Int} (h:sv a b=true) (h2:sv c d=true) (w:World):Calls prog 233 #[T2 a b,T2 c d] w fun e w'=>e= .returned (T2 ((a+c)%4096) ((b+d)%4096))/\Below w.heap.size w w':=by
 obtain⟨ha,hb⟩:=fY h;obtain⟨hc,hd⟩:=fY h2
 go_enter func233,ntmps233
 go_wp2_with fail
 refine(a8 h _).mono ?_;rintro e w1 ⟨rfl,hb1⟩;obtain⟨hc1,hf1⟩:=tM hb1;have hs1:=hb1.size
 try simp at hs1
 have z1:w.heap.size<w1.heap.size:=by omega
 have z1':w.heap.size+1<w1.heap.size:=by omega
 have z1'':w.heap.size+1+1<w1.heap.size:=by omega
 clear hs1
 go_wp2_with fail
 refine(a8 h2 _).mono ?_;rintro e w2 ⟨rfl,hb2⟩;obtain⟨hc2,hf2⟩:=tM hb2;have hs2:=hb2.size
 try simp at hs2
 have z2:w.heap.size<w2.heap.size:=by omega
 have z2':w.heap.size+1<w2.heap.size:=by omega
 have z2'':w.heap.size+1+1<w2.heap.size:=by omega
 clear hs2;have e1:IntKind.i64.wrap (a+c)=a+c:=IntWalk.i64_in _ (by omega)
 have e2:IntKind.i64.wrap (b+d)=b+d:=IntWalk.i64_in _ (by omega)
 have q0:w2.cell? ⟨w.heap.size,0,none⟩=some (.int .i64 a):=by
  rw[hc2 _ _ (by first|omega|assumption),hc1 _ _ (by simp <;> omega)]
  simp[go_sem,World.cell?_alloc_past]
 have q1:w2.cell? ⟨w.heap.size,1,none⟩=some (.int .i64 b):=by
  rw[hc2 _ _ (by first|omega|assumption),hc1 _ _ (by simp <;> omega)]
  simp[go_sem,World.cell?_alloc_past]
 have q2:w2.cell? ⟨w.heap.size+1,0,none⟩=some (.int .i64 c):=by
  rw[hc2 _ _ (by first|omega|assumption),hc1 _ _ (by simp <;> omega)]
  simp[go_sem,World.cell?_alloc_past]
 have q3:w2.cell? ⟨w.heap.size+1,1,none⟩=some (.int .i64 d):=by
  rw[hc2 _ _ (by first|omega|assumption),hc1 _ _ (by simp <;> omega)]
  simp[go_sem,World.cell?_alloc_past]
 go_wp2_with fail
 go_region_held3 (fun w'=>w'.cell? ⟨w.heap.size,0,none⟩=some (.int .i64 a)/\w'.cell? ⟨w.heap.size,1,none⟩=some (.int .i64 b)/\w'.cell? ⟨w.heap.size+1,0,none⟩=some (.int .i64 c)/\w'.cell? ⟨w.heap.size+1,1,none⟩=some (.int .i64 d)) (first|(simp[go_sem,q0,q1,q2,q3];done)|exact⟨q0,q1,q2,q3⟩)
  ((go_at_call 132;refine Qc (bG _ _) ?_))
 all_goals
  go_wp2
  exact bodyPost_ret (v:=T2 ((a+c)%4096) ((b+d)%4096)) (by simp[results,results233,go_sem,T2,hc1,hf1,z1,z1',z1'',hc2,hf2,z2,z2',z2'']) rfl ⟨rfl,(by repeat (first|assumption|exact Below.refl _ _|apply Below.drew|(refine Below.setCell ?_ (by(first|omega|(simp <;> omega))) _)|(refine Below.alloc ?_ (by(first|omega|(simp <;> omega))) _)|(refine bp (by assumption) (by(first|omega|(simp <;> omega))) ?_)))⟩
theorem jy {a b c d:Int} (h:sv a b=true) (h2:sv c d=true) (w:World):Calls prog 267 #[T2 a b,T2 c d] w fun e w'=>e= .returned (T2 ((a-c)%4096) ((b-d)%4096))/\Below w.heap.size w w':=by
 obtain⟨ha,hb⟩:=fY h;obtain⟨hc,hd⟩:=fY h2
 go_enter func267,ntmps267
 go_wp2_with fail
 refine(a8 h _).mono ?_;rintro e w1 ⟨rfl,hb1⟩;obtain⟨hc1,hf1⟩:=tM hb1;have hs1:=hb1.size
 try simp at hs1
 have z1:w.heap.size<w1.heap.size:=by omega
 have z1':w.heap.size+1<w1.heap.size:=by omega
 have z1'':w.heap.size+1+1<w1.heap.size:=by omega
 clear hs1
 go_wp2_with fail
 refine(a8 h2 _).mono ?_;rintro e w2 ⟨rfl,hb2⟩;obtain⟨hc2,hf2⟩:=tM hb2;have hs2:=hb2.size
 try simp at hs2
 have z2:w.heap.size<w2.heap.size:=by omega
 have z2':w.heap.size+1<w2.heap.size:=by omega
 have z2'':w.heap.size+1+1<w2.heap.size:=by omega
 clear hs2;have e1:IntKind.i64.wrap (a-c)=a-c:=IntWalk.i64_in _ (by omega)
 have e2:IntKind.i64.wrap (b-d)=b-d:=IntWalk.i64_in _ (by omega)
 have q0:w2.cell? ⟨w.heap.size,0,none⟩=some (.int .i64 a):=by
  rw[hc2 _ _ (by first|omega|assumption),hc1 _ _ (by simp <;> omega)]
  simp[go_sem,World.cell?_alloc_past]
 have q1:w2.cell? ⟨w.heap.size,1,none⟩=some (.int .i64 b):=by
  rw[hc2 _ _ (by first|omega|assumption),hc1 _ _ (by simp <;> omega)]
  simp[go_sem,World.cell?_alloc_past]
 have q2:w2.cell? ⟨w.heap.size+1,0,none⟩=some (.int .i64 c):=by
  rw[hc2 _ _ (by first|omega|assumption),hc1 _ _ (by simp <;> omega)]
  simp[go_sem,World.cell?_alloc_past]
 have q3:w2.cell? ⟨w.heap.size+1,1,none⟩=some (.int .i64 d):=by
  rw[hc2 _ _ (by first|omega|assumption),hc1 _ _ (by simp <;> omega)]
  simp[go_sem,World.cell?_alloc_past]
 go_wp2_with fail
 go_region_held3 (fun w'=>w'.cell? ⟨w.heap.size,0,none⟩=some (.int .i64 a)/\w'.cell? ⟨w.heap.size,1,none⟩=some (.int .i64 b)/\w'.cell? ⟨w.heap.size+1,0,none⟩=some (.int .i64 c)/\w'.cell? ⟨w.heap.size+1,1,none⟩=some (.int .i64 d)) (first|(simp[go_sem,q0,q1,q2,q3];done)|exact⟨q0,q1,q2,q3⟩)
  ((go_at_call 132;refine Qc (bG _ _) ?_))
 all_goals
  go_wp2
  exact bodyPost_ret (v:=T2 ((a-c)%4096) ((b-d)%4096)) (by simp[results,results267,go_sem,T2,hc1,hf1,z1,z1',z1'',hc2,hf2,z2,z2',z2'']) rfl ⟨rfl,(by repeat (first|assumption|exact Below.refl _ _|apply Below.drew|(refine Below.setCell ?_ (by(first|omega|(simp <;> omega))) _)|(refine Below.alloc ?_ (by(first|omega|(simp <;> omega))) _)|(refine bp (by assumption) (by(first|omega|(simp <;> omega))) ?_)))⟩
theorem bL (a b:Int) (w:World):Calls prog 284 #[T2 a b] w fun e w'=>e= .returned (.int .i64 (aJ a b))/\Below w.heap.size w w':=by
 go_enter func284,ntmps284
 go_wp2_with fail
 refine Qc (iX a b _) ?_;go_wp2
 go_ret
 exact⟨rfl,(by repeat (first|assumption|exact Below.refl _ _|apply Below.drew|(refine Below.setCell ?_ (by(first|omega|(simp <;> omega))) _)|(refine Below.alloc ?_ (by(first|omega|(simp <;> omega))) _)|(refine bp (by assumption) (by(first|omega|(simp <;> omega))) ?_)))⟩
theorem bV (a b:Int) (w:World):Calls prog 229 #[T2 a b] w fun e w'=>e= .returned (.int .i64 (aJ a b))/\Below w.heap.size w w':=by
 go_enter func229,ntmps229
 go_wp2_with fail
 refine Qc (pG a b _) ?_;go_wp2
 go_ret
 exact⟨rfl,(by repeat (first|assumption|exact Below.refl _ _|apply Below.drew|(refine Below.setCell ?_ (by(first|omega|(simp <;> omega))) _)|(refine Below.alloc ?_ (by(first|omega|(simp <;> omega))) _)|(refine bp (by assumption) (by(first|omega|(simp <;> omega))) ?_)))⟩
@[reducible] def T6 (a b c d e f:Int):Value:= .agg #[.int .i64 a,.int .i64 b,.int .i64 c,.int .i64 d,.int .i64 e,.int .i64 f]
theorem pj (a b c d e f:Int) (w:World):Calls prog 299 #[T6 a b c d e f] w fun x w'=>x= .returned (.int .i64 (mulR (aJ a b) (aJ c d)))/\Below w.heap.size w w':=by
 refine zE ?_;intro u1 H;refine zX (tg [w.heap.size]) ?_;clear H;intro S w2 hne H;refine zD (H.c 0) ?_;intro G;refine yB (bL _ _ w2) ?_;clear H;intro w3 H;refine yB (bL _ _ w3) ?_;clear H;intro w4 H;refine yP (uN _ _ w4) ?_;refine yN ?_;clear H G;intro u5 H;refine zR ?_;clear H;intro u6 H
 exact⟨rfl,H.O⟩
theorem oP {x r:Int} (hx:0<=x/\x<=4095) (hr:0<=r/\r<=4095) (w:World):Calls prog 298 #[.int .i64 x,.int .i64 r] w fun e w'=>e= .returned (T2 r ((x-r)%4096))/\Below w.heap.size w w':=by
 have H9:=gD x r;rw[show bC x r=(x-r)%4096 from qL hx hr] at H9
 refine zE ?_;intro u1 H;refine zP (an _ hx u1) ?_;clear H;intro u2 H;refine zP (an _ hr u2) ?_;clear H;intro u3 H;refine zP (H9 u3) ?_;clear H;intro u4 H;refine zS_ ?_;clear H;intro u5 H
 exact⟨rfl,H.O⟩
theorem o7 {x r:Int} (hx:0<=x/\x<=4095) (hr:0<=r/\r<=4095) (w:World):Calls prog 264 #[.int .i64 x,.int .i64 r] w fun e w'=>e= .returned (T2 r ((x-r)%4096))/\Below w.heap.size w w':=by
 have q1:=IntWalk.i64_in (x-r) (by omega)
 refine zE ?_;intro u1 H;refine zP (ak _ hx u1) ?_;clear H;intro u2 H;refine zP (ak _ hr u2) ?_;clear H;intro u3 H;refine zP (bG _ u3) ?_;clear H;intro u4 H;refine zS_ ?_;clear H;intro u5 H
 exact⟨rfl,H.O⟩
theorem oR {a b c d e f:Int} (h1:sv a b=true) (h2:sv c d=true) (h3:sv e f=true) (h4:aJ e f=mulR (aJ a b) (aJ c d)) (w:World):Calls prog 300 #[T6 a b c d e f] w fun x w'=>x= .returned (.bool true)/\Below w.heap.size w w':=by
 refine zE ?_;intro u1 H;refine zB (bQ h1 u1) ?_;clear H;intro w2 u2 H;refine zB (bQ h2 u2) ?_;clear H;intro w3 u3 H;refine zB (bQ h3 u3) ?_;clear H;intro w4 u4 H;refine zX (tg [w.heap.size]) ?_;clear H;intro S w5 hne H;refine zD (H.c 0) ?_;intro G;refine yB (bL _ _ w5) ?_;clear H;intro w6 H;refine yB (pj _ _ _ _ _ _ w6) ?_;clear H;intro w7 H;refine yN ?_;clear H G;intro u8 H;refine zR ?_;clear H;intro u9 H
 exact⟨by simp[h4],H.O⟩
theorem o8 {a b c d e f:Int} (h1:sv a b=true) (h2:sv c d=true) (h3:sv e f=true) (h4:aJ e f=mulR (aJ a b) (aJ c d)) (w:World):Calls prog 266 #[T6 a b c d e f] w fun x w'=>x= .returned (.bool true)/\Below w.heap.size w w':=by
 refine zE ?_;intro u1 H;refine zX (tg [w.heap.size]) ?_;clear H;intro S w2 hne H;refine zD (H.c 0) ?_;intro G;refine yB (a8 h1 w2) ?_;clear H;intro w3 H;refine yB (a8 h2 w3) ?_;clear H;intro w4 H;refine yL ?_;refine yB (a8 h3 w4) ?_;clear H;intro w5 H;refine yL ?_;refine yB (bV _ _ w5) ?_;clear H;intro w6 H;refine yB (bV _ _ w6) ?_;clear H;intro w7 H;refine yB (bV _ _ w7) ?_;clear H;intro w8 H;refine yP (pH _ _ w8) ?_;refine yL ?_;refine yN ?_;clear H G;intro u9 H;refine zR ?_;clear H;intro u10 H
 exact⟨by simp[h4],H.O⟩
section
open Go.RowKit Go.Shelf
attribute [local go_sem] Oper.semAt_some
theorem kl (s:Int) (w:World):CallsIn Fence.wide 2 prog 246 #[.int .i64 s] w fun e w'=>e= .returned (.func (.func 278) #[] #[.pointer (some ⟨w.heap.size,0,none⟩)])/\w'=w.alloc (.cells #[.int .i64 s] 3):=by
 refine callsIn_of_wp func246 rfl trivial ?_ rfl;simp only[ntmps246,List.size_toArray,List.length_cons,List.length_nil,Nat.reduceAdd,Nat.reduceSub,Array.replicate_succ,Array.replicate_zero,List.push_toArray,List.append_toArray,List.nil_append,List.cons_append]
 gi_wp2
 go_ret
 exact⟨rfl,rfl⟩
set_option maxRecDepth 100000 in
theorem rH (l bs:Nat) (s:Int) (hs:1<=s/\s<=2147483646) (N:Nat) (J Jx:Nat->World->Prop) (lenOf:World->Nat)
  (hJ:∀ k W,J k W->k<=N/\lenOf W=k) (hJc:∀ k W v,J k W->J k (W.setCell ⟨bs,0,none⟩ v))
  (hY:∀ k W,J k W->YieldAt Fence.wide 1 prog l #[.int .i64 (rn s k),.int .i64 (sds s (k+1))] W fun e W'=>(e= .returned (.bool true)/\J (k+1) W'/\W'.heap[bs]?=W.heap[bs]?)\/(e= .returned (.bool false)/\Jx k W'))
  (W:World) (hb:Boxed W bs 3 (.int .i64 s)) (h0:J 0 W) :
  CallsIn Fence.wide 2 prog 278 #[.func (.yield l) #[] #[],.pointer (some ⟨bs,0,none⟩)] W fun e W'=>(∃ v,e= .returned v)/\∃ k,Jx k W':=by
 refine callsIn_of_wp func278 rfl trivial ?_ rfl;simp only[ntmps278,List.size_toArray,List.length_cons,List.length_nil,Nat.reduceAdd,Nat.reduceSub,Array.replicate_succ,Array.replicate_zero,List.push_toArray,List.append_toArray,List.nil_append,List.cons_append]
 gi_wp2
 gi_loopw [3,4] (fun _ _ wr=>∃ (k:Nat),Boxed wr bs 3 (.int .i64 (sds s k))/\J k wr) (fun _ _ wr=>N+1-lenOf wr)
 case atStart=>exact⟨0,hb,h0⟩
 case round =>
  obtain⟨k,hbx,hk⟩:=hrel;obtain⟨fn,tmps,assign,body,hy,hR⟩:=hY k _ hk;obtain⟨q,hq⟩:∃ q,q=sds s k:=⟨_,rfl⟩;have hqok:1<=q/\q<=2147483646:=by rw[hq];exact lO hs k
  have e1:rn s k=nxt q/8%4096:=by rw[hq];rfl
  have e2:sds s (k+1)=nxt q:=by rw[hq];rfl
  have e3:∀ W':World,Boxed (W'.setCell ⟨bs,0,none⟩ (.int .i64 (nxt q))) bs 3 (.int .i64 (nxt q))->Boxed (W'.setCell ⟨bs,0,none⟩ (.int .i64 (nxt q))) bs 3 (.int .i64 (sds s (k+1))):=fun W' h=>by rw[e2];exact h
  rw[<-hq] at hbx;rw[e1,e2] at hy;clear hq e1 e2;have hc:=hbx.cell
  gi_wp2
  refine⟨trivial,(callsIn_wide.2 (qf hqok _)).mono ?_⟩;rintro e w' ⟨rfl,rfl⟩
  gi_wp2
  refine hR.mono ?_;rintro e W3 (⟨rfl,hJ3,hk3⟩|⟨rfl,hJx3⟩)
  ·have hb3:Boxed W3 bs 3 (.int .i64 q):=hk3.trans hbx;have hc3:=hb3.cell;have hf3:=hb3.frozen
   gi_wp2
   go_roundw
   case rel=>exact⟨k+1,e3 _ (hb3.set _),hJc _ _ _ hJ3⟩
   case measure =>
    have h1:=hJ _ _ hk;have h2:=hJ _ _ (hJc _ _ (.int .i64 (nxt q)) hJ3)
    omega
  ·gi_wp2
   refine bodyPost_ret (results_none rfl _ _ _) rfl ?_
   exact⟨⟨_,rfl⟩,k,hJx3⟩
def yu (bs:Nat) (I:Nat->World->Prop) (Ix:Nat->World->Prop) (cx:Code) (k:Nat) (W:World):Exit->Act->World->Prop
 | .normal,_,W'=>KeepsOthers W W'/\W'.heap[bs]?=W.heap[bs]?/\I (k+1) W'
 | .exit id,_,W'=>cx= .exit id/\KeepsOthers W W'/\Ix k W'
 | _,_,_=>False
set_option maxRecDepth 100000 in
theorem sI {g:Operand} {ps:Array Tmp} {assign body:Code} {Q:Exit->Act->World->Prop} {a:Act} {w:World} (bs:Nat) (s:Int) (hs:1<=s/\s<=2147483646) (N:Nat) (I Ix:Nat->World->Prop) (lenOf:World->Nat) (cx:Code)
  (hg:a.eval g= .func (.func 278) #[] #[.pointer (some ⟨bs,0,none⟩)]) (hps:ps.size=2) (hbx:Boxed w bs 3 (.int .i64 s))
  (hI:∀ k W,I k W->k<=N/\lenOf W=k) (hIc:∀ k W v,I k W->I k (W.setCell ⟨bs,0,none⟩ v)) (hIo:OwnFrom w.heap.size I) (hIxo:OwnFrom w.heap.size Ix) (h0:I 0 w) (a₁:Nat->Act)
  (hassign:∀ (l k:Nat) (W:World) (K:Act->World->Prop),K (a₁ k) W ->
   assign.wpIn (Fence.wide.inRound l) 1 prog (Exit.then K (fun _ _ _=>False)) { tmps:=(ps.zip #[.int .i64 (rn s k),.int .i64 (sds s (k+1))]).foldl (fun t (p,v)=>t.setIfInBounds p v) a.tmps,defers:=[] } W)
  (hbody:∀ (l k:Nat) (W:World),I k W->body.wpIn (Fence.wide.inRound l) 1 prog (yu bs I Ix cx k W) (a₁ k) W)
  (hstop:∀ (D k:Nat) (W:World),w.heap.size<=D->Ix k W->W.heap[D]?=some (.deferred (some []))->cx.wpIn Fence.wide 3 prog Q { a with defers:= { target:= .collected D,args:=#[] }::a.defers } W) :
  (Code.rangeFunc g ps assign body).wpIn Fence.wide 3 prog Q a w:=by
 have hbl:=hbx.lt;refine wpIn_rangeFunc ?_;intro fn hfn;obtain⟨rec,hrec⟩:∃ rec:LoopState->Option Code->Loop,rec=fun st pe=> { state:=st,pending:=pe,fn,tmps:=a.tmps,params:=ps,assign,body,defers:=w.heap.size }:=⟨_,rfl⟩
 obtain⟨l,hl⟩:∃ l,l=w.heap.size+1:=⟨_,rfl⟩;obtain⟨W1,hW1⟩:∃ W1,(w.alloc (.deferred (some []))).alloc (.loop (rec .ready none))=W1:=⟨_,rfl⟩;have hL1:W1.heap[l]?=some (.loop (rec .ready none)):=by
  rw[<-hW1,hl];have:=World.alloc_heap_new (w.alloc (.deferred (some []))) (.loop (rec .ready none))
  rwa [World.size_alloc] at this
 have hK1:W1.heap[w.heap.size]?=some (.deferred (some [])):=by
  rw[<-hW1]
  exact(Below.heap_alloc _ _ _ (by simp)).trans (World.alloc_heap_new w _)
 have hb1:Boxed W1 bs 3 (.int .i64 s):=by rw[<-hW1];exact(hbx.alloc _).alloc _
 have hI1:I 0 W1:=by rw[<-hW1];exact hIo.alloc _ (hIo.alloc _ h0)
 refine⟨l,[{ target:= .collected w.heap.size,args:=#[] }],W1,{ target:= .fn (.func 278) #[.pointer (some ⟨bs,0,none⟩)],args:=#[.func (.yield l) #[] #[]] },W1,278,
  #[.func (.yield l) #[] #[],.pointer (some ⟨bs,0,none⟩)],W1,?_,?_,?_,?_,fun _=>by omega,?_⟩
 ·rw[<-hW1,hrec,hl];exact run_enterLoop_outer _ _ _ _ _
 ·simp only[resolve,hg]
  simp[go_sem]
 ·intro f' hf';trivial
 ·simp[invoke,go_sem]
 ·refine(rH l bs s hs N
   (fun k W=>I k W/\W.heap[l]?=some (.loop (rec .ready none))/\W.heap[w.heap.size]?=some (.deferred (some [])))
   (fun k W=>Ix k W/\W.heap[l]?=some (.loop (rec .done (some cx)))/\W.heap[w.heap.size]?=some (.deferred (some [])))
   lenOf (fun k W h=>hI k W h.1)
   (fun k W v h=>⟨hIc k W v h.1,(Below.heap_setCell W ⟨bs,0,none⟩ v l (by show l≠bs;omega)).trans h.2.1,(Below.heap_setCell W ⟨bs,0,none⟩ v w.heap.size (by show w.heap.size≠bs;omega)).trans h.2.2⟩)
   ?_ W1 hb1 ⟨hI1,hL1,hK1⟩).mono ?_
  ·rintro k W ⟨hi,hlW,hk⟩;have hlt:l<W.heap.size:=(Array.getElem?_eq_some_iff.1 hlW).1;have hy:=run_yield (P:=prog) (args:=#[.int .i64 (rn s k),.int .i64 (sds s (k+1))]) hlW (by rw[hrec];exact hps.symm)
   rw[hrec] at hy;refine⟨fn,_,assign,body,hy,roundIn_of_wpIn hfn (hassign _ k W _ ⟨_,run_beginRound hlW (by rw[hrec]),?_⟩)⟩
   obtain⟨W2,hW2⟩:∃ W2,W.putObj l (.loop { rec .ready none with state:= .busy })=W2:=⟨_,rfl⟩;rw[hW2];have hl2:W2.heap[l]?=some (.loop { rec .ready none with state:= .busy }):=by rw[<-hW2];exact World.putObj_heap_same hlt
   have hk2:W2.heap[w.heap.size]?=some (.deferred (some [])):=by rw[<-hW2];exact(World.putObj_heap_other (by omega)).trans hk
   have hs2:W2.heap[bs]?=W.heap[bs]?:=by rw[<-hW2];exact World.putObj_heap_other (by omega)
   have hi2:I k W2:=by rw[<-hW2];exact hIo.putObj _ hi (by omega) hlW rfl
   clear hW2;refine wpIn_mono (hbody _ k W2 hi2) ?_;have fin:∀ (jump:Option Code) (W3:World),KeepsOthers W2 W3->(Instr.endRound l jump).run prog W3= .ok (.bool jump.isNone) (W3.putObj l (.loop (rec (if jump.isNone then .ready else .done) jump)))/\W3.heap[l]?=some (.loop { rec .ready none with state:= .busy })/\W3.heap[w.heap.size]?=some (.deferred (some []))/\l<W3.heap.size:=fun jump W3 hk3=>by
    have hl3:=hk3.same _ _ hl2 rfl;have h:=run_endRound (P:=prog) jump hl3;rw[hrec] at h hl3 ⊢
    exact⟨h,hl3,hk3.same _ _ hk2 rfl,(Array.getElem?_eq_some_iff.1 hl3).1⟩
   rintro e a3 W3 hp
   cases e with
   | normal =>
    obtain⟨hk3,hb3,hi3⟩:=hp;obtain⟨hr,hl3,hd3,hs3⟩:=fin none W3 hk3
    exact⟨_,_,hr,.inl ⟨rfl,⟨hIo.putObj _ hi3 (by omega) hl3 rfl,World.putObj_heap_same hs3,(World.putObj_heap_other (by omega)).trans hd3⟩,((World.putObj_heap_other (by omega)).trans hb3).trans hs2⟩⟩
   | exit id =>
    obtain⟨rfl,hk3,hi3⟩:=hp;obtain⟨hr,hl3,hd3,hs3⟩:=fin (some (.exit id)) W3 hk3
    exact⟨_,_,hr,.inr ⟨rfl,hIxo.putObj _ hi3 (by omega) hl3 rfl,World.putObj_heap_same hs3,(World.putObj_heap_other (by omega)).trans hd3⟩⟩
   | ret=>exact hp.elim
   | goto t=>exact hp.elim
   | panic ch=>exact hp.elim
   | outgrown=>exact hp.elim
  ·rintro e W2 ⟨⟨v,rfl⟩,k,hi,hl2,hk2⟩;have hend:=run_endLoop (P:=prog) hl2 (by rw[hrec];simp)
   rw[hrec] at hend
   exact⟨some cx,_,hend,hstop _ k _ Ql (hIxo.putObj _ hi (by omega) hl2 rfl) ((World.putObj_heap_other (by omega)).trans hk2)⟩
end
section
open Go.RowKit Go.Shelf
attribute [local go_sem] Oper.semAt_some
def RLI (w:World) (s:Int) (n:Nat) (k:Nat) (W:World):Prop :=
 k<=n/\w.heap.size+5<=W.heap.size/\Boxed W w.heap.size 3 (.int .i64 (n:Int))/\Boxed W (w.heap.size+1+1) 35 (.slice (some ⟨w.heap.size+1,0,none⟩) k n)/\Boxed W (w.heap.size+1+1+1) 3 (.int .i64 (sds s k))/\OS W w.heap.size (some ⟨w.heap.size+1,0,none⟩) k n (fl (rn s) k)/\Below w.heap.size w W
theorem RLI.own (w:World) (s:Int) (n B:Nat) (hB:w.heap.size+4<=B):OwnFrom B (RLI w s n):=by
 rintro k W W' row ⟨h1,h0,h2,h3,h4,h5,h6⟩ hg hr;refine⟨h1,Nat.le_trans h0 hg.size,h2.kept hg ?_,h3.kept hg ?_,h4.kept hg ?_,h5.kept hg (.inr ?_),h6.grown hg h6.size (fun j e=>by have:=(hr j e).1;omega)⟩
 all_goals
  intro e;have:=(hr _ e.symm).1
  try simp at this
  omega
theorem RLI.set (w:World) (s:Int) (n:Nat) (k:Nat) (W:World) (v:Value) (h:RLI w s n k W):RLI w s n k (W.setCell ⟨w.heap.size+1+1+1+1,0,none⟩ v):=by
 obtain⟨h1,h0,h2,h3,h4,h5,h6⟩:=h
 exact⟨h1,Nat.le_trans h0 (KeepsOthers.setCell _ _ _).size,h2.other (by omega) _,h3.other (by omega) _,h4.other (by omega) _,h5.kept (grownBy_setCell' _ _ _) (.inr (by simp[Value.ownBlock])),h6.setCell (p:=⟨w.heap.size+1+1+1+1,0,none⟩) (by show w.heap.size<=w.heap.size+1+1+1+1;omega) _⟩
theorem wE (n:Nat) (hn:n<=35184372088832) (w:World):(Instr.makeSlice 35 (.int .i64 0) (.int .i64 (n:Int))).run prog w= .ok (.slice (some ⟨w.heap.size,0,none⟩) 0 n) (w.alloc (ZB n)):=by
 obtain⟨i,hi,hz,h1,h8⟩:=info_parts eU;have h:=run_make (P:=prog) w 35 3 i _ underlying35 hi hz .i64 .i64 0 (n:Int) (Int.le_refl _) (by omega) (by rw[h8];omega) (by omega)
 rw[h,h1];simp only[Int.toNat_natCast,Nat.mul_one]
 rfl
theorem OS.empty (w:World) (n base:Nat) (hn:n<=35184372088832) (hb:base<=w.heap.size):OS (w.alloc (ZB n)) base (some ⟨w.heap.size,0,none⟩) 0 n [] :=
 ⟨rfl,.inr ⟨w.heap.size,n,madeCells #[.int .i64 0] n,rfl,hb,World.alloc_heap_new w _,Nat.zero_le _,by unfold maxLen;omega,by simp[size_madeCells],by simp⟩⟩
theorem OS.isCells {W:World} {base g k c:Nat} {xs:List Int} {o:Obj} (h:OS W base (some ⟨g,0,none⟩) k c xs) (hj:W.heap[g]?=some o):o.isCells=true:=by
 rcases h.2 with⟨h1,_⟩|⟨g',cap,cur,hv,hb,hg,_⟩
 ·cases h1
 ·injection hv with hv;injection hv with hv;injection hv with hv;subst hv;rw[hg] at hj
  cases hj
  rfl
def wS (w W:World):Nat:=match W.cell? ⟨w.heap.size+1+1,0,none⟩ with|some (.slice _ k _)=>k|_=>0
theorem RLI.len {w:World} {s:Int} {n k:Nat} {W:World} (h:RLI w s n k W):k<=n/\wS w W=k:=⟨h.1,by unfold wS;rw[h.2.2.2.1.cell]⟩
set_option maxRecDepth 100000 in
theorem ff {s:Int} (hs:1<=s/\s<=2147483646) (n:Nat) (hn:n<=4096) (w:World):Calls prog 208 #[.int .i64 s,.int .i64 (n:Int)] w (Rls s n w):=by
 refine(callsIn_wide (n:=3)).1 ?_;obtain⟨i0,hi,hz0,hz1,hz2⟩:=info_parts eU;have hn0:¬(n:Int)<0:=by omega
 have hn1:¬(4096:Int)<(n:Int):=by omega
 have hbN:=Boxed.new w 3 (.int .i64 (n:Int));have hcN:=hbN.cell;have hmk:∀ W:World,(Instr.makeSlice 35 (.int .i64 0) (.int .i64 (n:Int))).run prog W= .ok (.slice (some ⟨W.heap.size,0,none⟩) 0 n) (W.alloc (ZB n)):=fun W=>wE n (by omega) W
 refine callsIn_of_wp_marks func208 rfl trivial ?_ rfl;simp only[ntmps208,List.size_toArray,List.length_cons,List.length_nil,Nat.reduceAdd,Nat.reduceSub,Array.replicate_succ,Array.replicate_zero,List.push_toArray,List.append_toArray,List.nil_append,List.cons_append]
 gi_wp2
 refine⟨trivial,(callsIn_wide.2 (aU hs _)).mono ?_⟩;rintro e w' ⟨rfl,rfl⟩
 gi_wp2
 refine⟨trivial,(callsIn_wide.2 (callsIn_wide.1 (kl s _))).mono ?_⟩;rintro e w' ⟨rfl,rfl⟩
 gi_wp2
 obtain⟨W0,hW0⟩:∃ W0,(((((w.alloc (.cells #[.int .i64 (n:Int)] 3)).alloc (ZB n)).alloc (.cells #[.slice (some ⟨w.heap.size+1,0,none⟩) 0 n] 35)).alloc (.cells #[.int .i64 s] 3)).alloc (.cells #[.int .i64 s] 3))=W0:=⟨_,rfl⟩;have hs0:W0.heap.size=w.heap.size+1+1+1+1+1:=by rw[<-hW0];simp only[World.size_alloc]
 have hbS:Boxed W0 (w.heap.size+1+1+1+1) 3 (.int .i64 s):=by
  rw[<-hW0];have:=Boxed.new ((((w.alloc (.cells #[.int .i64 (n:Int)] 3)).alloc (ZB n)).alloc (.cells #[.slice (some ⟨w.heap.size+1,0,none⟩) 0 n] 35)).alloc (.cells #[.int .i64 s] 3)) 3 (.int .i64 s)
  simpa only[World.size_alloc] using this
 have hI0:RLI w s n 0 W0:=by
  rw[<-hW0];refine⟨Nat.zero_le _,by simp only[World.size_alloc];omega,(((hbN.alloc _).alloc _).alloc _).alloc _,?_,?_,?_,?_⟩
  ·have:=Boxed.new ((w.alloc (.cells #[.int .i64 (n:Int)] 3)).alloc (ZB n)) 35 (.slice (some ⟨w.heap.size+1,0,none⟩) 0 n);simp only[World.size_alloc] at this
   exact(this.alloc _).alloc _
  ·have:=Boxed.new (((w.alloc (.cells #[.int .i64 (n:Int)] 3)).alloc (ZB n)).alloc (.cells #[.slice (some ⟨w.heap.size+1,0,none⟩) 0 n] 35)) 3 (.int .i64 s);simp only[World.size_alloc] at this
   exact this.alloc _
  ·have:=OS.empty (w.alloc (.cells #[.int .i64 (n:Int)] 3)) n w.heap.size (by omega) (by simp)
   simp only[World.size_alloc] at this
   exact World.ownsRow.alloc (World.ownsRow.alloc (World.ownsRow.alloc this _) _) _
  ·exact(((((Below.refl _ w).alloc Ql _).alloc (by simp) _).alloc (by simp;omega) _).alloc (by simp;omega) _).alloc (by simp;omega) _
 rw[hW0];clear hW0 hbN hcN hmk;have hIo:OwnFrom W0.heap.size (RLI w s n):=RLI.own w s n _ (by omega)
 refine sI (cx:= .exit 0) (w.heap.size+1+1+1+1) s hs n (RLI w s n) (fun k W=>k=n/\RLI w s n k W) (wS w) rfl rfl hbS (fun k W h=>h.len) (fun k W v h=>h.set w s n k W v) hIo (fun k A B row h hg hr=>⟨h.1,hIo k A B row h.2 hg hr⟩) hI0 (fun k=> { tmps:=#[.int .i64 s,.int .i64 (n:Int),undef,.pointer (some ⟨w.heap.size,0,none⟩),.slice none 0 0,.int .i64 0,.pointer (some ⟨w.heap.size+1+1,0,none⟩),.pointer (some ⟨w.heap.size+1+1+1,0,none⟩),.int .i64 (rn s k),.int .i64 (sds s (k+1)),.int .i64 s,.bool true,.bool false,.bool false,.int .i64 (n:Int),.bool (decide ((n:Int)<0)),.bool (decide ((n:Int)<0)),.bool (decide ((n:Int)<0)),.int .i64 (n:Int),.bool (decide (4096<(n:Int))),.bool (decide ((n:Int)<0) || decide (4096<(n:Int))),.int .i64 (n:Int),.slice (some ⟨w.heap.size+1,0,none⟩) 0 n,.int .i64 s,.int .i64 s,.func (.func 278) #[] #[.pointer (some ⟨w.heap.size+1+1+1+1,0,none⟩)],.int .i64 (rn s k),.int .i64 (sds s (k+1)),undef,undef,undef,undef,undef,undef,undef,undef,undef,undef,undef],defers:=[] }) ?assign ?body ?stop
 case assign =>
  intro l k W K hK
  gi_wp2
  exact hK
 case body =>
  intro l k W hI;have hI':=hI;obtain⟨hkn,hsz5,hb1,hb2,hb3,hos,hbel⟩:=hI';have hc1:=hb1.cell;have hc2:=hb2.cell
  dsimp only
  by_cases hk:k=n
  ·subst hk
   gi_wp2
   exact⟨rfl,KeepsOthers.refl _,rfl,hI⟩
  ·have hkI:¬(k:Int)=(n:Int):=by omega
   have hszr:w.heap.size+1<W.heap.size:=(hos.aj _ rfl).2
   gi_wp2_with (gi_at_builtin;refine wpListIn_append_fits _ rfl _ _ 35 rfl w.heap.size 3 i0 1 underlying35 hi hz1 (w.heap.size+1) k n _ rfl (World.ownsRow.alloc hos _) ⟨W.heap.size,0,none⟩ 1 1 [.int .i64 (rn s k)] rfl rfl (cell_one_new _ _ _) (by simp[Value.oneCell']) (by omega) ?_;intro w1 hown1 hgrow1;have hk1:Boxed w1 (w.heap.size+1+1) _ _:=(hb2.alloc _).kept hgrow1 (fun e=>by injection e with e;omega);have hk2:Boxed w1 (w.heap.size+1+1+1) _ _:=(hb3.alloc _).kept hgrow1 (fun e=>by injection e with e;omega);have hk3:Boxed (w1.setCell ⟨w.heap.size+1+1,0,none⟩ (.slice (some ⟨w.heap.size+1,0,none⟩) (k+1) n)) (w.heap.size+1+1+1) _ _:=hk2.other (by omega) _;have c1:=hk1.cell;have f1:=hk1.frozen;have c2:=hk2.cell;have f2:=hk2.frozen;have c3:=hk3.cell;have f3:=hk3.frozen)
   have hos1:OS w1 w.heap.size (some ⟨w.heap.size+1,0,none⟩) (k+1) n (fl (rn s) (k+1)):=by
    rw[dd];have h:=hown1;rw[show List.map (Value.int .i64) (fl (rn s) k)++[Value.int .i64 (rn s k)]=(fl (rn s) k++[rn s k]).map (Value.int .i64) by simp] at h
    exact h
   refine⟨((KeepsOthers.alloc W _).trans (KeepsOthers.of_grownBy hgrow1 fun j o ej hj=>?_)).trans ((KeepsOthers.setCell _ _ _).trans (KeepsOthers.setCell _ _ _)),?_,?_⟩
   ·cases ej
    exact OS.isCells (World.ownsRow.alloc hos _) hj
   ·rw[Below.heap_setCell _ _ _ _ (by show w.heap.size+1+1+1+1≠w.heap.size+1+1+1;omega),Below.heap_setCell _ _ _ _ (by show w.heap.size+1+1+1+1≠w.heap.size+1+1;omega)]
    exact(hgrow1.block _ (by simp;omega) (fun e=>by injection e with e;omega)).trans (Below.heap_alloc _ _ _ (by omega))
   ·refine⟨by omega,?_,?_,?_,?_,?_,?_⟩
    ·exact Nat.le_trans (by have:=hgrow1.size;simp at this;omega) (Nat.le_trans (KeepsOthers.setCell _ _ _).size (KeepsOthers.setCell _ _ _).size)
    ·exact(((hb1.alloc _).kept hgrow1 (fun e=>by injection e with e;omega)).other (by omega) _).other (by omega) _
    ·exact(hk1.set _).other (by omega) _
    ·exact hk3.set _
    ·exact(hos1.kept (grownBy_setCell' _ _ _) (.inr (by simp[Value.ownBlock]))).kept (grownBy_setCell' _ _ _) (.inr (by simp[Value.ownBlock]))
    ·exact(((hbel.alloc (by omega) _).grown hgrow1 (by simp;omega) (fun j e=>by cases e;omega)).setCell (p:=⟨w.heap.size+1+1,0,none⟩) (by show w.heap.size<=w.heap.size+1+1;omega) _).setCell (p:=⟨w.heap.size+1+1+1,0,none⟩) (by show w.heap.size<=w.heap.size+1+1+1;omega) _
 case stop =>
  rintro D k W hD ⟨rfl,hI⟩ hK;obtain⟨_,_,hb1,hb2,hb3,hos,hbel⟩:=hI;have hc2:=hb2.cell;have hc3:=hb3.cell
  gi_wp2
  gi_region
  gi_wp2
  refine⟨by simp,.inl ⟨_,_,rfl,run_takeDeferred hK,?_⟩⟩
  refine⟨.tuple #[.slice (some ⟨w.heap.size+1,0,none⟩) k k,.int .i64 (sds s k)],by simp[results,results208,go_sem],_,_,rfl,?_,?_⟩
  ·exact ownsRow_putObj hos.drew _ hK rfl
  ·exact hbel.drew.trans (belowK_b (w:=w) Ql _ D _ _ (by omega) hK rfl rfl)
end
section
def Rw (w:World) (g:Nat) (cs:Array Value):Prop:=g<w.heap.size/\∀ i,i<cs.size->w.cell? ⟨g,i,none⟩=cs[i]?/\w.frozen? ⟨g,i,none⟩=false
section
variable {w w':World} {g:Nat} {cs:Array Value}
theorem Rw.lt (h:Rw w g cs):g<w.heap.size:=h.1
theorem Rw.cell (h:Rw w g cs) (i:Nat) (hi:i<cs.size:=by simp):w.cell? ⟨g,i,none⟩=cs[i]?:=(h.2 i hi).1
theorem Rw.frozen (h:Rw w g cs) (i:Nat) (hi:i<cs.size:=by simp):w.frozen? ⟨g,i,none⟩=false:=(h.2 i hi).2
theorem Rw.aB {base n c:Nat} {xs:List Int} (h:OS w base (some ⟨g,0,none⟩) n c xs) (he:(xs.map (Value.int .i64)).toArray=cs):Rw w g cs:=by
 subst he;refine⟨(h.aj g rfl).2,fun i hi=>?_⟩
 simp at hi
 refine⟨?_,h.frozen i g rfl⟩;have:=World.ownsRow.cellAt h i (by have:=h.len;omega)
 rw[this]
 simp
end
def tC (s:Int):Int:=((rn s 0+rn s 1)*(rn s 2+rn s 3))%4096
theorem xn (s:Int):0<=tC s/\tC s<=4095:=by unfold tC;omega
theorem tD (s:Int):mulR (aJ (rn s 0) (rn s 1)) (aJ (rn s 2) (rn s 3))=tC s:=by
 have h:∀ k,0<=rn s k/\rn s k<=4095:=dB s;rw[dX (h 0) (h 1),dX (h 2) (h 3)];have e1:rv ((rn s 0+rn s 1)%4096)=true:=aR (by omega)
 have e2:rv ((rn s 2+rn s 3)%4096)=true:=aR (by omega)
 simp only[mulR,e1,e2,Bool.and_self];unfold tC;rw[Int.mul_emod (rn s 0+rn s 1)]
 simp
theorem kX (s:Int):aJ (rn s 4) ((tC s-rn s 4)%4096)=mulR (aJ (rn s 0) (rn s 1)) (aJ (rn s 2) (rn s 3)):=by
 rw[tD,dX (dB s 4) (by omega)]
 have:=xn s
 omega
def Tr (s:Int) (w:World) (e:Ending) (w':World):Prop:=e= .returned (.tuple #[T6 (rn s 0) (rn s 1) (rn s 2) (rn s 3) (rn s 4) ((tC s-rn s 4)%4096),.int .i64 (sds s 5)])/\Below w.heap.size w w'
theorem qd {s:Int} (hs:1<=s/\s<=2147483646) (w:World):Calls prog 288 #[.int .i64 s] w (Tr s w):=by
 have ht:=tD s;refine zE ?_;intro u1 H;refine zP (aU hs u1) ?_;clear H;intro u2 H;refine zO (ff hs 5 (by omega) u2) ?_;clear H;intro w3 A c u3 H
 obtain⟨gA,rfl,gA0,gA1⟩:=OS.pos (H.o 0) (by omega)
 have E:=H.el;refine zXF (tgF [gA] 15 6 (.cells #[.int .i64 0,.int .i64 0,.int .i64 0,.int .i64 0,.int .i64 0,.int .i64 0] 255)) ?_;clear H;intro S w4 hne H;have hA:=Rw.aB (cs:=#[.int .i64 (rn s 0),.int .i64 (rn s 1),.int .i64 (rn s 2),.int .i64 (rn s 3),.int .i64 (rn s 4)]) (H.o 0) rfl;have r0:=H.row (hA.cell 0);have r1:=H.row (hA.cell 1);have r2:=H.row (hA.cell 2);have r3:=H.row (hA.cell 3);have r4:=H.row (hA.cell 4);refine yG ?_;clear H;intro w5 g5 hg5 H;refine yS ?_;clear H;intro w6 H;refine yN ?_;clear H;intro u7 H;have gA2:=(OS.aj (H.o 1) gA rfl).2;refine zXZ (tg [g5,gA]) ?_;clear H;intro S w8 hne H;refine zD (H.c 0) ?_;intro G;have hA:=Rw.aB (cs:=#[.int .i64 (rn s 0),.int .i64 (rn s 1),.int .i64 (rn s 2),.int .i64 (rn s 3),.int .i64 (rn s 4)]) (H.o 1) rfl;have r0:=H.row (hA.cell 0);have r1:=H.row (hA.cell 1);have r2:=H.row (hA.cell 2);have r3:=H.row (hA.cell 3);have r4:=H.row (hA.cell 4);refine yB (pj _ _ _ _ _ _ w8) ?_;clear H;intro w9 H;refine yB (oP (xn s) (dB s 4) w9) ?_;clear H;intro w10 H;intros;refine zCr ?_;intro C;intros
 repeat (first|(refine lc' ?_;intro K hK;go_big_quiet_op;go_big_quiet_on)|refine lk' ?_)
 refine aV rfl (by rfl) (by rfl) (fun K hK=>?_)
 unfold Oper.gives
 go_simp
 refine hK _ _ ?_;replace H:=H.H;refine aI ?_;clear C G;refine zS_ ?_;clear H;intro u11 H
 exact⟨rfl,H.O⟩
theorem qx {s:Int} (hs:1<=s/\s<=2147483646) (w:World):Calls prog 235 #[.int .i64 s] w (Tr s w):=by
 have hin:inB s 1 2147483646=true:=by simp[inB];omega
 have ht:=tD s;refine zE ?_;intro u1 H;refine zP (lL s 1 2147483646 u1) ?_;clear H;intro u2 H;refine zO (kQ hs 5 (by omega) u2) ?_;clear H;intro w3 A c u3 H
 obtain⟨gA,rfl,gA0,gA1⟩:=OS.pos (H.o 0) (by omega)
 have E:=H.el;refine zXF (tgF [gA] 15 6 (.cells #[.int .i64 0,.int .i64 0,.int .i64 0,.int .i64 0,.int .i64 0,.int .i64 0] 255)) ?_;clear H;intro S w4 hne H;have hA:=Rw.aB (cs:=#[.int .i64 (rn s 0),.int .i64 (rn s 1),.int .i64 (rn s 2),.int .i64 (rn s 3),.int .i64 (rn s 4)]) (H.o 0) rfl;have r0:=H.row (hA.cell 0);have r1:=H.row (hA.cell 1);have r2:=H.row (hA.cell 2);have r3:=H.row (hA.cell 3);have r4:=H.row (hA.cell 4);refine yG ?_;clear H;intro w5 g5 hg5 H;refine yS ?_;clear H;intro w6 H;refine yN ?_;clear H;intro u7 H;have gA2:=(OS.aj (H.o 1) gA rfl).2;refine zXZ (tg [g5,gA]) ?_;clear H;intro S w8 hne H;refine zD (H.c 0) ?_;intro G;have hA:=Rw.aB (cs:=#[.int .i64 (rn s 0),.int .i64 (rn s 1),.int .i64 (rn s 2),.int .i64 (rn s 3),.int .i64 (rn s 4)]) (H.o 1) rfl;have r0:=H.row (hA.cell 0);have r1:=H.row (hA.cell 1);have r2:=H.row (hA.cell 2);have r3:=H.row (hA.cell 3);have r4:=H.row (hA.cell 4);refine yB (bV _ _ w8) ?_;clear H;intro w9 H;refine yB (bV _ _ w9) ?_;clear H;intro w10 H;refine yP (pH _ _ w10) ?_;refine yB (o7 (xn s) (dB s 4) w10) ?_;clear H;intro w11 H;intros;refine zCr ?_;intro C;intros
 repeat (first|(refine lc' ?_;intro K hK;go_big_quiet_op;go_big_quiet_on)|refine lk' ?_)
 refine aV rfl (by rfl) (by rfl) (fun K hK=>?_)
 unfold Oper.gives
 go_simp
 refine hK _ _ ?_;replace H:=H.H;refine aI ?_;clear C G;refine zS_ ?_;clear H;intro u12 H
 exact⟨rfl,H.O⟩
end
def lv (k:Nat):Int:=if 2048<=k then 1 else 0
theorem BL (k:Nat):0<=lv k/\lv k<=1:=by unfold lv;split <;> omega
theorem qJ (k:Nat) (h:k<4096):sgn (k:Int)=if 2048<=k then (k:Int)-4096 else (k:Int):=by
 by_cases h2:2048<=k
 ·rw[xf (by omega) (by omega),if_pos h2]
 ·rw[xg (by omega) (by omega),if_neg h2]
def shf (s:Int):Int:=(rn s 0+rn s 1)%4096
def sec (f:Nat->Int) (s:Int) (i:Nat):Int:=(f (((i:Int)-shf s)%4096).toNat-rn (sds s 2) i)%4096
theorem xh (s:Int):0<=shf s/\shf s<=4095:=by unfold shf;omega
theorem w_ (f:Nat->Int) (s:Int) (i:Nat):0<=sec f s i/\sec f s i<=4095:=by unfold sec;omega
theorem uu (s:Int):aJ (rn s 0) (rn s 1)=shf s:=dX (dB s 0) (dB s 1)
theorem lg (f:Nat->Int) (n:Nat) (h:∀ k,k<n->0<=f k/\f k<=4095):(fl f n).all rv=true:=by
 rw[List.all_eq_true];intro x hx;simp only[fl,List.mem_map,List.mem_range] at hx;obtain⟨k,hk,rfl⟩:=hx
 exact aR (h k hk)
def Tb (f:Nat->Int) (s:Int) (w:World) (e:Ending) (w':World):Prop:=∃ (A B:Option Addr) (c d:Nat),e= .returned (.tuple #[.agg #[.int .i64 (rn s 0),.int .i64 (rn s 1),.slice A 4096 c,.slice B 4096 d],.int .i64 (sds (sds s 2) 4096)]) /\
 OS w' w.heap.size A 4096 c (fl (rn (sds s 2)) 4096)/\OS w' w.heap.size B 4096 d (fl (sec f s) 4096)/\Below w.heap.size w w'
theorem Bl (f:Nat->Int) (n:Nat):fl f 0++List.replicate (n-0) 0=List.replicate n 0:=by
 have e0:fl f 0=[]:=rfl;rw[e0,List.nil_append,Nat.sub_zero]
theorem B_ {f:Nat->Int} (s:Int) (j:Nat):(f (((j:Int)-shf s)%4096).toNat-rn (sds s 2) j)%4096=sec f s j:=rfl
theorem rh (j:Nat) (s:Int):((((j:Int)-s)%4096).toNat:Int)=((j:Int)-s)%4096:=by omega
theorem Dy {f:Nat->Int} (hf:∀ j,j<4096->0<=f j/\f j<=4095) (s:Int) (j:Nat):bC (f (((j:Int)-shf s)%4096).toNat) (rn (sds s 2) j)=sec f s j:=qL (hf _ (by omega)) (dB _ _)
end Go.Proofs.YtjciicheoghcdaaGreatDoor

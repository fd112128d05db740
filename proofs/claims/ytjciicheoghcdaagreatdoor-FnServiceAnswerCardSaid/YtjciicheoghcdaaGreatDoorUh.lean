/- Part of the proof of FnServiceAnswer. -/
import Derived.BigQuiet
import Derived.BigRegion
import Derived.Deep.AppendLies
import Derived.Deep.DeepCutAuto
import Derived.Deep.QuietTactic
import Derived.Deep.RegionLaw
import Derived.Test.YtjciicheoghcdaaGreatDoorUb
import Derived.Test.YtjciicheoghcdaaGreatDoorUd
import Derived.Test.YtjciicheoghcdaaGreatDoorUe
import Derived.Test.YtjciicheoghcdaaGreatDoorUf
import Derived.Test.YtjciicheoghcdaaGreatDoorUg
namespace Go.Proofs.YtjciicheoghcdaaGreatDoor
open Go.RowKit Go.Proofs.Tryz
set_option linter.all false
set_option maxRecDepth 20000
set_option maxHeartbeats 16000000
theorem toN {r:Int} (h:1<=r/\r<=5):∃ n:Nat,r=(n:Int)/\1<=n/\n<=5:=⟨r.toNat,by omega,by omega,by omega⟩
theorem e9 {r k ar ac:Nat} (hr:r<ar) (hk:k<ac):r*ac+k<ar*ac:=by
 have:(r+1)*ac<=ar*ac:=Nat.mul_le_mul_right _ hr;rw[Nat.succ_mul] at this
 omega
theorem ub {r c k n:Nat} (h:r*c+k<n) (hn:n<=25):∃ i:Nat,r*c=i/\IntKind.i64.wrap ((r:Int)*(c:Int))=(i:Int)/\IntKind.i64.wrap ((i:Int)+(k:Int))=(i:Int)+(k:Int)/\((i:Int)+(k:Int)).toNat=i+k/\(i:Int)+(k:Int)<(n:Int)/\(0:Int)<=(i:Int)+(k:Int):=by
 refine⟨r*c,rfl,?_⟩;obtain⟨i,hi⟩:∃ i,i=r*c:=⟨_,rfl⟩;have e:(r:Int)*(c:Int)=(i:Int):=by rw[hi];push_cast;rfl
 rw[<-hi] at h ⊢;rw[e]
 exact⟨IntWalk.i64_in _ (by omega),IntWalk.i64_in _ (by omega),by omega,by omega,by omega⟩
theorem mP {r n q:Nat} (h:q<n):(r*n+q)/n=r/\(r*n+q)%n=q:=by
 rw[Nat.mul_comm]
 exact⟨by rw[Nat.mul_add_div (by omega),Nat.div_eq_of_lt h,Nat.add_zero],by rw[Nat.mul_add_mod,Nat.mod_eq_of_lt h]⟩
theorem vY {r q a b:Nat} (h:r*b+q<a*b) (ha:a<=5) (hb:b<=5):r*b+q<25:=Nat.lt_of_lt_of_le h (Nat.mul_le_mul ha hb)
theorem mJ (a b:Mx) (h:iz a b=true) (A1 A2:Option Addr) (p1 p2:Nat) (w:World) (hx0:SI w A1 a.v.length a.v) (hy0:SI w A2 b.v.length b.v) :
  Calls prog 259 #[MV a.r a.c A1 a.v.length p1,MV b.r b.c A2 b.v.length p2] w (bD (mulM a b) w):=by
 have hab:mvB a=true/\mvB b=true/\a.c=b.r:=by
  unfold iz at h;simp only[Bool.and_eq_true,decide_eq_true_eq] at h
  exact⟨h.1,h.2.1,h.2.2⟩
 obtain⟨ha,hb,hc⟩:=hab;have h5:=ta h;obtain⟨ar,ac,v1⟩:=a;obtain⟨br,bc,v2⟩:=b
 dsimp only at hc hx0 hy0 ⊢
 obtain⟨la,sar,sac,_⟩:=cZ ha
 dsimp only at la sar sac
 obtain⟨r1,rfl,r11,r12⟩:=toN (bI sar);obtain⟨c1,rfl,c11,c12⟩:=toN (bI sac);have la':v1.length=r1*c1:=by exact_mod_cast la
 obtain⟨lb,sbr,sbc,_⟩:=cZ hb
 dsimp only at lb sbr sbc
 obtain⟨c2,rfl,c21,c22⟩:=toN (bI sbc);subst hc;have lb':v2.length=c1*c2:=by exact_mod_cast lb
 have hla:v1.length<=25:=by rw[la'];exact Nat.mul_le_mul r12 c12
 have pla:0<v1.length:=by rw[la'];exact Nat.mul_pos r11 c11
 have hlX:v1.length<=1048576:=by omega
 have HX:=Qh hx0;have MX:=Qh ha;have LX:=Qh la';have hlb:v2.length<=25:=by rw[lb'];exact Nat.mul_le_mul c12 c22
 have plb:0<v2.length:=by rw[lb'];exact Nat.mul_pos c11 c21
 have hlY:v2.length<=1048576:=by omega
 have HY:=Qh hy0;have MY:=Qh hb;have LY:=Qh lb';obtain⟨F,hF⟩:∃ F:Nat->Int,F=fun i=>gx ⟨(r1:Int),(c1:Int),v1⟩ ⟨(c1:Int),(c2:Int),v2⟩ c1 c2 (i/c2) (i%c2) c1%4096:=⟨_,rfl⟩
 have HM:Hid (mulM ⟨(r1:Int),(c1:Int),v1⟩ ⟨(c1:Int),(c2:Int),v2⟩=⟨(r1:Int),(c2:Int),fl F (r1*c2)⟩):=by rw[hF];exact h5
 have HF:Hid (∀ r q,q<c2->gx ⟨(r1:Int),(c1:Int),v1⟩ ⟨(c1:Int),(c2:Int),v2⟩ c1 c2 r q c1%4096=F (r*c2+q)):=by
  intro r q h;rw[hF]
  dsimp only
  rw[(mP h).1,(mP h).2]
 clear la la' lb lb' sar sac sbr sbc hx0 hy0 ha hb hF h h5;refine zE ?_;intro u1 H;refine zG (aQ (r1:Int) (c1:Int) v1 A1 _ p1 u1 (SI.below HX.out H.O) hlX) ?_;rintro e w2 ⟨AX,cX,rfl,hos,hb⟩;replace H:=H.os hb hos
 dsimp only at H ⊢
 refine zN ?_;clear H;intro u3 H;refine zG (aQ (c1:Int) (c2:Int) v2 A2 _ p2 u3 (SI.below HY.out H.O) hlY) ?_;rintro e w4 ⟨AY,cY,rfl,hos,hb⟩;replace H:=H.os hb hos
 dsimp only at H ⊢
 refine zN ?_;clear H;intro u5 H;refine zB ((show Calls prog 89 #[_] u5 (fun e w'=>e= .returned (.bool true)/\Below u5.heap.size u5 w') from(show mvB ⟨(r1:Int),(c1:Int),v1⟩=true from MX.out) ▸ aM (r1:Int) (c1:Int) v1 AX _ cX u5 (OS.si (H.o 1)) (by omega))) ?_;clear H;intro w6 u6 H
 refine zB ((show Calls prog 89 #[_] u6 (fun e w'=>e= .returned (.bool true)/\Below u6.heap.size u6 w') from(show mvB ⟨(c1:Int),(c2:Int),v2⟩=true from MY.out) ▸ aM (c1:Int) (c2:Int) v2 AY _ cY u6 (OS.si (H.o 0)) (by omega))) ?_;clear H;intro w7 u7 H
 replace H:=H.nil;obtain⟨gT,hgT⟩:∃ g,g=w7.heap.size:=⟨_,rfl⟩;rw[<-hgT] at H ⊢;clear hgT;obtain⟨gX,rfl,_,_⟩:=(H.o 3).pos (by omega)
 obtain⟨gY,rfl,_,_⟩:=(H.o 2).pos (by omega)
 intros
 go_loopw [6] (fun i wr=>∃ (r J c':Nat) (A':Option Addr),r<=r1/\i= .int .i64 r/\J=r*c2/\Hid (Hq w [qO w.heap.size A' J c' (fl F J),qB gT 37 [.int .i64 (r1:Int),.int .i64 (c2:Int),.slice A' J c'],qO w.heap.size (some ⟨gY,0,none⟩) v2.length cY v2,qO w.heap.size (some ⟨gX,0,none⟩) v1.length cX v1,qB (w.heap.size+2) 37 [.int .i64 0,.int .i64 0,.slice none 0 0],qB (w.heap.size+1) 37 [.int .i64 (c1:Int),.int .i64 (c2:Int),.slice (some ⟨gY,0,none⟩) v2.length cY],qB w.heap.size 37 [.int .i64 (r1:Int),.int .i64 (c1:Int),.slice (some ⟨gX,0,none⟩) v1.length cX]] wr)) (fun i _=>r1-(intOf i).toNat)
 case atStart=>exact⟨0,0,0,none,Nat.zero_le _,rfl,by omega,H⟩
 case round =>
 clear H;obtain⟨r,J,c',A',hr,rfl,hJ,H⟩:=hrel;have HJ:=Qh hJ;clear hJ;have H:=H.out
 by_cases hlt:r<r1
 ·refine zN ?_;clear H;intro u H;intros
  go_loopw [7] (fun i wr=>∃ (p J c':Nat) (A':Option Addr),p<=c2/\i= .int .i64 p/\J=r*c2+p/\Hid (Hq w [qO w.heap.size A' J c' (fl F J),qB gT 37 [.int .i64 (r1:Int),.int .i64 (c2:Int),.slice A' J c'],qO w.heap.size (some ⟨gY,0,none⟩) v2.length cY v2,qO w.heap.size (some ⟨gX,0,none⟩) v1.length cX v1,qB (w.heap.size+2) 37 [.int .i64 0,.int .i64 0,.slice none 0 0],qB (w.heap.size+1) 37 [.int .i64 (c1:Int),.int .i64 (c2:Int),.slice (some ⟨gY,0,none⟩) v2.length cY],qB w.heap.size 37 [.int .i64 (r1:Int),.int .i64 (c1:Int),.slice (some ⟨gX,0,none⟩) v1.length cX]] wr)) (fun i _=>c2-(intOf i).toNat)
  case atStart=>exact⟨0,J,c',A',Nat.zero_le _,rfl,by have:=HJ.out;omega,H⟩
  case round =>
  clear H;obtain⟨p,J,c',A',hp,rfl,hJ,H⟩:=hrel;have HJ:=Qh hJ;clear hJ;have H:=H.out
  by_cases hpc:p<c2
  ·have J25:J<25:=by rw[HJ.out];exact vY (e9 hlt hpc) r12 c22
   refine zN ?_;clear H;intro u H;intros
   go_loopw [8,9] (fun v i wr=>∃ k:Nat,k<=c1/\i= .int .i64 k/\v= .int .i64 (gx ⟨(r1:Int),(c1:Int),v1⟩ ⟨(c1:Int),(c2:Int),v2⟩ c1 c2 r p k)/\Hid (Hq w [qO w.heap.size A' J c' (fl F J),qB gT 37 [.int .i64 (r1:Int),.int .i64 (c2:Int),.slice A' J c'],qO w.heap.size (some ⟨gY,0,none⟩) v2.length cY v2,qO w.heap.size (some ⟨gX,0,none⟩) v1.length cX v1,qB (w.heap.size+2) 37 [.int .i64 0,.int .i64 0,.slice none 0 0],qB (w.heap.size+1) 37 [.int .i64 (c1:Int),.int .i64 (c2:Int),.slice (some ⟨gY,0,none⟩) v2.length cY],qB w.heap.size 37 [.int .i64 (r1:Int),.int .i64 (c1:Int),.slice (some ⟨gX,0,none⟩) v1.length cX]] wr)) (fun _ i _=>c1-(intOf i).toNat)
   case atStart=>exact⟨0,Nat.zero_le _,rfl,rfl,H⟩
   case round =>
   clear H;obtain⟨k,hk,rfl,rfl,H⟩:=hrel;have H:=H.out
   by_cases hkc:k<c1
   ·have hi1:r*c1+k<v1.length:=by rw[LX.out];exact e9 hlt hkc
    have hi2:k*c2+p<v2.length:=by rw[LY.out];exact e9 hkc hpc
    obtain⟨x0,x1⟩:=dE MX.out (r*c1+k);obtain⟨y0,y1⟩:=dE MY.out (k*c2+p);obtain⟨s0,s1⟩:=jD MX.out MY.out c1 c2 r p k
    dsimp only at x0 x1 y0 y1
    have HDS:Hid (gx ⟨(r1:Int),(c1:Int),v1⟩ ⟨(c1:Int),(c2:Int),v2⟩ c1 c2 r p (k+1)=gx ⟨(r1:Int),(c1:Int),v1⟩ ⟨(c1:Int),(c2:Int),v2⟩ c1 c2 r p k+v1.getD (r*c1+k) 0*v2.getD (k*c2+p) 0):=rfl;obtain⟨i1,hi1e,m1,w1,t1,j1,j2⟩:=ub hi1 hla;obtain⟨i2,hi2e,m2,w2,t2,j3,j4⟩:=ub hi2 hlb;rw[hi1e] at hi1 x0 x1 HDS;rw[hi2e] at hi2 y0 y1 HDS;clear hi1e hi2e;obtain⟨s,hs⟩:∃ s,s=gx ⟨(r1:Int),(c1:Int),v1⟩ ⟨(c1:Int),(c2:Int),v2⟩ c1 c2 r p k:=⟨_,rfl⟩;have Es:=Qh hs;obtain⟨x,hx⟩:∃ x,x=v1.getD (i1+k) 0:=⟨_,rfl⟩;have Ex:=Qh hx;obtain⟨y,hy⟩:∃ y,y=v2.getD (i2+p) 0:=⟨_,rfl⟩;have Ey:=Qh hy;rw[<-hs,<-hx,<-hy] at HDS;rw[<-hs] at s0 s1 ⊢;rw[<-hx] at x0 x1;rw[<-hy] at y0 y1;clear hs hx hy Es;have hxy:x*y<=4095*4095:=Int.mul_le_mul x1 y1 y0 (by omega)
    have hxy0:=Int.mul_nonneg x0 y0;have hk5:(k:Int)<=5:=by omega
    have hs5:s<=100000000:=by omega
    have w3:=IntWalk.i64_in (x*y) (by omega)
    have w4:=IntWalk.i64_in (s+x*y) (by omega)
    refine zC ?_;intro C;intros;go_upto_region 16 with fail;refine zM ?_;clear H C;intro u21 H;have ezX:=(a7 (H.o 3) hi1).1;have ezY:=(a7 (H.o 2) hi2).1;refine zX (tg [(w.heap.size+1),w.heap.size,gX,gY]) ?_;clear H;intro S w22 hne H;refine zD ((And.intro (H.c 5) (H.c 6))) ?_;intro G;have rX:=(a7 (H.o 3) hi1).2.1;rw[<-Ex.out] at rX;replace rX:=H.row rX;have rY:=(a7 (H.o 2) hi2).2.1;rw[<-Ey.out] at rY;replace rY:=H.row rY;intros
    repeat (first|(refine lc' ?_;intro K hK;go_big_quiet_op;go_big_quiet_on)|refine lk' ?_)
    refine aI ?_;replace H:=H.H;clear G;replace H:=(((((((H.r 6).r 6).r 6).r 6).r 6).r 6).r 6);refine zC ?_;intro C;intros;go_wp2
    go_roundw
    case rel=>exact⟨k+1,by omega,by go_num,by rw[HDS.out],H⟩
    case measure=>simp[intOf];omega
   ·obtain rfl:k=c1:=by omega
    obtain⟨s,hs⟩:∃ s,s=gx ⟨(r1:Int),(k:Int),v1⟩ ⟨(k:Int),(c2:Int),v2⟩ k c2 r p k:=⟨_,rfl⟩;have Es:=Qh hs;have HFJ:=HF.out r p hpc;rw[<-hs,<-HJ.out] at HFJ;rw[<-hs];obtain⟨v,hv⟩:∃ v,v=s%4096:=⟨_,rfl⟩;rw[<-hv] at HFJ;have HRG:Hid (∀ W:World,Calls prog 132 #[.int .i64 s] W fun e w'=>e= .returned (.int .i64 v)/\W=w'):=by rw[hv];exact fun W=>bG s W
    have HS:Hid (fl F J++[v]=fl F (J+1)):=by rw[HFJ];exact(dd F J).symm
    clear hv HFJ hs Es;refine zC ?_;intro C;intros;go_upto_region 17 with fail;refine zM ?_;clear H C;intro u51 H;refine zXZ (tg [gT]) ?_;clear H;intro S w52 hne H;refine zD (H.c 1) ?_;intro G;refine yP (HRG.out w52) ?_;refine yM ?_;clear H;intro w53 H;replace H:=H.r 1;refine yA (dQ (H.k 1)) True.intro ?_;clear H;intro C1 k1 w54 H;intros;refine zCr ?_;intro C;intros
    repeat (first|(refine lc' ?_;intro K hK;go_big_quiet_op;go_big_quiet_on)|refine lk' ?_)
    refine aV rfl (by rfl) (by rfl) (fun K hK=>?_)
    unfold Oper.gives
    go_simp
    refine hK _ _ ?_;replace H:=H.H;refine aI ?_;clear C G;replace H:=((((((((H.d 1).r 6).r 6).r 6).r 6).r 6).r 6).r 6);refine zC ?_;intro C;intros;go_wp2
    go_roundw
    case rel=>exact⟨p+1,J+1,k1,C1,by omega,by go_num,by have:=HJ.out;omega,(by rw[HS.out] at H;exact(Qh hq))⟩
    case measure=>simp[intOf];omega
  ·obtain rfl:p=c2:=by omega
   replace H:=(((((((H.r 6).r 6).r 6).r 6).r 6).r 6).r 6);refine zC ?_;intro C;intros;go_wp2
   go_roundw
   case rel=>exact⟨r+1,J,c',A',by omega,by go_num,by rw[Nat.succ_mul];have:=HJ.out;omega,H⟩
   case measure=>simp[intOf];omega
 ·obtain rfl:r=r1:=by omega
  refine zS_ ?_;clear H;intro u91 H
  exact(by rw[HM.out,<-HJ.out];exact⟨A',c',by dsimp only;rw[aD],by dsimp only;rw[aD];exact(H.o 0),H.O⟩)
section
attribute [local go_sem] af ah ae
theorem gN {x:Int} {n:Nat} (h:x=(n:Int)) (hn:n<=4611686018427387904):IntKind.i64.wrap x=(n:Int):=by
 rw[h];exact IntWalk.i64_in _ (by omega)
theorem B8 {u v:Value} (h:u=v):Ending.returned u=Ending.returned v:=congrArg _ h
theorem dT {n:Nat} {f f':Nat->Int} (h:∀ k,k<n->f k=f' k):fl f n=fl f' n:=by
 unfold fl
 exact List.map_congr_left fun k hk=>h k (List.mem_range.1 hk)
theorem j6 (n:Nat) (x:Int):fl (fun _=>x) n=List.replicate n x:=by
 unfold fl;apply List.ext_getElem <;> simp
theorem Bx (f:Nat->Int) {n k:Nat} (h:k<n):(fl f n).getD k 0=f k:=by simp[fl,h]
theorem nS {m:Mx} (h:mvB m=true):∃ (r c:Nat) (v:List Int),m=⟨(r:Int),(c:Int),v⟩/\1<=r/\r<=5/\1<=c/\c<=5/\v.length=r*c/\v.length<=25:=by
 obtain⟨r,c,v⟩:=m;obtain⟨h1,h2,h3,_⟩:=cZ h;have h25:=(dy h).2;obtain⟨a1,a2⟩:=bI h2;obtain⟨b1,b2⟩:=bI h3
 dsimp only at *
 obtain⟨r,rfl⟩:=Int.eq_ofNat_of_zero_le (by omega:0<=r)
 obtain⟨c,rfl⟩:=Int.eq_ofNat_of_zero_le (by omega:0<=c)
 exact⟨r,c,v,rfl,by omega,by omega,by omega,by omega,by exact_mod_cast h1,h25⟩
theorem kR {w w':World} {B b off n i:Nat} {v:List Int} (h:SI w (some ⟨b,off,none⟩) n v) (hb:Below B w w') (hB:w.heap.size<=B) (hi:i<n):w'.cell? ⟨b,off+i,none⟩=some (.int .i64 (v.getD i 0)):=by
 obtain⟨b',off',e,hl,hc⟩:=(SI.below h (hb.mono hB)).2 (by omega)
 injection e with e;injection e with e1 e2;subst e1 e2
 exact hc i hi
theorem pW {n i:Nat} {f f':Nat->Int} {v:Int} (hi:i<n) (hf:∀ k,k<n->f' k=if k=i then v else f k):fl f' n=(fl f n).set i v:=by
 apply List.ext_getElem
 ·simp[aD]
 ·intro k hk _;have hk':k<n:=by simpa [aD] using hk
  rw[List.getElem_set];simp only[fl,List.getElem_map,List.getElem_range];rw[hf k hk']
  by_cases hik:i=k
  ·subst hik;simp
  ·simp[hik,Ne.symm hik]
theorem qj {r c k n:Nat} (hk:k<r) (hr:r<=5) (hc:1<=c/\c<=5) (hn:n=r*c) {b off cap:Nat} (hcap:n<=cap) (hm:cap<=maxLen) (w:World) :
  Calls prog 58 #[MV (r:Int) (c:Int) (some ⟨b,off,none⟩) n cap,.int .i64 (k:Int)] w fun e w'=>e= .returned (.slice (some ⟨b,off+k*c,none⟩) c (cap-k*c))/\Below w.heap.size w w':=by
 obtain⟨i1,h1⟩:∃ i1,i1=k*c:=⟨_,rfl⟩;obtain⟨i2,h2⟩:∃ i2,i2=(k+1)*c:=⟨_,rfl⟩;have l2:i2=i1+c:=by rw[h1,h2,Nat.succ_mul]
 have l3:i2<=n:=by rw[h2,hn];exact Nat.mul_le_mul_right c hk
 have l4:n<=25:=by rw[hn];exact Nat.mul_le_mul hr hc.2
 have e1:IntKind.i64.wrap ((k:Int)*(c:Int))=(i1:Int):=gN (by rw[h1];push_cast;rfl) (by omega)
 have e2:IntKind.i64.wrap (((k:Int)+1)*(c:Int))=(i2:Int):=gN (by rw[h2];push_cast;rfl) (by omega)
 have HE:Hid (Value.slice (some ⟨b,off+i1,none⟩) (i1+c-i1) (cap-i1)=Value.slice (some ⟨b,off+k*c,none⟩) c (cap-k*c)):=by
  show Value.slice (some ⟨b,off+i1,none⟩) (i1+c-i1) (cap-i1)=Value.slice (some ⟨b,off+k*c,none⟩) c (cap-k*c)
  rw[<-h1,show i1+c-i1=c by omega]
 have b1:(0:Int)<=(i1:Int):=by omega
 have b2:(i1:Int)<=(i2:Int):=by omega
 have b3:(i2:Int)<=(cap:Int):=by omega
 have b4:¬cap=i1:=by omega
 have b5:(0:Int)<=(i2:Int):=by omega
 clear h1 h2 hn
 go_enter func58,ntmps58
 go_wp2
 go_ret
 exact⟨B8 HE.out,(Qb.alloc Ql _)⟩
theorem uQ {r c k yq n:Nat} (hk:k<r) (hr:r<=5) (hq:yq<c) (hc:c<=5) (hn:n=r*c) {b off cap:Nat} {v:List Int} (w:World) (hv:SI w (some ⟨b,off,none⟩) n v) :
  Calls prog 302 #[MV (r:Int) (c:Int) (some ⟨b,off,none⟩) n cap,.int .i64 (k:Int),.int .i64 (yq:Int)] w fun e w'=>e= .returned (.int .i64 (v.getD (k*c+yq) 0))/\Below w.heap.size w w':=by
 have hi:k*c+yq<n:=by rw[hn];exact e9 hk hq
 have l4:n<=25:=by rw[hn];exact Nat.mul_le_mul hr hc
 have cx:=kR hv (Below.refl w.heap.size w) Ql hi;have hb:b<w.heap.size:=by
  obtain⟨b',off',e,hl,_⟩:=hv.2 (by omega)
  injection e with e;injection e with e1 e2;subst e1;exact hl
 obtain⟨i1,h1⟩:∃ i1,i1=k*c:=⟨_,rfl⟩;have e1:IntKind.i64.wrap ((k:Int)*(c:Int))=(i1:Int):=gN (by rw[h1];push_cast;rfl) (by omega)
 rw[<-h1] at hi cx;have b1:(0:Int)<=(i1:Int)+(yq:Int):=by omega
 have b2:(i1:Int)+(yq:Int)<(n:Int):=by omega
 have b3:((i1:Int)+(yq:Int)).toNat=i1+yq:=by omega
 have b4:=IntWalk.i64_in ((i1:Int)+(yq:Int)) (by omega)
 rw[<-h1];clear h1 hn hv
 go_enter func302,ntmps302
 go_wp2
 go_ret
 exact⟨rfl,(Qb.alloc Ql _)⟩
theorem mx {ma mb:Mx} (h:iz ma mb=true) (A1 A2:Option Addr) (p1 p2:Nat) (w:World) (hx0:SI w A1 ma.v.length ma.v) (hy0:SI w A2 mb.v.length mb.v) (hp1:ma.v.length<=p1) (hq1:p1<=maxLen) :
  Calls prog 296 #[MV ma.r ma.c A1 ma.v.length p1,MV mb.r mb.c A2 mb.v.length p2] w (bD (mulM ma mb) w):=by
 have hmm:=ta h;unfold iz at h;simp only[Bool.and_eq_true,decide_eq_true_eq] at h;obtain⟨ha,hb,hc⟩:=h;obtain⟨r1,c1,v1,rfl,r11,r12,c11,c12,l1,b1⟩:=nS ha;obtain⟨c1',c2,v2,rfl,_,_,c21,c22,l2,b2⟩:=nS hb
 dsimp only at hc hx0 hy0 hp1
 obtain rfl:c1=c1':=by exact_mod_cast hc
 clear hc;obtain⟨a1,o1,rfl,_,_⟩:=hx0.2 (by rw[l1];exact Nat.mul_pos r11 c11)
 obtain⟨a2,o2,rfl,_,_⟩:=hy0.2 (by rw[l2];exact Nat.mul_pos c11 c21)
 obtain⟨n,hnn⟩:∃ n,n=r1*c2:=⟨_,rfl⟩;have hN:(r1:Int)*(c2:Int)=(n:Int):=by rw[hnn];push_cast;rfl
 have hn1:0<n:=by rw[hnn];exact Nat.mul_pos r11 c21
 have hn25:n<=25:=by rw[hnn];exact Nat.mul_le_mul r12 c22
 have hn2:n<=1048576:=by omega
 obtain⟨F,hF⟩:∃ F:Nat->Int,F=fun i=>gx ⟨(r1:Int),(c1:Int),v1⟩ ⟨(c1:Int),(c2:Int),v2⟩ c1 c2 (i/c2) (i%c2) c1%4096:=⟨_,rfl⟩
 have HMM:Hid (mulM ⟨(r1:Int),(c1:Int),v1⟩ ⟨(c1:Int),(c2:Int),v2⟩=⟨(r1:Int),(c2:Int),fl F n⟩):=by
  show mulM _ _=_
  rw[hmm,hF,hnn]
  rfl
 have HX:=Qh hx0;have HY:=Qh hy0;have HA:=Qh ha;have HB:=Qh hb;have HL1:=Qh l1;have HL2:=Qh l2;have HN:=Qh hN;have HNN:=Qh hnn;have HFN:=Qh hF;clear hx0 hy0 ha hb l1 l2 hN hnn hF hmm;refine zE ?_;intro u1 H;refine zB (bP (m:=⟨(r1:Int),(c1:Int),v1⟩) HA.out u1 (SI.below HX.out H.O)) ?_;clear H;intro w2 u2 H;refine zB (bP (m:=⟨(c1:Int),(c2:Int),v2⟩) HB.out u2 (SI.below HY.out H.O)) ?_;clear H;intro w3 u3 H;refine zG (di HN.out hn2 u3) ?_;rintro e w4 ⟨A,cG,rfl,hos,hb⟩;replace H:=H.os hb hos;clear hos hb
 dsimp only at H ⊢
 rw[List.length_replicate] at H ⊢;obtain⟨g,rfl,-,-⟩:=OS.pos (H.o 0) hn1;refine zN ?_;clear H;intro u5 H;obtain⟨gT,hgT⟩:∃ g,g=w4.heap.size:=⟨_,rfl⟩;rw[<-hgT] at H ⊢;clear hgT;replace H:=(((((H.r 4).r 4).r 4).r 3).r 4);intros
 go_loopw [35] (fun i wr=>∃ r:Nat,r<=r1/\i= .int .i64 r/\Hid (Hq w [qO w.heap.size (some ⟨g,0,none⟩) n cG (fl (fun i=>if i<r*c2+0 then F i else 0) n),qB gT 37 [.int .i64 (r1:Int),.int .i64 (c2:Int),.slice (some ⟨g,0,none⟩) n cG],qB (w.heap.size+2) 37 [.int .i64 0,.int .i64 0,.slice none 0 0],qB (w.heap.size+1) 37 [.int .i64 (c1:Int),.int .i64 (c2:Int),.slice (some ⟨a2,o2,none⟩) v2.length p2],qB w.heap.size 37 [.int .i64 (r1:Int),.int .i64 (c1:Int),.slice (some ⟨a1,o1,none⟩) v1.length p1]] wr)) (fun i _=>r1-(intOf i).toNat)
 case atStart=>exact⟨0,Nat.zero_le _,rfl,by rw[show fl (fun i=>if i<0*c2+0 then F i else 0) n=List.replicate n 0 from by rw[<-j6];exact dT fun k _=>by simp];exact H⟩
 case round =>
 clear H;obtain⟨r,hr,rfl,H⟩:=hrel;have H:=H.out
 by_cases hlt:r<r1
 ·refine zN ?_;clear H;intro u21 H;refine zB (qj hlt r12 ⟨c11,c12⟩ HL1.out hp1 hq1 u21) ?_;clear H;intro w22 u22 H;intros
  go_loopw [43] (fun i wr=>∃ p:Nat,p<=c2/\i= .int .i64 p/\Hid (Hq w [qO w.heap.size (some ⟨g,0,none⟩) n cG (fl (fun i=>if i<r*c2+p then F i else 0) n),qB gT 37 [.int .i64 (r1:Int),.int .i64 (c2:Int),.slice (some ⟨g,0,none⟩) n cG],qB (w.heap.size+2) 37 [.int .i64 0,.int .i64 0,.slice none 0 0],qB (w.heap.size+1) 37 [.int .i64 (c1:Int),.int .i64 (c2:Int),.slice (some ⟨a2,o2,none⟩) v2.length p2],qB w.heap.size 37 [.int .i64 (r1:Int),.int .i64 (c1:Int),.slice (some ⟨a1,o1,none⟩) v1.length p1]] wr)) (fun i _=>c2-(intOf i).toNat)
  case atStart=>exact⟨0,Nat.zero_le _,rfl,H⟩
  case round =>
  clear H;obtain⟨p,hp,rfl,H⟩:=hrel;have H:=H.out
  by_cases hqc:p<c2
  ·refine zN ?_;clear H;intro u31 H;intros
   go_loopw [9,48] (fun v9 i wr=>∃ k:Nat,k<=c1/\i= .int .i64 k/\v9= .int .i64 (gx ⟨(r1:Int),(c1:Int),v1⟩ ⟨(c1:Int),(c2:Int),v2⟩ c1 c2 r p k)/\Hid (Hq w [qO w.heap.size (some ⟨g,0,none⟩) n cG (fl (fun i=>if i<r*c2+p then F i else 0) n),qB gT 37 [.int .i64 (r1:Int),.int .i64 (c2:Int),.slice (some ⟨g,0,none⟩) n cG],qB (w.heap.size+2) 37 [.int .i64 0,.int .i64 0,.slice none 0 0],qB (w.heap.size+1) 37 [.int .i64 (c1:Int),.int .i64 (c2:Int),.slice (some ⟨a2,o2,none⟩) v2.length p2],qB w.heap.size 37 [.int .i64 (r1:Int),.int .i64 (c1:Int),.slice (some ⟨a1,o1,none⟩) v1.length p1]] wr)) (fun _ i _=>c1-(intOf i).toNat)
   case atStart=>exact⟨0,Nat.zero_le _,rfl,rfl,H⟩
   case round =>
   clear H;obtain⟨k,hk,rfl,rfl,H⟩:=hrel;have H:=H.out
   by_cases hkc:k<c1
   ·have hi1:r*c1+k<v1.length:=by rw[HL1.out];exact e9 hlt hkc
    have cx:=kR HX.out H.O Ql hi1;rw[<-Nat.add_assoc] at cx;obtain⟨x0,x1⟩:=dE HA.out (r*c1+k);obtain⟨y0,y1⟩:=dE HB.out (k*c2+p);obtain⟨s0,s1⟩:=jD HA.out HB.out c1 c2 r p k
    dsimp only at x0 x1 y0 y1
    have HDS:Hid (gx ⟨(r1:Int),(c1:Int),v1⟩ ⟨(c1:Int),(c2:Int),v2⟩ c1 c2 r p (k+1)=gx ⟨(r1:Int),(c1:Int),v1⟩ ⟨(c1:Int),(c2:Int),v2⟩ c1 c2 r p k+v1.getD (r*c1+k) 0*v2.getD (k*c2+p) 0):=rfl;have HVA:Hid (∀ W:World,Below w.heap.size w W->Calls prog 302 #[MV (c1:Int) (c2:Int) (some ⟨a2,o2,none⟩) v2.length p2,.int .i64 (k:Int),.int .i64 (p:Int)] W fun e w'=>e= .returned (.int .i64 (v2.getD (k*c2+p) 0))/\Below W.heap.size W w'):=fun W hW=>uQ hkc c12 hqc c22 HL2.out W (SI.below HY.out hW)
    obtain⟨s,hs⟩:∃ s,s=gx ⟨(r1:Int),(c1:Int),v1⟩ ⟨(c1:Int),(c2:Int),v2⟩ c1 c2 r p k:=⟨_,rfl⟩;obtain⟨x,hx⟩:∃ x,x=v1.getD (r*c1+k) 0:=⟨_,rfl⟩;obtain⟨y,hy⟩:∃ y,y=v2.getD (k*c2+p) 0:=⟨_,rfl⟩;rw[<-hs,<-hx,<-hy] at HDS;rw[<-hy] at HVA;rw[<-hs] at s0 s1 ⊢;rw[<-hx] at x0 x1 cx;rw[<-hy] at y0 y1;clear hs hx hy hi1;have hxy:x*y<=4095*4095:=Int.mul_le_mul x1 y1 y0 (by omega)
    have hxy0:=Int.mul_nonneg x0 y0;have hs5:s<=100000000:=by omega
    have w1:=IntWalk.i64_in (x*y) (by omega)
    have w2:=IntWalk.i64_in (s+x*y) (by omega)
    have j0:(0:Int)<=(k:Int):=by omega
    have j1:(k:Int)<(c1:Int):=by omega
    refine zN ?_;clear H;intro u41 H;refine zG (HVA.out u41 H.O) ?_;rintro e w42 ⟨rfl,hb⟩;replace H:=H.b hb;clear hb;refine zC ?_;intro C;intros;go_wp2
    go_roundw
    case rel=>exact⟨k+1,by omega,by go_num,by rw[HDS.out],H⟩
    case measure=>simp[intOf];omega
   ·obtain rfl:k=c1:=by omega
    obtain⟨jj,hjj⟩:∃ jj,jj=r*c2:=⟨_,rfl⟩;have hjl:jj+p<n:=by rw[hjj,HNN.out];exact e9 hlt hqc
    have hFv:gx ⟨(r1:Int),(k:Int),v1⟩ ⟨(k:Int),(c2:Int),v2⟩ k c2 r p k%4096=F (jj+p):=by
     have e1:(r*c2+p)/c2=r:=by rw[Nat.mul_comm,Nat.mul_add_div (by omega),Nat.div_eq_of_lt hqc,Nat.add_zero]
     have e2:(r*c2+p)%c2=p:=by rw[Nat.mul_comm,Nat.mul_add_mod,Nat.mod_eq_of_lt hqc]
     rw[HFN.out,hjj]
     dsimp only
     rw[e1,e2]
    have hm2w:IntKind.i64.wrap ((r:Int)*(c2:Int))=(jj:Int):=gN (by rw[hjj];push_cast;rfl) (by omega)
    rw[<-hjj] at H;obtain⟨s,hs⟩:∃ s,s=gx ⟨(r1:Int),(k:Int),v1⟩ ⟨(k:Int),(c2:Int),v2⟩ k c2 r p k:=⟨_,rfl⟩;rw[<-hs] at hFv ⊢;obtain⟨v,hv⟩:∃ v,v=s%4096:=⟨_,rfl⟩;have HRG:Hid (∀ W:World,Calls prog 180 #[.int .i64 s] W fun e w'=>e= .returned (.int .i64 v)/\W=w'):=by rw[hv];exact fun W=>dK s W
    have HST:Hid (fl (fun i=>if i<r*c2+(p+1) then F i else 0) n=(fl (fun i=>if i<jj+p then F i else 0) n).set (jj+p) v):=pW hjl fun i hi=>by rw[<-hjj,hv.trans hFv];by_cases e:i=jj+p <;> by_cases e2:i<jj+p <;> simp[e,e2] <;> omega
    clear hs hv hFv hjj;have j0:(0:Int)<=(jj:Int)+(p:Int):=by omega
    have j1:(jj:Int)+(p:Int)<(n:Int):=by omega
    have j2:((jj:Int)+(p:Int)).toNat=jj+p:=by omega
    have j3:=IntWalk.i64_in ((jj:Int)+(p:Int)) (by omega)
    refine zN ?_;clear H;intro u51 H;refine zXZ (tg [gT,(w.heap.size+1)]) ?_;clear H;intro S w52 hne H;refine zD ((And.intro (H.c 1) (H.c 3))) ?_;intro G;refine yP (HRG.out w52) ?_;have D:=a7 (H.o 0) hjl;refine nY ?_;clear H D;intro u52 H;refine zC ?_;intro C;intros;go_wp2
    go_roundw
    case rel=>exact⟨p+1,by omega,by go_num,(by rw[HST.out];exact H)⟩
    case measure=>simp[intOf];omega
  ·obtain rfl:p=c2:=by omega
   have HSE:Hid ((fun i=>if i<r*p+p then F i else 0)=(fun i=>if i<(r+1)*p+0 then F i else 0)):=by show _=_;rw[show r*p+p=(r+1)*p+0 from by rw[Nat.succ_mul,Nat.add_zero]]
   refine zC ?_;intro C;intros;go_wp2
   go_roundw
   case rel=>exact⟨r+1,by omega,by go_num,(by rw[<-HSE.out];exact H)⟩
   case measure=>simp[intOf];omega
 ·obtain rfl:r=r1:=by omega
  rw[show fl (fun i=>if i<r*c2+0 then F i else 0) n=fl F n from dT fun i hi=>by rw[if_pos (by rw[Nat.add_zero,<-HNN.out];exact hi)]] at H
  refine zS_ ?_;clear H;intro u81 H
  exact(by rw[HMM.out];exact⟨some ⟨g,0,none⟩,cG,by dsimp only;rw[aD],by dsimp only;rw[aD];exact(H.o 0),H.O⟩)
end
def nxt (s:Int):Int:=s*48271%2147483647
theorem tf {s:Int} (h:1<=s/\s<=2147483646):1<=nxt s/\nxt s<=2147483646:=by
 obtain⟨m,rfl⟩:∃ m:Nat,s=(m:Int):=⟨s.toNat,by omega⟩
 have hne:m*48271%2147483647≠0:=by
  intro h0;have hd:2147483647∣m*48271:=Nat.dvd_of_mod_eq_zero h0;have hc:Nat.Coprime 2147483647 48271:=by decide +kernel
  have:=hc.dvd_of_dvd_mul_right hd;have:=Nat.le_of_dvd (by omega) this
  omega
 have e:nxt (m:Int)=((m*48271%2147483647:Nat):Int):=by simp[nxt]
 rw[e];have:=Nat.mod_lt (m*48271) (by decide:0<2147483647)
 omega
def sds (s:Int):Nat->Int
 | 0=>s
 | k+1=>nxt (sds s k)
theorem lO {s:Int} (h:1<=s/\s<=2147483646):∀ k,1<=sds s k/\sds s k<=2147483646
 | 0=>h
 | k+1=>tf (lO h k)
def rn (s:Int) (k:Nat):Int:=sds s (k+1)/8%4096
theorem dB (s:Int) (k:Nat):0<=rn s k/\rn s k<=4095:=by unfold rn;omega
theorem pA {s:Int} (h:1<=s/\s<=2147483646):IntKind.i64.wrap (s*48271)=s*48271/\(s*48271).tmod 2147483647=nxt s/\IntKind.i64.wrap (48271*s)=48271*s/\(48271*s).tmod 2147483647=nxt s:=by
 have e:48271*s=s*48271:=Int.mul_comm _ _;rw[e];have h1:IntKind.i64.wrap (s*48271)=s*48271:=IntWalk.i64_in _ (by omega)
 have h2:(s*48271).tmod 2147483647=nxt s:=Int.tmod_eq_emod_of_nonneg (by omega)
 exact⟨h1,h2,h1,h2⟩
theorem aU {x:Int} (h:1<=x/\x<=2147483646) (w:World):Calls prog 70 #[.int .i64 x] w fun e w'=>e= .returned (.bool true)/\w=w':=by
 obtain⟨h0,h1⟩:=h
 go_enter func70,ntmps70
 go_wp2
 go_ret
 exact⟨rfl,rfl⟩
theorem wZ {s:Int} (h:1<=s/\s<=2147483646) (w:World):Calls prog 183 #[.int .i64 s] w fun e w'=>e= .returned (.int .i64 (nxt s))/\w=w':=by
 obtain⟨h1,h2,_,_⟩:=pA h;obtain⟨q,hq⟩:∃ q,q=nxt s:=⟨_,rfl⟩;rw[<-hq] at h2 ⊢;clear hq
 go_enter func183,ntmps183
 go_wp2
 go_ret
 exact⟨rfl,rfl⟩
theorem qf {s:Int} (h:1<=s/\s<=2147483646) (w:World):Calls prog 279 #[.int .i64 s] w fun e w'=>e= .returned (.tuple #[.int .i64 (nxt s/8%4096),.int .i64 (nxt s)])/\w=w':=by
 obtain⟨_,_,h1,h2⟩:=pA h;have hok:=tf h;have h3:(nxt s).tdiv 8=nxt s/8:=Int.tdiv_eq_ediv_of_nonneg (by omega)
 have h5:IntKind.i64.wrap (nxt s/8)=nxt s/8:=IntWalk.i64_in _ (by omega)
 have h6:wrap64 (nxt s/8)=nxt s/8:=IntWalk.wrap64_in _ (by omega)
 obtain⟨q,hq⟩:∃ q,q=nxt s:=⟨_,rfl⟩;rw[<-hq] at h2 h3 h5 h6 ⊢;clear hok hq
 go_enter func279,ntmps279
 go_wp2_with fail
 refine Qc (aU h w) ?_
 go_wp2_with fail
 refine Qc (dK (q/8) w) ?_;go_wp2
 exact bodyPost_ret (v:= .tuple #[.int .i64 (q/8%4096),.int .i64 q]) (by simp[results,results279,go_sem]) rfl ⟨rfl,rfl⟩
def Rls (s:Int) (n:Nat) (w:World) (e:Ending) (w':World):Prop:=∃ (A:Option Addr) (c:Nat),e= .returned (.tuple #[.slice A n c,.int .i64 (sds s n)])/\OS w' w.heap.size A n c (fl (rn s) n)/\Below w.heap.size w w'
theorem kQ {s:Int} (h:1<=s/\s<=2147483646) (n:Nat) (hn:n<=4096) (w:World):Calls prog 136 #[.int .i64 s,.int .i64 (n:Int)] w (Rls s n w):=by
 obtain⟨i0,hi,hz0,hz1,hz2⟩:=info_parts eU;have HS:=Qh h;have HZ:Hid (OS (w.alloc (.cells #[] 3)) w.heap.size (some ⟨w.heap.size,0,none⟩) 0 0 []):=World.ownsRow_made w _ 0 Ql (by unfold maxLen;omega) rfl
 have HW:=Qh ((Below.refl w.heap.size w).alloc Ql (.cells #[] 3));clear h
 go_enter func136,ntmps136
 go_wp2
 go_loopw [0,6,7] (fun vs vo vk wr=>∃ (j c:Nat) (q:Int) (B:Option Addr),j<=n/\vk= .int .i64 j/\vs= .int .i64 q/\Hid (q=sds s j)/\vo= .slice B j c/\Hid (OS wr w.heap.size B j c (fl (rn s) j))/\Hid (Below w.heap.size w wr)) (fun _ _ vk _=>n-(intOf vk).toNat)
 case atStart=>exact⟨0,0,s,_,Nat.zero_le _,rfl,rfl,rfl,rfl,HZ,HW⟩
 case round =>
  obtain⟨j,c,q,B,hj,rfl,rfl,hq,rfl,hos,hbel⟩:=hrel
  by_cases hlt:j<n
  ·have hqok:1<=q/\q<=2147483646:=by rw[hq.out];exact lO HS.out j
   have hnok:=tf hqok;obtain⟨z,hz⟩:∃ z,z=nxt q:=⟨_,rfl⟩;have HZN:Hid (z=sds s (j+1)):=by rw[hz,hq.out];rfl
   have h3:z.tdiv 8=z/8:=Int.tdiv_eq_ediv_of_nonneg (by omega)
   have h4:(z/8).tmod 4096=z/8%4096:=Int.tmod_eq_emod_of_nonneg (by omega)
   have h5:IntKind.i64.wrap (z/8)=z/8:=IntWalk.i64_in _ (by omega)
   have h6:wrap64 (z/8)=z/8:=IntWalk.wrap64_in _ (by omega)
   obtain⟨y,hy⟩:∃ y,y=z/8%4096:=⟨_,rfl⟩;have HY:Hid (y=rn s j):=by rw[hy,HZN.out];rfl
   rw[<-hy] at h4;have hN:=wZ hqok wr;rw[<-hz] at hN;have HN:=Qh hN;have hjI:(j:Int)<(n:Int):=by omega
   have hszr:w.heap.size<=wr.heap.size:=hbel.out.size;clear hN hz hy hnok
   go_wp2_with fail
   refine Qc HN.out ?_
   go_wp2_with (at_builtin;refine wpList_append_lies _ rfl _ _ 35 rfl w.heap.size 3 i0 (.int .i64 0) 1 8 underlying35 hi hz0 hz1 hz2 rfl (by decide) (.slice B j c) j _ rfl (World.ownsRow.alloc hos.out _) ⟨wr.heap.size,0,none⟩ 1 1 [.int .i64 y] rfl rfl ?c1 ?c2 ?c3 ?c4 ?c5 ?c6 (wr.heap.size+1) ?c7 ?_)
   case c1 =>
    intro j' u hj'
    match j',hj' with
    | 0,hj'=>simp at hj';subst hj';simp[Addr.add]
   case c2=>intro u hu;simp at hu;subst hu;rfl
   case c3=>omega
   case c4=>unfold maxLen;omega
   case c5=>omega
   case c6=>simp;omega
   case c7=>simp
   intro g cap5 w5 hown hgrow hat hlt5;obtain⟨A',c',hv',ho',hb'⟩:=wO hos.out hbel.out hszr hown hgrow;injection hv' with e1 e2 e3;subst e1 e3;have HO:Hid (OS w5 w.heap.size (some ⟨g,0,none⟩) (j+1) cap5 (fl (rn s) (j+1))):=by rw[dd,<-HY.out];exact ho'
   have HB:=Qh hb';clear hown hgrow hat ho' hb' hos hbel;go_wp2
   go_roundw
   case rel=>exact⟨j+1,cap5,z,_,by omega,by go_num,rfl,HZN,rfl,HO,HB⟩
   case measure=>simp[intOf];omega
  ·have hjn:j=n:=by omega
   subst hjn;obtain rfl:q=sds s j:=hq.out;go_wp2
   exact bodyPost_ret (v:= .tuple #[.slice B j c,.int .i64 (sds s j)]) (by simp[results,results136,go_sem]) rfl ⟨B,c,rfl,hos.out,hbel.out⟩
theorem GJ (r1 c1 r2 c2:Int) (v1 v2:List Int) (A1 A2:Option Addr) (n1 p1 n2 p2:Nat) (w:World) (hx0:SI w A1 n1 v1) (hy0:SI w A2 n2 v2) (bn:n1<=1048576) (bm:n2<=1048576) :
  Calls prog 94 #[MV r1 c1 A1 n1 p1,MV r2 c2 A2 n2 p2] w (bD (aE bC ⟨r1,c1,v1⟩ ⟨r2,c2,v2⟩) w):=by
 obtain rfl:v1.length=n1:=hx0.1;obtain rfl:v2.length=n2:=hy0.1;have HX:=Qh hx0;have HY:=Qh hy0;clear hx0 hy0
 cases hlk:az ⟨r1,c1,v1⟩ ⟨r2,c2,v2⟩
 ·have HLK:=Qh hlk;clear hlk;refine zE ?_;intro u1 H;refine zG (aQ r1 c1 v1 A1 _ p1 u1 (SI.below HX.out H.O) (by omega)) ?_
  rintro e w2 ⟨Aa,ca,rfl,hos,hb⟩;replace H:=H.os hb hos
  dsimp only at H ⊢
  refine zN ?_;clear H;intro u3 H;refine zG (aQ r2 c2 v2 A2 _ p2 u3 (SI.below HY.out H.O) (by omega)) ?_
  rintro e w4 ⟨Ab,cb,rfl,hos,hb⟩;replace H:=H.os hb hos
  dsimp only at H ⊢
  refine zN ?_;clear H;intro u5 H;refine zB ((show Calls prog 134 #[_,_] u5 (fun e w'=>e= .returned (.bool false)/\Below u5.heap.size u5 w') from HLK.out ▸ eD r1 c1 r2 c2 v1 v2 Aa Ab _ ca _ cb u5 (OS.si (H.o 1)) (OS.si (H.o 0)) (by omega) (by omega))) ?_;clear H;intro w6 u6 H
  refine zS_ ?_;clear H;intro u7 H
  exact(by rw[ib HLK.out];exact⟨none,0,rfl,OS.nil _ _,H.O⟩)
 have HLK:=Qh hlk;have hll:=bt hlk
 dsimp only at hll
 obtain⟨hl1,hl2,hl3⟩:=hll;have HL1:=Qh hl1;clear hl1 hlk;refine zE ?_;intro u1 H;refine zG (aQ r1 c1 v1 A1 _ p1 u1 (SI.below HX.out H.O) (by omega)) ?_
 rintro e w2 ⟨Aa,ca,rfl,hos,hb⟩;replace H:=H.os hb hos
 dsimp only at H ⊢
 refine zN ?_;clear H;intro u3 H;refine zG (aQ r2 c2 v2 A2 _ p2 u3 (SI.below HY.out H.O) (by omega)) ?_
 rintro e w4 ⟨Ab,cb,rfl,hos,hb⟩;replace H:=H.os hb hos
 dsimp only at H ⊢
 refine zN ?_;clear H;intro u5 H;refine zB ((show Calls prog 134 #[_,_] u5 (fun e w'=>e= .returned (.bool true)/\Below u5.heap.size u5 w') from HLK.out ▸ eD r1 c1 r2 c2 v1 v2 Aa Ab _ ca _ cb u5 (OS.si (H.o 1)) (OS.si (H.o 0)) (by omega) (by omega))) ?_;clear H;intro w6 u6 H
 replace H:=H.nil;obtain⟨gT,hgT⟩:∃ g,g=w6.heap.size:=⟨_,rfl⟩;rw[<-hgT] at H ⊢;clear hgT;rw[<-HL1.out] at H ⊢;obtain⟨ga,rfl,_,_⟩:=(H.o 3).pos (by omega)
 obtain⟨gb,rfl,_,_⟩:=(H.o 2).pos (by omega)
 intros
 go_loopw [6] (fun i wr=>∃ (j c':Nat) (A':Option Addr),j<=v1.length/\i= .int .i64 j/\Hid (Hq w [qO w.heap.size A' j c' (fl (pv bC ⟨r1,c1,v1⟩ ⟨r2,c2,v2⟩) j),qB gT 37 [.int .i64 r1,.int .i64 c1,.slice A' j c'],qO w.heap.size (some ⟨gb,0,none⟩) v1.length cb v2,qO w.heap.size (some ⟨ga,0,none⟩) v1.length ca v1,qB (w.heap.size+2) 37 [.int .i64 0,.int .i64 0,.slice none 0 0],qB (w.heap.size+1) 37 [.int .i64 r2,.int .i64 c2,.slice (some ⟨gb,0,none⟩) v1.length cb],qB w.heap.size 37 [.int .i64 r1,.int .i64 c1,.slice (some ⟨ga,0,none⟩) v1.length ca]] wr)) (fun i _=>v1.length-(intOf i).toNat)
 case atStart=>exact⟨0,0,none,Nat.zero_le _,rfl,H⟩
 case round =>
 clear H;obtain⟨j,c',A',hj,rfl,H⟩:=hrel;have H:=H.out
 by_cases hlt:j<v1.length
 ·have i0:(0:Int)<=(j:Int):=by omega
  have i1:(j:Int)<(v1.length:Int):=by omega
  obtain⟨x,hx⟩:∃ x,x=v1.getD j 0:=⟨_,rfl⟩;obtain⟨y,hy⟩:∃ y,y=v2.getD j 0:=⟨_,rfl⟩;have HS:Hid (fl (pv bC ⟨r1,c1,v1⟩ ⟨r2,c2,v2⟩) j++[bC x y]=fl (pv bC ⟨r1,c1,v1⟩ ⟨r2,c2,v2⟩) (j+1)):=by rw[hx,hy];exact(dd (pv bC ⟨r1,c1,v1⟩ ⟨r2,c2,v2⟩) j).symm
  have HXX:=Qh hx;have HYY:=Qh hy;clear hx hy;refine zC ?_;intro C;intros;go_upto_region 9 with fail;refine zM ?_;clear H C;intro u21 H;have zga:=(a7 (H.o 3) hlt).1;have zgb:=(a7 (H.o 2) hlt).1;refine zXZ (tg [gT,(w.heap.size+1),w.heap.size,ga,gb]) ?_;clear H;intro S w22 hne H;refine zD ((And.intro (H.c 1) (And.intro (H.c 5) (H.c 6)))) ?_;intro G;have rga:=(a7 (H.o 3) hlt).2.1;rw[<-HXX.out] at rga;replace rga:=H.row rga;have rgb:=(a7 (H.o 2) hlt).2.1;rw[<-HYY.out] at rgb;replace rgb:=H.row rgb;refine yP (vj x y w22) ?_;refine yM ?_;clear H;intro w23 H;replace H:=H.r 1;refine yA (dQ (H.k 1)) True.intro ?_;clear H;intro C1 k1 w24 H;intros;refine zCr ?_;intro C;intros
  repeat (first|(refine lc' ?_;intro K hK;go_big_quiet_op;go_big_quiet_on)|refine lk' ?_)
  refine aV rfl (by rfl) (by rfl) (fun K hK=>?_)
  unfold Oper.gives
  go_simp
  refine hK _ _ ?_;replace H:=H.H;refine aI ?_;clear C G;replace H:=((((((((H.d 1).r 6).r 6).r 6).r 6).r 6).r 6).r 6);refine zC ?_;intro C;intros;go_wp2
  go_roundw
  case rel=>exact⟨j+1,k1,C1,by omega,by go_num,(by rw[HS.out] at H;exact(Qh hq))⟩
  case measure=>simp[intOf];omega
 ·obtain rfl:j=v1.length:=by omega
  refine zS_ ?_;clear H;intro u41 H
  exact(by rw[fi HLK.out];exact⟨A',c',by dsimp only;rw[aD],by dsimp only;rw[aD];exact(H.o 0),H.O⟩)
section
attribute [local go_sem ↓] Go.wp_at_zero Go.wp_at_succ
theorem aZ.ofS {g:Nat} {A:Option Addr} {a b c:World} (h:aZ g a b) (k:bJ A b c) (hA:∀ g',blk A=some g'->a.heap.size<=g'):aZ g a c :=
 ⟨k.os.trans h.os,k.tape.trans h.tape,k.output.trans h.output,Nat.le_trans h.size k.size,fun i hi hne=>(k.block i (Nat.lt_of_lt_of_le hi h.size) (fun e=>by have:=hA i e.symm;omega)).trans (h.block i hi hne)⟩
def KI (wo:World) (base gj n:Nat) (kd:Int) (pre rest:List Value) (ps:List (Mx×Mx)) (wi:World) (j:Nat) (A:Option Addr) (c:Nat):Prop :=
 VO wi base 80 2 (some ⟨gj,0,none⟩) n n (pre++([.int .i64 kd] ++ .slice A j c::rest))/\(∃ css F,OX mxE wi wo.heap.size 37 A j c css ((ps.map aq).take j) F)/\aZ gj wo wi
def KA (wo:World) (base gj n:Nat) (kd:Int) (pre rest:List Value) (ps:List (Mx×Mx)) (wi:World) (j:Nat) (A:Option Addr) (c g cap:Nat):Prop :=
 VO wi base 80 2 (some ⟨gj,0,none⟩) n n (pre++([.int .i64 kd] ++ .slice A j c::rest))/\(∃ css F,OX mxE wi wo.heap.size 37 (some ⟨g,0,none⟩) (j+1) cap css ((ps.map aq).take (j+1)) F)/\aZ gj wo wi
section
variable {wo wi wJ w1:World} {kd:Int} {ps:List (Mx×Mx)} {j c g cap cp base gj n:Nat} {A Ap:Option Addr} {p:Mx×Mx} {o:Obj} {css:List (List Value)} {F:List Nat} {pre rest:List Value}
theorem KI.start {u:Value} (h:VO wo base 80 2 (some ⟨gj,0,none⟩) n n (pre++(u :: .slice none 0 0::rest))) (o:Obj) (hi:n+n=n*2) {i:Nat} (hpre:i=pre.length) :
  KI wo base gj n kd pre rest ps ((wo.setCell ⟨gj,i,none⟩ (.int .i64 kd)).alloc o) 0 none 0:=by
 refine⟨?_,⟨[],[],OX.nil _ _ _⟩,((aZ.refl gj wo).setCell (.inl rfl) _).alloc o⟩;have:=FX.put (E:=kE mxE) (a:=[]) (pre:=pre) (u:=u) (b:= .slice none 0 0::rest) h (j:=i) (by simp[hpre]) (.int .i64 kd)
 exact this.alloc o
theorem KI.app (hv:VO wi base 80 2 (some ⟨gj,0,none⟩) n n (pre++([.int .i64 kd] ++ .slice A j c::rest))) (hox:OX mxE wi wo.heap.size 37 A j c css ((ps.map aq).take j) F) (h3:aZ gj wo wi) (hgj:gj<wo.heap.size) (hb:Below wi.heap.size wi wJ)
  (hp:ps[j]?=some p) (hos:OS wJ wi.heap.size Ap (aq p).v.length cp (aq p).v)
  (hown:w1.ownsRow wo.heap.size 37 mxE.s (.slice (some ⟨g,0,none⟩) (j+1) cap) (j+1) (css.flatten++[.int .i64 (aq p).r,.int .i64 (aq p).c,.slice Ap (aq p).v.length cp]))
  (hg:(wJ.alloc o).grownBy w1 (Value.slice A j c).ownBlock) (hat:(Value.slice A j c).ownBlock=some g\/g=wJ.heap.size+1):KA wo base gj n kd pre rest ps w1 j A c g cap:=by
 have hwi:=h3.size;have hsz:=hb.size;have hf:Fr wJ wo.heap.size (fpI Ap (aq p).v.length):=(ek hos).mono (by omega)
 have hd:∀ g',g'∈fpI Ap (aq p).v.length->g'∉F/\blk A≠some g':=fun g' hg'=>by
  have:=((ek hos).2 g' hg').1
  exact⟨fun h=>by have:=hox.lt g' h;omega,fun h=>by have:=(hox.aj g' h).2;omega⟩
 obtain⟨k1,_,k3⟩:=OX.push (hox.below hb) (x:=aq p) ⟨Ap,cp,rfl,MF.aB hos⟩ hf hd (Below.refl wo.heap.size wJ) Ql (by omega) hown hg hat
 rw[<-aW (GI hp)] at k1;refine⟨(hv.below hb).bR k3 (fun g' hg' hA=>?_),⟨_,_,k1⟩,(h3.below hb).ofS k3 (fun g' hg'=>(hox.aj g' hg').1)⟩
 have e:gj=g':=by simpa [blk] using hg'
 have:=(hox.aj g' hA).1
 omega
theorem KA.next (h:KA wo base gj n kd pre rest ps wi j A c g cap) (hgj:gj<wo.heap.size) {i:Nat} (hi:i=pre.length+1):KI wo base gj n kd pre rest ps (wi.setCell ⟨gj,i,none⟩ (.slice (some ⟨g,0,none⟩) (j+1) cap)) (j+1) (some ⟨g,0,none⟩) cap:=by
 obtain⟨h1,⟨css,F,h2⟩,h3⟩:=h
 exact⟨FX.put (E:=kE mxE) h1 (by simpa using hi) _,⟨css,F,h2.lX (by dsimp only;omega) _⟩,h3.setCell (.inl rfl) _⟩
end
theorem FV (A:Option Addr) (n cap:Nat) (net:List (Int×List (Mx×Mx))) (F:List Nat) (w:World) (hx:RI (kE smE) w A n cap net F) (hs:GH (kS smS) net) :
  Calls prog 14 #[.slice A n cap] w (JN net w):=by
 obtain⟨i0,hi,hz0,hz1,hz2⟩:=info_parts rI;have HLN:=Qh hx.1;have HS:=Qh hs.2;have HX:=Qh hx;clear hx hs
 by_cases n4:4<n
 ·have HNO:Hid (bu net=false):=Eo (by rw[HLN.out];exact n4)
  have t4:(4:Int)<(n:Int):=by omega
  go_enter func14,ntmps14
  go_wp2
  go_ret2
  have:=JN.no (w':=w) (A:=none) HNO.out (Below.refl w.heap.size w);rw[HNO.out] at this
  exact this
 have t4:(n:Int)<=4:=by omega
 have hmk:=fun W:World=>CG n (by omega) W
 have H0:Hid (∃ css F',FX (kE mxE) (w.alloc (.cells (madeCells ZL (n*ZL.size)) 80)) w.heap.size 80 w.heap.size n css (List.replicate (n-0) ZL.toList).flatten ((net.map df).take 0) F'):=⟨_,_,FX.made w _ ZL (by decide) rfl n (by unfold maxLen;omega)⟩
 have B0:Hid (Below w.heap.size w (w.alloc (.cells (madeCells ZL (n*ZL.size)) 80))):=Qb.alloc Ql _;obtain⟨O,hO⟩:∃ O,O=(Obj.cells (madeCells ZL (n*ZL.size)) 80):=⟨_,rfl⟩;rw[<-hO] at H0 B0 hmk;clear hO
 go_enter func14,ntmps14
 go_wp2
 go_loopw [17] (fun i wr=>∃ k:Nat,k<=n/\i= .int .i64 k/\Hid (∃ css F',FX (kE mxE) wr w.heap.size 80 w.heap.size n css (List.replicate (n-k) ZL.toList).flatten ((net.map df).take k) F')/\Hid (Below w.heap.size w wr)/\Hid (∀ q l,q<k->net[q]?=some l->aL l.1 (l.2.map aq)=true)) (fun i _=>n-(intOf i).toNat)
 case atStart=>exact⟨0,Nat.zero_le _,rfl,H0,B0,fun q l hq=>absurd hq (by omega)⟩
 case round =>
 obtain⟨k,hk,rfl,hfx,hob,hval⟩:=hrel;clear H0 B0 hmk;obtain⟨wo,rfl⟩:∃ u:World,u=wr:=⟨_,rfl⟩
 by_cases hlt:k<n
 ·obtain⟨x,hxk,hmem⟩:=aH (xs:=net) (j:=k) (by have:=HLN.out;omega)
  have HXK:=Qh hxk;obtain⟨hsm,hsx⟩:=HS.out x hmem;have HSX:=Qh hsx;have hwo:w.heap.size<=wo.heap.size:=hob.out.size;obtain⟨b,off,cs,Fx,rfl,hbl,hc,_,Aw,cw,rfl,hrw⟩:=HX.out.cells hxk 2 rfl;obtain⟨m,hm⟩:∃ m,m=x.2.length:=⟨_,rfl⟩;rw[<-hm] at hc hrw hsm;have HM:=Qh hm;have d0:wo.cell? ⟨b,off+k*2,none⟩=some (.int .i64 x.1):=(hob.out.cell (p:=⟨b,off+k*2,none⟩) hbl).trans (hc 0 (by omega))
  have d1:wo.cell? ⟨b,off+k*2+1,none⟩=some (.slice Aw m cw):=(hob.out.cell (p:=⟨b,off+k*2+1,none⟩) hbl).trans (hc 1 (by omega))
  have HRW:=Qh hrw;have k0:(0:Int)<=(k:Int):=by omega
  have k1:(k:Int)<(n:Int):=by omega
  obtain⟨css,FO,hF⟩:=hfx.out;have hgl:w.heap.size<wo.heap.size:=hF.glt.2;have hnk:(List.replicate (n-k) ZL.toList).flatten= .int .i64 0 :: .slice none 0 0::(List.replicate (n-(k+1)) ZL.toList).flatten:=by
   rw[show n-k=(n-(k+1))+1 by omega,List.replicate_succ,List.flatten_cons]
   rfl
  rw[hnk] at hF;have hpl:css.flatten.length=k*2:=by
   rw[dS hF.2.1,List.length_take,List.length_map,HLN.out,Nat.min_eq_left (by omega)]
   rfl
  have HPL:=Qh hpl;have HFO:=Qh hF;obtain⟨pre,hpre⟩:∃ pre,pre=css.flatten:=⟨_,rfl⟩;obtain⟨rest,hrest⟩:∃ rest,rest=(List.replicate (n-(k+1)) ZL.toList).flatten:=⟨_,rfl⟩;have hv:=hF.1;rw[<-hpre,<-hrest] at hv;rw[<-hpre] at HPL;have HPRE:=Qh hpre;have HREST:=Qh hrest;have hv0:wo.cell? ⟨w.heap.size,k*2,none⟩=some (.int .i64 0):=eG (a:=[]) hv (by rw[HPL.out];rfl)
  have hf0:wo.frozen? ⟨w.heap.size,k*2,none⟩=false:=hv.frozen _;have J0:Hid (KI wo w.heap.size w.heap.size n x.1 pre rest x.2 ((wo.setCell ⟨w.heap.size,k*2,none⟩ (.int .i64 x.1)).alloc (.cells #[.int .i64 x.1,.slice Aw m cw] 99)) 0 none 0):=KI.start hv _ (by omega) (by rw[HPL.out])
  clear hc hxk hmem hm hrw hsx hF hnk hpl hpre hrest hv hfx;go_wp2;clear hv0 hf0
  go_loopw [31] (fun i wr=>∃ (j c':Nat) (A'':Option Addr),j<=m/\i= .int .i64 j/\Hid (KI wo w.heap.size w.heap.size n x.1 pre rest x.2 wr j A'' c')) (fun i _=>m-(intOf i).toNat)
  case atStart=>exact⟨0,0,none,Nat.zero_le _,rfl,J0⟩
  case round =>
  obtain⟨j,cI,AI,hj,rfl,hji⟩:=hrel;clear J0;have hsz:wo.heap.size<=wr.heap.size:=hji.out.2.2.size;have zl:w.heap.size<wr.heap.size:=by omega
  have HBW:Hid (Below w.heap.size w wr):=hob.out.trans (hji.out.2.2.toBelow Ql (by omega))
  by_cases hjm:j<m
  ·obtain⟨p,hpj,hpm⟩:=aH (xs:=x.2) (j:=j) (by have:=HM.out;omega)
   have HPJ:=Qh hpj;obtain⟨hs1,hs2⟩:=HSX.out p hpm;obtain⟨b2,off2,cs,Fp,rfl,hbl2,hc,_,P1,q1,P2,q2,Fa,Fb,rfl,hp1,hp2,_⟩:=(HRW.out.below HBW.out).cells hpj 6 rfl;have a0:wr.cell? ⟨b2,off2+j*6,none⟩=some (.int .i64 p.1.r):=hc 0 (by omega)
   have a1:wr.cell? ⟨b2,off2+j*6+1,none⟩=some (.int .i64 p.1.c):=hc 1 (by omega)
   have a2:wr.cell? ⟨b2,off2+j*6+2,none⟩=some (.slice P1 p.1.v.length q1):=hc 2 (by omega)
   have a3:wr.cell? ⟨b2,off2+j*6+3,none⟩=some (.int .i64 p.2.r):=hc 3 (by omega)
   have a4:wr.cell? ⟨b2,off2+j*6+4,none⟩=some (.int .i64 p.2.c):=hc 4 (by omega)
   have a5:wr.cell? ⟨b2,off2+j*6+5,none⟩=some (.slice P2 p.2.v.length q2):=hc 5 (by omega)
   have j0:(0:Int)<=(j:Int):=by omega
   have j1:(j:Int)<(m:Int):=by omega
   have HJN:Hid (∀ W:World,Below wr.heap.size wr W->Calls prog 55 #[SMV p.1.r p.1.c P1 p.1.v.length q1 p.2.r p.2.c P2 p.2.v.length q2] W (bD (aq p) W)):=fun W hW=>j_ p.1.r p.1.c p.2.r p.2.c p.1.v p.2.v P1 P2 _ q1 _ q2 W (hp1.1.below hW) (hp2.1.below hW) hs1 hs2
   clear hc hpj hpm hp1 hp2 hs1 hs2;obtain⟨hV,⟨cssI,FI,hoxI⟩,hOn⟩:=hji.out;have cj:wr.cell? ⟨w.heap.size,k*2+1,none⟩=some (.slice AI j cI):=eG (a:=[.int .i64 x.1]) hV (by rw[HPL.out];rfl)
   have HV:=Qh hV;have HOXI:=Qh hoxI;have HON:=Qh hOn;have hcs:=hoxI.dC;clear hV hoxI hOn;obtain⟨mj,hmj⟩:∃ mj,mj=aq p:=⟨_,rfl⟩;rw[<-hmj] at HJN;have HMJ:=Qh hmj;clear hmj;have H1:Hid (∀ (Ap:Option Addr) (cp:Nat),∀ u∈[Value.int .i64 mj.r,Value.int .i64 mj.c,Value.slice Ap mj.v.length cp],u.oneCell'=true):=by
    intro Ap cp u hu;simp at hu;rcases hu with rfl|rfl|rfl <;> rfl
   have H2:Hid (j+1<=maxLen):=by unfold maxLen;show j+1<=_;omega
   have H3:Hid ((j+1)*40<=140737488355328):=by show (j+1)*40<=_;omega
   go_wp2_with fail
   obtain⟨wm,hwm⟩:∃ u,u=(wr.alloc (.cells #[.int .i64 p.1.r,.int .i64 p.1.c,.slice P1 p.1.v.length q1,.int .i64 p.2.r,.int .i64 p.2.c,.slice P2 p.2.v.length q2] 82)):=⟨_,rfl⟩;rw[<-hwm];have hbm:Below wr.heap.size wr wm:=by rw[hwm];exact Qb.alloc Ql _
   have hkm:Blk wm wr.heap.size 82 #[.int .i64 p.1.r,.int .i64 p.1.c,.slice P1 p.1.v.length q1,.int .i64 p.2.r,.int .i64 p.2.c,.slice P2 p.2.v.length q2]:=by rw[hwm];exact Blk.new _ _ _
   clear hwm a0 a1 a2 a3 a4 a5;have b0:wm.cell? ⟨wr.heap.size,0,none⟩=some (.int .i64 p.1.r):=hkm.cell 0;have b1:wm.cell? ⟨wr.heap.size,1,none⟩=some (.int .i64 p.1.c):=hkm.cell 1;have b2':wm.cell? ⟨wr.heap.size,2,none⟩=some (.slice P1 p.1.v.length q1):=hkm.cell 2;have b3:wm.cell? ⟨wr.heap.size,3,none⟩=some (.int .i64 p.2.r):=hkm.cell 3;have b4:wm.cell? ⟨wr.heap.size,4,none⟩=some (.int .i64 p.2.c):=hkm.cell 4;have b5:wm.cell? ⟨wr.heap.size,5,none⟩=some (.slice P2 p.2.v.length q2):=hkm.cell 5;have zm:wr.heap.size<wm.heap.size:=hkm.lt;have cjm:wm.cell? ⟨w.heap.size,k*2+1,none⟩=some (.slice AI j cI):=(hbm.cell (p:=⟨w.heap.size,k*2+1,none⟩) zl).trans cj;have HBM:=Qh hbm;clear hkm cj hbm
   first
    | go_region_law (first
      | (refine step_append_lies _ (by rfl) _ _ _ (by rfl) wo.heap.size 37 i0 (.agg #[.int .i64 0,.int .i64 0,.slice none 0 0]) 3 40 underlying69 hi hz0 hz1 hz2 rfl (by omega) (.slice AI j cI) j _ (by rfl) (World.ownsRow.alloc (HOXI.out.below HBJ.out).1 _) ⟨wJ.heap.size,0,none⟩ 1 1 [.int .i64 mj.r,.int .i64 mj.c,.slice Ap mj.v.length cp] (by rfl) rfl (fun jj u h=>dz _ _ _ jj u h) (H1.out Ap cp) (by omega) H2.out H3.out (by simp;omega) (wJ.heap.size+1) (by simp) ?_;intro g cap5 w5 hown hgrow hat hlt5;rw[HMJ.out] at hown;have HA:=Qh (KI.app HV.out HOXI.out HON.out hgl HBJ.out HPJ.out HOS.out hown hgrow hat);clear hown hgrow hat;have kT:w5.cell? ⟨w.heap.size,k*2+1,none⟩=some (.slice AI j cI):=eG (a:=[.int .i64 x.1]) HA.out.1 (by rw[HPL.out];rfl);have fT:w5.frozen? ⟨w.heap.size,k*2+1,none⟩=false:=HA.out.1.frozen _)
      | (go_simp;go_at_call 55;(with_reducible refine(HJN.out _ (by first|exact HBM.out|exact HBM.out.drew)).mono ?_);rintro e wJ ⟨Ap,cp,rfl,hos,hb⟩;have hbm':Below wm.heap.size wm wJ:=bp hb (by first|exact Nat.le_refl _|simp) (by first|exact Below.refl _ _|exact Qb.drew);have hbJ:Below wr.heap.size wr wJ:=HBM.out.trans (hbm'.mono HBM.out.size);have HBJ:=Qh hbJ;have HOS:Hid (OS wJ wr.heap.size Ap (aq p).v.length cp (aq p).v):=(by rw[<-HMJ.out];exact hos.mono (by first|exact HBM.out.size|(simp;exact HBM.out.size)));have g1:wJ.cell? ⟨w.heap.size,k*2+1,none⟩=some (.slice AI j cI):=(hbJ.cell (p:=⟨w.heap.size,k*2+1,none⟩) zl).trans (eG (a:=[.int .i64 x.1]) HV.out (by rw[HPL.out];rfl));have gs:=hbJ.size;have gz:w.heap.size<wJ.heap.size:=(by omega);clear hos hb hbJ hbm')
      | fail)
    | fail
   all_goals
    go_wp2
    go_roundw
    case rel=>exact⟨j+1,cap5,some ⟨g,0,none⟩,by omega,by go_num,Qh (KA.next HA.out hgl (by rw[HPL.out]))⟩
    case measure=>simp[intOf];omega
  ·obtain rfl:j=m:=by omega
   obtain⟨hV,⟨cssI,FI,hoxI⟩,hOn⟩:=hji.out;rw[List.take_of_length_le (by rw[List.length_map,HM.out];exact Nat.le_refl _)] at hoxI
   obtain⟨F2,hr2,hf2⟩:=hoxI.ri;have q0:wr.cell? ⟨w.heap.size,k*2,none⟩=some (.int .i64 x.1):=eG (a:=[]) hV (by rw[HPL.out];rfl)
   have q1:wr.cell? ⟨w.heap.size,k*2+1,none⟩=some (.slice AI j cI):=eG (a:=[.int .i64 x.1]) hV (by rw[HPL.out];rfl)
   have HV:=Qh hV;have HON:=Qh hOn;have HR2:=Qh hr2;have HF2:=Qh hf2;clear hV hoxI hOn hr2 hf2 hji
   go_wp2_with fail
   refine(Ec x.1 AI j cI (x.2.map aq) F2 wr HR2.out jJ hsm).mono ?_;rintro e w5 ⟨rfl,hb5⟩;have HB5:=Qh hb5;have HBW5:Hid (Below w.heap.size w w5):=HBW.out.trans (hb5.mono (by omega))
   clear hb5
   cases hl:aL x.1 (x.2.map aq)
   ·have HNO:Hid (bu net=false):=wH HXK.out hl;clear hl;go_wp2
    go_ret2
    have:=JN.no (A:=none) HNO.out HBW5.out;rw[HNO.out] at this
    exact this
   ·have HVV:Hid (∀ q l,q<k+1->net[q]?=some l->aL l.1 (l.2.map aq)=true):=by
     intro q l hq hl'
     by_cases hqk:q<k
     ·exact hval.out q l hqk hl'
     ·obtain rfl:q=k:=by omega
      rw[HXK.out] at hl';injection hl' with hl';subst hl'
      exact hl
    have hQ:(kE mxE).P w5 [.int .i64 x.1,.slice AI j cI] (df x) F2:=⟨AI,cI,by simp[df,HM.out],by have:=HR2.out.below HB5.out;simpa [df,HM.out] using this⟩
    have K1:Hid (∃ css F',FX (kE mxE) w5 w.heap.size 80 w.heap.size n css (List.replicate (n-(k+1)) ZL.toList).flatten ((net.map df).take (k+1)) F'):=by
     have hF:=HFO.out;have hfO:∀ g',g'∈FO->w5.heap[g']?=wo.heap[g']?:=fun g' hg'=>(HB5.out.block g' (by have:=hF.2.1.lt g' hg';omega)).trans (HON.out.block g' (hF.2.1.lt g' hg') (fun e=>hF.2.2.2 (by injection e with e;rw[<-e];exact hg')))
     have hv5:=HV.out.below HB5.out;rw[HPRE.out,HREST.out] at hv5;have:=FX.step (E:=kE mxE) (css:=css) (g:=w.heap.size) (ys:=[.int .i64 x.1,.slice AI j cI]) hv5 hF.2.1 hF.2.2.1 hF.2.2.2 hfO hQ ((HF2.out.below HB5.out).mono hwo)
      (fun g' hg'=>⟨fun h=>by have:=hF.2.1.lt g' h;have:=(HF2.out.2 g' hg').1;omega,fun h=>by have:=(HF2.out.2 g' hg').1;omega⟩)
     rw[<-aW (GI HXK.out)] at this
     exact⟨_,_,this⟩
    clear hl hQ hval;go_wp2
    go_roundw
    case rel=>exact⟨k+1,by omega,by go_num,K1,HBW5,HVV⟩
    case measure=>simp[intOf];omega
 ·obtain rfl:k=n:=by omega
  have hy:bu net=true:=uj (by rw[HLN.out];omega) (fun q l hq hl=>hval.out q l (by rw[<-HLN.out];exact hq) hl)
  have HJN:Hid (JN net w (.returned (.tuple #[.slice (some ⟨w.heap.size,0,none⟩) k k,.bool true])) wo):=by
   obtain⟨css,F',hF⟩:=hfx.out;rw[Nat.sub_self,List.take_of_length_le (by rw[List.length_map,HLN.out];exact Nat.le_refl _)] at hF
   obtain⟨F2,hr2,hf2⟩:=FX.ri hF (by rw[List.length_map,HLN.out])
   exact⟨some ⟨w.heap.size,0,none⟩,k,k,F2,by rw[hy],by rw[eL hy];exact hr2,hf2,hob.out⟩
  clear hy hfx;go_wp2
  go_ret2
  exact HJN.out
end
end Go.Proofs.YtjciicheoghcdaaGreatDoor

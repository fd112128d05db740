/- Part of the proof that the law FnServiceLine of the given program returns true for every input. -/
import Derived.Test.YtjciicheoghcdaaGreatDoorXk
import Derived.Test.YtjciicheoghcdaaGreatDoorXn
import Derived.Test.YtjciicheoghcdaaGreatDoorXo
import Derived.Test.YtjciicheoghcdaaGreatDoorXp
import Derived.Test.YtjciicheoghcdaaGreatDoorXq
namespace Go.Proofs.YtjciicheoghcdaaGreatDoor
open Go.RowKit
set_option linter.unusedSimpArgs false
set_option linter.unusedVariables false
set_option maxRecDepth 20000
set_option maxHeartbeats 16000000
section
attribute [local go_sem] af ah ae
theorem Bh {a b r yq:Nat} {x:Int} (hd:b<yq):(if a<r\/(a=r/\b<yq) then x else 0)=if a<r+1\/(a=r+1/\b<0) then x else 0:=by
 by_cases h:a<r+1
 ·rw [if_pos (by omega),if_pos (by omega)]
 ·rw [if_neg (by omega),if_neg (by omega)]
theorem yw {a b r yq:Nat} {x:Int} (h3:¬ (a=r/\b=yq)):(if a<r\/(a=r/\b<yq+1) then x else 0)=if a<r\/(a=r/\b<yq) then x else 0:=by
 by_cases h:a<r\/(a=r/\b<yq)
 ·rw [if_pos h,if_pos (by omega)]
 ·rw [if_neg h,if_neg (by omega)]
theorem iN {m:Mx} (h:mvB m=true) {x:Value} (w:World) (hx:RM w x m):Calls Tryz.prog 255 #[x] w (bD (ir m) w):=by
 have hmm:=qN h;obtain ⟨r1,c1,v1,rfl,r11,r12,c11,c12,l1,b1⟩:=nS h;obtain ⟨A1,p1,rfl,hx0,hp1,hq1⟩:=hx
 dsimp only at hx0 hp1
 obtain ⟨a1,o1,rfl,_,_⟩:=hx0.2 (by rw [l1];exact Nat.mul_pos r11 c11)
 obtain ⟨n,hnn⟩:∃ n,n=c1*r1:=⟨_,rfl⟩;have hN:(c1:Int)*(r1:Int)=(n:Int):=by rw [hnn];push_cast;rfl
 have hn1:0<n:=by rw [hnn];exact Nat.mul_pos c11 r11
 have hn25:n<=25:=by rw [hnn];exact Nat.mul_le_mul c12 r12
 have hn2:n<=1048576:=by omega
 obtain ⟨F,hF⟩:∃ F:Nat->Int,F=fun i=>v1.getD (i%r1*c1+i/r1) 0:=⟨_,rfl⟩
 have HMM:Hid (ir ⟨(r1:Int),(c1:Int),v1⟩=⟨(c1:Int),(r1:Int),fl F n⟩):=by
  show ir _=_
  rw [hmm,hF,hnn]
  rfl
 clear hmm;have HX:=Lib.hid hx0;have HA:=Lib.hid h;have HL1:=Lib.hid l1;have HN:=Lib.hid hN;have HNN:=Lib.hid hnn;have HFN:=Lib.hid hF;clear hx0 h l1 hN hnn hF;refine zE ?_;intro u1 H;refine zB (bP (m:=⟨(r1:Int),(c1:Int),v1⟩) HA.out u1 (SI.below HX.out H.O)) ?_;clear H;intro w2 u2 H;refine zG (di HN.out hn2 u2) ?_;rintro e w3 ⟨A,cG,rfl,hos,hb⟩;replace H:=H.os hb hos
 dsimp only at H ⊢
 rw [List.length_replicate] at H ⊢;obtain ⟨g,rfl,hg0,hg1⟩:=OS.pos (H.o 0) hn1;refine zN ?_;clear H;intro u4 H;obtain ⟨gT,hgT⟩:∃ g,g=w3.heap.size:=⟨_,rfl⟩;rw [<- hgT] at H ⊢;clear hgT;replace H:=((((H.r 3).r 3).r 2).r 3);intros
 go_loopw [18] (fun i wr=>∃ r:Nat,r<=r1/\i= .int .i64 r/\Hid (Hq w [qO w.heap.size (some ⟨g,0,none⟩) n cG (fl (fun i=>if i%r1<r\/(i%r1=r/\i/r1<0) then F i else 0) n),qB gT 37 [.int .i64 (c1:Int),.int .i64 (r1:Int),.slice (some ⟨g,0,none⟩) n cG],qB (w.heap.size+1) 37 [.int .i64 0,.int .i64 0,.slice none 0 0],qB w.heap.size 37 [.int .i64 (r1:Int),.int .i64 (c1:Int),.slice (some ⟨a1,o1,none⟩) v1.length p1]] wr)) (fun i _=>r1-(intOf i).toNat)
 case atStart=>exact ⟨0,Nat.zero_le _,rfl,by rw [show fl (fun i=>if i%r1<0\/(i%r1=0/\i/r1<0) then F i else 0) n=List.replicate n 0 from by rw [<- j6];exact dT fun k _=>by simp];exact H⟩
 case round =>
 clear H;obtain ⟨r,hr,rfl,H⟩:=hrel;have H:=H.out
 by_cases hlt:r<r1
 ·refine zN ?_;clear H;intro u21 H;refine zB (qj hlt r12 ⟨c11,c12⟩ HL1.out hp1 hq1 u21) ?_;clear H;intro w22 u22 H;intros
  go_loopw [25] (fun i wr=>∃ p:Nat,p<=c1/\i= .int .i64 p/\Hid (Hq w [qO w.heap.size (some ⟨g,0,none⟩) n cG (fl (fun i=>if i%r1<r\/(i%r1=r/\i/r1<p) then F i else 0) n),qB gT 37 [.int .i64 (c1:Int),.int .i64 (r1:Int),.slice (some ⟨g,0,none⟩) n cG],qB (w.heap.size+1) 37 [.int .i64 0,.int .i64 0,.slice none 0 0],qB w.heap.size 37 [.int .i64 (r1:Int),.int .i64 (c1:Int),.slice (some ⟨a1,o1,none⟩) v1.length p1]] wr)) (fun i _=>c1-(intOf i).toNat)
  case atStart=>exact ⟨0,Nat.zero_le _,rfl,H⟩
  case round =>
  clear H;obtain ⟨p,hp,rfl,H⟩:=hrel;have H:=H.out
  by_cases hqc:p<c1
  ·have hi1:r*c1+p<v1.length:=by rw [HL1.out];exact e9 hlt hqc
   have cx:=kR HX.out H.O (Nat.le_refl _) hi1;rw [<- Nat.add_assoc] at cx;obtain ⟨jj,hjj⟩:∃ jj,jj=p*r1:=⟨_,rfl⟩;have hjl:jj+r<n:=by rw [hjj,HNN.out];exact e9 hqc hlt
   have hFv:v1.getD (r*c1+p) 0=F (jj+r):=by
    have e1:(p*r1+r)/r1=p:=by rw [Nat.mul_comm,Nat.mul_add_div (by omega),Nat.div_eq_of_lt hlt,Nat.add_zero]
    have e2:(p*r1+r)%r1=r:=by rw [Nat.mul_comm,Nat.mul_add_mod,Nat.mod_eq_of_lt hlt]
    rw [HFN.out,hjj]
    dsimp only
    rw [e1,e2]
   obtain ⟨x,hx⟩:∃ x,x=v1.getD (r*c1+p) 0:=⟨_,rfl⟩;rw [<- hx] at cx hFv;have HST:Hid (fl (fun i=>if i%r1<r\/(i%r1=r/\i/r1<p+1) then F i else 0) n=(fl (fun i=>if i%r1<r\/(i%r1=r/\i/r1<p) then F i else 0) n).set (jj+r) x):=pW hjl fun i hi=>by
    have hd:=Nat.div_add_mod i r1
    by_cases e:i=jj+r
    ·have e1:i/r1=p:=by rw [e,hjj,Nat.mul_comm,Nat.mul_add_div (by omega),Nat.div_eq_of_lt hlt,Nat.add_zero]
     have e2:i%r1=r:=by rw [e,hjj,Nat.mul_comm,Nat.mul_add_mod,Nat.mod_eq_of_lt hlt]
     rw [if_pos e,if_pos (.inr ⟨e2,by omega⟩),e,hFv]
    ·rw [if_neg e]
     exact yw (fun ⟨x,y⟩=>e (by rw [<- hd,x,y,hjj,Nat.mul_comm]))
   have hm2w:IntKind.i64.wrap ((p:Int)*(r1:Int))=(jj:Int):=gN (by rw [hjj];push_cast;rfl) (by omega)
   have j0:(0:Int)<=(jj:Int)+(r:Int):=by omega
   have j1:(jj:Int)+(r:Int)<(n:Int):=by omega
   have j2:((jj:Int)+(r:Int)).toNat=jj+r:=by omega
   have j3:=IntWalk.i64_in ((jj:Int)+(r:Int)) (by omega)
   have j4:(p:Int)<(c1:Int):=by omega
   clear hjj hx hFv hi1;obtain ⟨zG,cG',fG⟩:=a7 (H.o 0) hjl;refine zC ?_;intro C;intros;go_wp2
   go_roundw
   case rel=>exact ⟨p+1,by omega,by go_num,(by rw [HST.out];exact Lib.hid hq)⟩
   case measure=>simp [intOf];omega
  ·obtain rfl:p=c1:=by omega
   have HSE:Hid (fl (fun i=>if i%r1<(r+1)\/(i%r1=(r+1)/\i/r1<0) then F i else 0) n=fl (fun i=>if i%r1<r\/(i%r1=r/\i/r1<p) then F i else 0) n):=dT fun i hi=>(Bh (by rw [HNN.out] at hi;exact Nat.div_lt_of_lt_mul (by rw [Nat.mul_comm];exact hi))).symm
   refine zC ?_;intro C;intros;go_wp2
   go_roundw
   case rel=>exact ⟨r+1,by omega,by go_num,(by rw [HSE.out];exact H)⟩
   case measure=>simp [intOf];omega
 ·obtain rfl:r=r1:=by omega
  rw [show fl (fun i=>if i%r<r\/(i%r=r/\i/r<0) then F i else 0) n=fl F n from dT fun i hi=>by rw [if_pos (.inl (Nat.mod_lt _ r11))]] at H
  refine zS_ ?_;clear H;intro u81 H
  exact (by rw [HMM.out];exact ⟨some ⟨g,0,none⟩,cG,by dsimp only;rw [aD],by dsimp only;rw [aD];exact (H.o 0),H.O⟩)
theorem lZ {m:Mx} (h:mvB m=true) {x:Value} (w:World) (hx:RM w x m):Calls Tryz.prog 217 #[x] w (bD (il m) w):=by
 have hmm:=qu h;obtain ⟨r1,c1,v1,rfl,r11,r12,c11,c12,l1,b1⟩:=nS h;obtain ⟨A1,p1,rfl,hx0,hp1,hq1⟩:=hx
 dsimp only at hx0 hp1
 obtain ⟨a1,o1,rfl,_,_⟩:=hx0.2 (by rw [l1];exact Nat.mul_pos r11 c11)
 obtain ⟨n,hnn⟩:∃ n,n=r1:=⟨_,rfl⟩;have hN:(r1:Int)*1=(r1:Int):=by omega
 have hn2:r1<=1048576:=by omega
 obtain ⟨F,hF⟩:∃ F:Nat->Int,F=fun r=>ew ⟨(r1:Int),(c1:Int),v1⟩ c1 r c1%4096:=⟨_,rfl⟩
 have HMM:Hid (il ⟨(r1:Int),(c1:Int),v1⟩=⟨(r1:Int),1,fl F r1⟩):=by
  show il _=_
  rw [hmm,hF]
  rfl
 clear hmm;have HX:=Lib.hid hx0;have HA:=Lib.hid h;have HL1:=Lib.hid l1;have HN:=Lib.hid hN;have HNN:=Lib.hid hnn;have HFN:=Lib.hid hF;clear hx0 h l1 hN hnn hF;refine zE ?_;intro u1 H;refine zB (bP (m:=⟨(r1:Int),(c1:Int),v1⟩) HA.out u1 (SI.below HX.out H.O)) ?_;clear H;intro w2 u2 H;refine zG (di HN.out hn2 u2) ?_;rintro e w3 ⟨A,cG,rfl,hos,hb⟩;replace H:=H.os hb hos
 dsimp only at H ⊢
 rw [List.length_replicate] at H ⊢;obtain ⟨g,rfl,hg0,hg1⟩:=OS.pos (H.o 0) r11;refine zN ?_;clear H;intro u4 H;obtain ⟨gT,hgT⟩:∃ g,g=w3.heap.size:=⟨_,rfl⟩;rw [<- hgT] at H ⊢;clear hgT;replace H:=((((H.r 3).r 3).r 2).r 3);intros
 go_loopw [16] (fun i wr=>∃ r:Nat,r<=r1/\i= .int .i64 r/\Hid (Hq w [qO w.heap.size (some ⟨g,0,none⟩) r1 cG (fl (fun i=>if i<r then F i else if i=r then ew ⟨(r1:Int),(c1:Int),v1⟩ c1 r 0%4096 else 0) r1),qB gT 37 [.int .i64 (r1:Int),.int .i64 (1:Int),.slice (some ⟨g,0,none⟩) r1 cG],qB (w.heap.size+1) 37 [.int .i64 0,.int .i64 0,.slice none 0 0],qB w.heap.size 37 [.int .i64 (r1:Int),.int .i64 (c1:Int),.slice (some ⟨a1,o1,none⟩) v1.length p1]] wr)) (fun i _=>r1-(intOf i).toNat)
 case atStart=>exact ⟨0,Nat.zero_le _,rfl,by rw [show fl (fun i=>if i<0 then F i else if i=0 then ew ⟨(r1:Int),(c1:Int),v1⟩ c1 0 0%4096 else 0) r1=List.replicate r1 0 from by rw [<- j6];exact dT fun k _=>by simp [ew]];exact H⟩
 case round =>
 clear H;obtain ⟨r,hr,rfl,H⟩:=hrel;have H:=H.out
 by_cases hlt:r<r1
 ·refine zN ?_;clear H;intro u21 H;refine zB (qj hlt r12 ⟨c11,c12⟩ HL1.out hp1 hq1 u21) ?_;clear H;intro w22 u22 H;intros
  go_loopw [23] (fun i wr=>∃ p:Nat,p<=c1/\i= .int .i64 p/\Hid (Hq w [qO w.heap.size (some ⟨g,0,none⟩) r1 cG (fl (fun i=>if i<r then F i else if i=r then ew ⟨(r1:Int),(c1:Int),v1⟩ c1 r p%4096 else 0) r1),qB gT 37 [.int .i64 (r1:Int),.int .i64 (1:Int),.slice (some ⟨g,0,none⟩) r1 cG],qB (w.heap.size+1) 37 [.int .i64 0,.int .i64 0,.slice none 0 0],qB w.heap.size 37 [.int .i64 (r1:Int),.int .i64 (c1:Int),.slice (some ⟨a1,o1,none⟩) v1.length p1]] wr)) (fun i _=>c1-(intOf i).toNat)
  case atStart=>exact ⟨0,Nat.zero_le _,rfl,H⟩
  case round =>
  clear H;obtain ⟨p,hp,rfl,H⟩:=hrel;have H:=H.out
  by_cases hqc:p<c1
  ·have hi1:r*c1+p<v1.length:=by rw [HL1.out];exact e9 hlt hqc
   have cx:=kR HX.out H.O (Nat.le_refl _) hi1;rw [<- Nat.add_assoc] at cx;obtain ⟨x0,x1⟩:=dE HA.out (r*c1+p)
   dsimp only at x0 x1
   obtain ⟨s,hs'⟩:∃ s,s=ew ⟨(r1:Int),(c1:Int),v1⟩ c1 r p%4096:=⟨_,rfl⟩;have hs:=Lib.hid hs';obtain ⟨x,hx⟩:∃ x,x=v1.getD (r*c1+p) 0:=⟨_,rfl⟩;have hadd:aJ s x=ew ⟨(r1:Int),(c1:Int),v1⟩ c1 r (p+1)%4096:=by
    rw [dX (by omega) (by rw [hx];exact ⟨x0,x1⟩)]
    show (s+x)%4096=(ew ⟨(r1:Int),(c1:Int),v1⟩ c1 r p+v1.getD (r*c1+p) 0)%4096
    rw [<- hx,hs']
    omega
   obtain ⟨y,hy⟩:∃ y,y=aJ s x:=⟨_,rfl⟩;have HPA:Hid (∀ W:World,Calls Tryz.prog 146 #[.int .i64 s,.int .i64 x] W fun e w'=>e= .returned (.int .i64 y)/\W=w'):=by rw [hy];exact fun W=>iX s x W
   rw [<- hy] at hadd;have HST:Hid (fl (fun i=>if i<r then F i else if i=r then ew ⟨(r1:Int),(c1:Int),v1⟩ c1 r (p+1)%4096 else 0) r1=(fl (fun i=>if i<r then F i else if i=r then ew ⟨(r1:Int),(c1:Int),v1⟩ c1 r p%4096 else 0) r1).set r y):=pW hlt fun i hi=>by rw [hadd];by_cases e:i=r <;> by_cases e2:i<r <;> simp [e,e2] <;> omega
   rw [<- hx] at cx x0 x1;have j4:(p:Int)<(c1:Int):=by omega
   have j0:(0:Int)<=(r:Int):=by omega
   have j1:(r:Int)<(r1:Int):=by omega
   clear hx hi1 hs' hadd hy;refine zN ?_;clear H;intro u41 H;have ezG:=(a7 (H.o 0) hlt).1;refine zXZ (tg [gT,g]) ?_;clear H;intro S w42 hne H;refine zD (H.c 1) ?_;intro G;have rG:=(a7 (H.o 0) hlt).2.1;rw [show (fl (fun i=>if i<r then F i else if i=r then ew ⟨(r1:Int),(c1:Int),v1⟩ c1 r p%4096 else 0) r1).getD r 0=s from by rw [fL _ _ _ hlt];simp [hs.out]] at rG
   replace rG:=H.row rG;refine yP (HPA.out w42) ?_;have D:=a7 (H.o 0) hlt;refine nY ?_;clear H D;intro u42 H;refine zC ?_;intro C;intros;go_wp2
   go_roundw
   case rel=>exact ⟨p+1,by omega,by go_num,(by rw [HST.out];exact H)⟩
   case measure=>simp [intOf];omega
  ·obtain rfl:p=c1:=by omega
   have HSE:Hid (fl (fun i=>if i<(r+1) then F i else if i=(r+1) then ew ⟨(r1:Int),(p:Int),v1⟩ p (r+1) 0%4096 else 0) r1=fl (fun i=>if i<r then F i else if i=r then ew ⟨(r1:Int),(p:Int),v1⟩ p r p%4096 else 0) r1):=dT fun i hi=>by
    by_cases h4:i<r
    ·rw [if_pos h4,if_pos (by omega)]
    ·by_cases h5:i=r
     ·rw [if_neg h4,if_pos h5,if_pos (by omega),HFN.out,h5]
     ·rw [if_neg h4,if_neg h5,if_neg (by omega)];split <;> simp [ew]
   refine zC ?_;intro C;intros;go_wp2
   go_roundw
   case rel=>exact ⟨r+1,by omega,by go_num,(by rw [HSE.out];exact H)⟩
   case measure=>simp [intOf];omega
 ·obtain rfl:r=r1:=by omega
  rw [show fl (fun i=>if i<r then F i else if i=r then ew ⟨(r:Int),(c1:Int),v1⟩ c1 r 0%4096 else 0) r=fl F r from dT fun i hi=>by rw [if_pos hi]] at H
  refine zS_ ?_;clear H;intro u81 H
  exact (by rw [HMM.out];exact ⟨some ⟨g,0,none⟩,cG,by dsimp only;rw [aD],by dsimp only;rw [aD];exact (H.o 0),H.O⟩)
theorem lp {m:Mx} (h:mvB m=true) {cs:Nat} (hcs:1<=cs/\cs<=5) {x:Value} (w:World) (hx:RM w x m):Calls Tryz.prog 212 #[x,.int .i64 (cs:Int)] w (bD (jA m (cs:Int)) w):=by
 obtain ⟨r1,c1,v1,rfl,r11,r12,c11,c12,l1,b1⟩:=nS h;obtain ⟨A1,p1,rfl,hx0,hp1,hq1⟩:=hx
 dsimp only at hx0 hp1
 obtain ⟨a1,o1,rfl,_,_⟩:=hx0.2 (by rw [l1];exact Nat.mul_pos r11 c11)
 obtain ⟨n,hnn⟩:∃ n,n=r1*cs:=⟨_,rfl⟩;have hN:(r1:Int)*(cs:Int)=(n:Int):=by rw [hnn];push_cast;rfl
 have hn1:0<n:=by rw [hnn];exact Nat.mul_pos r11 hcs.1
 have hn25:n<=25:=by rw [hnn];exact Nat.mul_le_mul r12 hcs.2
 have hn2:n<=1048576:=by omega
 obtain ⟨F,hF⟩:∃ F:Nat->Int,F=fun i=>v1.getD (i/cs) 0:=⟨_,rfl⟩
 have HMM:Hid (jA ⟨(r1:Int),(c1:Int),v1⟩ (cs:Int)=⟨(r1:Int),(cs:Int),fl F n⟩):=by
  show jA _ _=_
  rw [hF,hnn]
  rfl
 have HX:=Lib.hid hx0;have HA:=Lib.hid h;have HL1:=Lib.hid l1;have HN:=Lib.hid hN;have HNN:=Lib.hid hnn;have HFN:=Lib.hid hF;clear hx0 h l1 hN hnn hF;refine zE ?_;intro u1 H;refine zG (di HN.out hn2 u1) ?_;rintro e w2 ⟨A,cG,rfl,hos,hb⟩;replace H:=H.os hb hos
 dsimp only at H ⊢
 rw [List.length_replicate] at H ⊢;obtain ⟨g,rfl,hg0,hg1⟩:=OS.pos (H.o 0) hn1;refine zN ?_;clear H;intro u3 H;obtain ⟨gT,hgT⟩:∃ g,g=w2.heap.size:=⟨_,rfl⟩;rw [<- hgT] at H ⊢;clear hgT;replace H:=((((H.r 3).r 3).r 2).r 3);intros
 go_loopw [14] (fun i wr=>∃ j:Nat,j<=n/\i= .int .i64 j/\Hid (Hq w [qO w.heap.size (some ⟨g,0,none⟩) n cG (fl (fun i=>if i<j then F i else 0) n),qB gT 37 [.int .i64 (r1:Int),.int .i64 (cs:Int),.slice (some ⟨g,0,none⟩) n cG],qB (w.heap.size+1) 37 [.int .i64 0,.int .i64 0,.slice none 0 0],qB w.heap.size 37 [.int .i64 (r1:Int),.int .i64 (c1:Int),.slice (some ⟨a1,o1,none⟩) v1.length p1]] wr)) (fun i _=>n-(intOf i).toNat)
 case atStart=>exact ⟨0,Nat.zero_le _,rfl,by rw [show fl (fun i=>if i<0 then F i else 0) n=List.replicate n 0 from by rw [<- j6];exact dT fun k _=>by simp];exact H⟩
 case round =>
 clear H;obtain ⟨j,hj,rfl,H⟩:=hrel;have H:=H.out
 by_cases hlt:j<n
 ·have hdv:j/cs<v1.length:=by rw [HL1.out];rw [HNN.out] at hlt;exact Nat.div_lt_of_lt_mul (by rw [Nat.mul_comm];exact Nat.lt_of_lt_of_le hlt (Nat.mul_le_mul_right cs (Nat.le_mul_of_pos_right _ c11)))
  obtain ⟨d,hd⟩:∃ d,d=j/cs:=⟨_,rfl⟩;rw [<- hd] at hdv;have hFv:Hid (v1.getD d 0=F j):=by unfold Hid;rw [HFN.out,hd]
  have hdq:(j:Int)/(cs:Int)=(d:Int):=by rw [hd];exact (Int.natCast_ediv j cs).symm
  have hdq2:Int.tdiv (j:Int) (cs:Int)=(d:Int):=by rw [Int.tdiv_eq_ediv_of_nonneg (by omega)];exact hdq
  have HST:Hid (fl (fun i=>if i<j+1 then F i else 0) n=(fl (fun i=>if i<j then F i else 0) n).set j (F j)):=pW hlt fun k _=>by
   by_cases h:k=j
   ·subst h;simp
   ·rw [if_neg h]
    by_cases h2:k<j
    ·rw [if_pos (by omega),if_pos h2]
    ·rw [if_neg (by omega),if_neg h2]
  clear hd;have d0:(0:Int)<=(d:Int):=by omega
  have d1:(d:Int)<(v1.length:Int):=by omega
  have cs0:¬ (cs:Int)=0:=by omega
  have j0:(0:Int)<=(j:Int):=by omega
  have j1:(j:Int)<(n:Int):=by omega
  have la:a1<w.heap.size:=SI.aj HX.out (by omega) a1 rfl
  obtain ⟨fj,hfj⟩:∃ y,y=F j:=⟨_,rfl⟩;rw [<- hfj] at hFv HST;clear hfj;refine zN ?_;clear H;intro u41 H;have ezA:=Nat.lt_of_lt_of_le la H.m;refine zXZ (tg [gT,w.heap.size,a1]) ?_;clear H;intro S w42 hne H;refine zD ((And.intro (H.c 1) (H.c 3))) ?_;intro G;have rA:=H.row (kR HX.out H.O (Nat.le_refl _) hdv);rw [hFv.out] at rA;have D:=a7 (H.o 0) hlt;refine nY ?_;clear H D;intro u42 H;refine zC ?_;intro C;intros;go_wp2
  go_roundw
  case rel=>exact ⟨j+1,by omega,by go_num,(by rw [HST.out];exact H)⟩
  case measure=>simp [intOf];omega
 ·obtain rfl:j=n:=by omega
  rw [show fl (fun i=>if i<j then F i else 0) j=fl F j from dT fun i hi=>by rw [if_pos hi]] at H
  refine zS_ ?_;clear H;intro u81 H
  exact (by rw [HMM.out];exact ⟨some ⟨g,0,none⟩,cG,by dsimp only;rw [aD],by dsimp only;rw [aD];exact (H.o 0),H.O⟩)
end
section
attribute [local go_sem] af ah ae
theorem Hq.spl {w0 w:World} {L:List Ow} {c d:Ow} (H:Hq w0 (c.and d::L) w) (hn:∀ i,c.F i->¬ d.F i):Hq w0 (c::d::L) w:=by
 refine ⟨⟨H.S.1.1,fun i hi e he=> ?_,H.S.1.2,fun i hi e he=>H.S.2.1 i (.inr hi) e he,H.S.2.2⟩,fun e he i hi=> ?_,H.O⟩
 ·rcases List.mem_cons.1 he with rfl | he
  ·exact hn i hi
  ·exact H.S.2.1 i (.inl hi) e he
 ·rcases List.mem_cons.1 he with rfl | he
  ·exact H.B (e.and d) (List.mem_cons_self ..) i (.inl hi)
  ·rcases List.mem_cons.1 he with rfl | he
   ·exact H.B (c.and e) (List.mem_cons_self ..) i (.inr hi)
   ·exact H.tl.B e he i hi
def Fi (r c:Int) (n:Nat) (w:World) (e:Ending) (w':World):Prop:=∃ gP gQ cP cQ:Nat,e= .returned (SMV r c (some ⟨gP,0,none⟩) n cP r c (some ⟨gQ,0,none⟩) n cQ)/\OS w' w.heap.size (some ⟨gP,0,none⟩) n cP (List.replicate n 0)/\OS w' w.heap.size (some ⟨gQ,0,none⟩) n cQ (List.replicate n 0)/\gP≠gQ/\Below w.heap.size w w'
theorem jr {r c:Int} {n:Nat} (hN:r*c=(n:Int)) (hn1:0<n) (hn2:n<=1048576) (w:World):Calls Tryz.prog 250 #[.int .i64 r,.int .i64 c] w (Fi r c n w):=by
 have HN:=Lib.hid hN;clear hN;refine zE ?_;intro u1 H;refine zO (di HN.out hn2 u1) ?_;clear H;intro w2 P cP u2 H;refine zO (di HN.out hn2 u2) ?_;clear H;intro w3 Q cQ u3 H
 (try dsimp only at H ⊢)
 rw [List.length_replicate] at H;obtain ⟨gP,rfl,-,-⟩:=OS.pos (H.o 1) hn1;obtain ⟨gQ,rfl,-,-⟩:=OS.pos (H.o 0) hn1;refine zS_ ?_;clear H;intro u4 H
 exact ⟨gP,gQ,cP,cQ,rfl,(H.o 1),(H.o 0),fun e=>H.noo 0 1 gQ rfl (congrArg some e),H.O⟩
theorem jI {r c r' c':Int} {n p q i:Nat} {A B:Option Addr} {u v:List Int} (hi:i<n) (w:World) (hx:SI w A n u) (hy:SI w B n v) :
  Calls Tryz.prog 253 #[SMV r c A n p r' c' B n q,.int .i64 (i:Int)] w fun e w'=>e= .returned (T2 (u.getD i 0) (v.getD i 0))/\Below w.heap.size w w':=by
 obtain ⟨a,o,rfl,ha,hc⟩:=hx.2 (by omega)
 obtain ⟨b,o',rfl,hb',hc'⟩:=hy.2 (by omega)
 have cx:=hc i hi;have cy:=hc' i hi;have j0:(0:Int)<=(i:Int):=by omega
 have j1:(i:Int)<(n:Int):=by omega
 clear hc hc' hx hy;refine zE ?_;intro u1 H;have la:=Nat.lt_of_lt_of_le ha H.m;have lb:=Nat.lt_of_lt_of_le hb' H.m;refine zX (tg [w.heap.size,a,b]) ?_;clear H;intro S w2 hne H;refine zD (H.c 1) ?_;intro G;have rx:=H.row ((H.O.cell (p:=⟨a,o+i,none⟩) ha).trans cx);have ry:=H.row ((H.O.cell (p:=⟨b,o'+i,none⟩) hb').trans cy);refine yS ?_;clear H;intro w3 H;refine yN ?_;clear H G;intro u4 H;refine zS_ ?_;clear H;intro u5 H
 exact ⟨rfl,H.O⟩
theorem BE {r c r' c' x y:Int} {n p q i g h:Nat} {v1 v2:Value} (hi:i<n) (hne:g≠h) (w:World) (hg:g<w.heap.size) (hh:h<w.heap.size) (hc1:w.cell? ⟨g,i,none⟩=some v1) (hf1:w.frozen? ⟨g,i,none⟩=false) (hc2:w.cell? ⟨h,i,none⟩=some v2) (hf2:w.frozen? ⟨h,i,none⟩=false) :
  Calls Tryz.prog 254 #[SMV r c (some ⟨g,0,none⟩) n p r' c' (some ⟨h,0,none⟩) n q,.int .i64 (i:Int),T2 x y] w fun e w'=>e= .returned undef/\Below ((w.setCell ⟨g,i,none⟩ (.int .i64 x)).setCell ⟨h,i,none⟩ (.int .i64 y)).heap.size ((w.setCell ⟨g,i,none⟩ (.int .i64 x)).setCell ⟨h,i,none⟩ (.int .i64 y)) w':=by
 have j0:(0:Int)<=(i:Int):=by omega
 have j1:(i:Int)<(n:Int):=by omega
 have n1:¬ g=w.heap.size:=by omega
 have n2:¬ g=w.heap.size+1:=by omega
 have n3:¬ h=w.heap.size:=by omega
 have n4:¬ h=w.heap.size+1:=by omega
 have n5:¬ w.heap.size=g:=by omega
 have n6:¬ w.heap.size+1=g:=by omega
 have n7:¬ h=g:=fun e=>hne e.symm
 go_enter Tryz.func254,Tryz.ntmps254
 go_wp2
 go_end0
 exact ⟨rfl,((Below.refl _ _).alloc (Nat.le_refl _) _).alloc (by simp) _⟩
theorem vW {w0 w:World} {L:List Ow} {b g h n p n' i:Nat} {xs ys:List Int} {r c r' c' x y:Int} (H:Hq w0 (qO b (some ⟨g,0,none⟩) n p xs::qO b (some ⟨h,0,none⟩) n n' ys::L) w) (hi:i<n) :
  Calls Tryz.prog 254 #[SMV r c (some ⟨g,0,none⟩) n p r' c' (some ⟨h,0,none⟩) n n',.int .i64 (i:Int),T2 x y] w fun e w'=>e= .returned undef/\Hq w0 (qO b (some ⟨g,0,none⟩) n p (xs.set i x)::qO b (some ⟨h,0,none⟩) n n' (ys.set i y)::L) w':=by
 obtain ⟨z1,c1,f1⟩:=a7 (H.o 0) hi;obtain ⟨z2,c2,f2⟩:=a7 (H.o 1) hi;refine (BE hi (fun e=>H.noo 0 1 g rfl (congrArg some e.symm)) w z1 z2 c1 f1 c2 f2).mono ?_
 rintro e w' ⟨rfl,hb⟩
 exact ⟨rfl,Hq.b ((H.st Upd.o0).st (Upd.t0 Upd.o0)) hb⟩
def zJ (p:Mx×Mx) (w:World) (e:Ending) (w':World):Prop:=∃ (A B:Option Addr) (c d:Nat),e= .returned (SMV p.1.r p.1.c A p.1.v.length c p.2.r p.2.c B p.2.v.length d)/\OS w' w.heap.size A p.1.v.length c p.1.v/\OS w' w.heap.size B p.2.v.length d p.2.v/\eJ A B/\Below w.heap.size w w'
theorem tZ {p q:Mx×Mx} {f:FuncId} {caps:Array Value} {x:Value} (w:World) (hx:RS w x p) (hrun:∀ (W:World) (args:Array Value),(callFunc f args).run Tryz.prog W= .ok (.enter f args) W)
  (hS:(∀ W v,Below w.heap.size w W->RM W v p.1->Calls Tryz.prog f (#[v]++caps) W (bD q.1 W))/\(∀ W v,Below w.heap.size w W->RM W v p.2->Calls Tryz.prog f (#[v]++caps) W (bD q.2 W))) :
  Calls Tryz.prog 82 #[x,.func (.func f) #[] caps] w (zJ q w):=by
 obtain ⟨A,B,a,b,rfl,h1,h2,h3,h4,h5,h6⟩:=hx;have HX:=Lib.hid (RM.mk h1 h2 h3);have HY:=Lib.hid (RM.mk h4 h5 h6);have HS:=Lib.hid hS;clear h1 h2 h3 h4 h5 h6 hS;refine zE ?_;intro u1 H;refine zX (tg [w.heap.size]) ?_;clear H;intro S w2 hne H;refine zD (H.c 1) ?_;intro G;refine yO (HS.out.1 _ _ H.O (RM.below HX.out H.O)) ?_;clear H;intro w3 P cP H;refine yO (HS.out.2 _ _ H.O (RM.below HY.out H.O)) ?_;clear H;intro w4 Q cQ H;refine yS ?_;clear H;intro w5 H;refine yN ?_;clear H G;intro u6 H;refine zS_ ?_;clear H;intro u7 H
 exact ⟨P,Q,cP,cQ,rfl,(H.o 1),(H.o 0),fun i hi hi'=>H.noo 0 1 i hi' hi,H.O⟩
theorem Ak {p q:Mx×Mx} {f:FuncId} {caps:Array Value} {x:Value} (w:World) (hx:RS w x p) (hrun:∀ (W:World) (args:Array Value),(callFunc f args).run Tryz.prog W= .ok (.enter f args) W)
  (hS:(∀ W v,Below w.heap.size w W->RM W v p.1->Calls Tryz.prog f (#[v]++caps) W (bD q.1 W))/\(∀ W v,Below w.heap.size w W->RM W v p.2->Calls Tryz.prog f (#[v]++caps) W (bD q.2 W))) :
  Calls Tryz.prog 82 #[x,.func (.func f) #[] caps] w (jW q w):=by
 refine (tZ w hx hrun hS).mono ?_;rintro e w' ⟨A,B,c,d,h1,h2,h3,_,h5⟩
 exact ⟨A,B,c,d,h1,h2,h3,h5⟩
end
section
attribute [local go_sem] af ah ae
theorem oK {kd:Int} (hK:1<=kd/\kd<=5) {p:Mx×Mx} {s:Int} (hop:okS p=true) (hs:sdB s=true) {x:Value} (w:World) (hx:RS w x p):Calls Tryz.prog 214 #[.int .i64 kd,x,.int .i64 s] w (bo (dv (fnv kd) p s).1 (dv (fnv kd) p s).2 25 w):=by
 obtain ⟨A,B,a,b,rfl,q1,q2,q3,q4,q5,q6⟩:=hx;have hX:=RS.mk q1 q2 q3 q4 q5 q6;have hlen:=bt (show az p.1 p.2=true from hop)
 obtain ⟨l1,s1,s2,_⟩:=cZ (ai hop).1;obtain ⟨n,hnn⟩:∃ n,n=p.1.v.length:=⟨_,rfl⟩;have hX1:SI w A n p.1.v:=by rw [hnn];exact q1
 have hX2:SI w B n p.2.v:=by rw [hnn,hlen.1];exact q4
 have hN:p.1.r*p.1.c=(n:Int):=by rw [hnn];exact l1.symm
 have hn1:0<n:=by omega
 have hn25:n<=25:=by omega
 have hn2:n<=1048576:=by omega
 have hMP:dv (fnv kd) p s=((⟨p.1.r,p.1.c,fl (mp1 p s) n⟩,⟨p.1.r,p.1.c,fl (mp2 (fnv kd) p s) n⟩),mpS s n):=by rw [hnn];rfl
 rw [<- hlen.1,<- hnn] at hX ⊢;have hmk:∀ W:World,(Instr.makeSlice 35 (.int .i64 (n:Int)) (.int .i64 (n:Int))).run Tryz.prog W= .ok (.slice (some ⟨W.heap.size,0,none⟩) n n) (W.alloc (ZB n)):=fun W=>jc n (by omega) W
 clear q1 q2 q3 q4 q5 q6 hlen l1 s1 s2 hnn;have HK:=Lib.hid hK;have HOP:=Lib.hid hop;have HS:=Lib.hid hs;have HX:=Lib.hid hX;have HX1:=Lib.hid hX1;have HX2:=Lib.hid hX2;have HN:=Lib.hid hN;have HMP:=Lib.hid hMP;clear hK hop hs hX hX1 hX2 hN hMP;refine zE ?_;intro u1 H;refine zP (aC HK.out u1) ?_;clear H;intro u2 H;refine zB (gC HOP.out u2 (RS.below HX.out H.O)) ?_;clear H;intro w3 u3 H;refine zP (aU (dH HS.out) u3) ?_;clear H;intro u4 H;refine zO (lh HK.out u4) ?_;clear H;intro w5 FA cV u5 H;refine zG (jr HN.out hn1 hn2 u5) ?_;rintro e w6 ⟨gP,gQ,cP,cQ,rfl,f1,f2,hne,hb⟩;replace H:=H.oo hb f1 f2;clear f1 f2 hb;replace H:=H.spl (fun i hi hi'=>hne (Option.some.inj (hi.trans hi'.symm)))
 refine zC ?_;intro C;intros;go_wp2;refine nqW (Hq.os (Hq.al (t:=82) (cs:=[.int .i64 p.1.r,.int .i64 p.1.c,.slice (some ⟨gP,0,none⟩) n cP,.int .i64 p.1.r,.int .i64 p.1.c,.slice (some ⟨gQ,0,none⟩) n cQ]) H rfl) ((Below.refl _ _).alloc (Nat.le_refl _) _) (OS.sN _ n (by omega))) ?_
 clear H C;intro u7 H;simp only [World.size_alloc] at H;obtain ⟨gO,hgO⟩:∃ g,g=w6.heap.size+1:=⟨_,rfl⟩;rw [<- hgO] at H ⊢;obtain ⟨gM,hgM⟩:∃ g,g=w6.heap.size:=⟨_,rfl⟩;rw [<- hgM] at H ⊢;clear hgO hgM hne;replace H:=(((((((H.r 5).r 6).r 3).r 6).r 4).r 6).r 6);intros
 go_loopw [2,47] (fun vs i wr=>∃ (j:Nat) (v:List Int),j<=n/\i= .int .i64 j/\vs= .int .i64 (mpS s j)/\Hid (Hq w [qO w.heap.size (some ⟨gP,0,none⟩) n cP (fl (mp1 p s) j++List.replicate (n-j) 0),qO w.heap.size (some ⟨gQ,0,none⟩) n cQ (fl (mp2 (fnv kd) p s) j++List.replicate (n-j) 0),qO w.heap.size (some ⟨gO,0,none⟩) n n v,qO w.heap.size FA 4096 cV (fl (fnv kd) 4096),qB gM 82 [.int .i64 p.1.r,.int .i64 p.1.c,.slice (some ⟨gP,0,none⟩) n cP,.int .i64 p.1.r,.int .i64 p.1.c,.slice (some ⟨gQ,0,none⟩) n cQ],qB w.heap.size 82 [.int .i64 p.1.r,.int .i64 p.1.c,.slice A n a,.int .i64 p.2.r,.int .i64 p.2.c,.slice B n b],qB (w.heap.size+1) 82 [.int .i64 0,.int .i64 0,.slice none 0 0,.int .i64 0,.int .i64 0,.slice none 0 0]] wr)) (fun _ i _=>n-(intOf i).toNat)
 case atStart=>exact ⟨0,_,Nat.zero_le _,rfl,rfl,(by rw [Nat.sub_zero];exact H)⟩
 case round =>
 clear H;obtain ⟨j,v,hj,rfl,rfl,H⟩:=hrel;have H:=H.out
 by_cases hlt:j<n
 ·obtain ⟨σ,hσ⟩:∃ x,x=mpS s j:=⟨_,rfl⟩;obtain ⟨a1,ha1⟩:∃ x,x=p.1.v.getD j 0:=⟨_,rfl⟩;obtain ⟨a2,ha2⟩:∃ x,x=p.2.v.getD j 0:=⟨_,rfl⟩;have hsv:sv a1 a2=true:=by rw [ha1,ha2];exact fX (dE (ai HOP.out).1 j) (dE (ai HOP.out).2.1 j)
  obtain ⟨jj,hjj⟩:∃ x,x=shJ p j:=⟨_,rfl⟩;have hsh:(a1+a2)%4096=jj:=by rw [hjj,ha1,ha2];rfl
  have hso:sdB σ=true:=by rw [hσ];exact qn HS.out j
  have hnx:mpS s (j+1)=sds (sds σ 2) 4096:=by rw [hσ];rfl
  obtain ⟨d1,hd1⟩:∃ x,x=lk1 σ jj:=⟨_,rfl⟩;obtain ⟨d2,hd2⟩:∃ x,x=lk2 (fnv kd) σ jj:=⟨_,rfl⟩;obtain ⟨d3,hd3⟩:∃ x,x=(jj+shf σ)%4096:=⟨_,rfl⟩;have HS1:Hid ((fl (mp1 p s) j++List.replicate (n-j) 0).set j d1=(fl (mp1 p s) (j+1)++List.replicate (n-(j+1)) 0)):=by have h:=jF (mp1 p s) n j hlt;rw [show mp1 p s j=d1 from by rw [hd1,hσ,hjj];unfold mp1;rfl] at h;exact h
  have HS2:Hid ((fl (mp2 (fnv kd) p s) j++List.replicate (n-j) 0).set j d2=(fl (mp2 (fnv kd) p s) (j+1)++List.replicate (n-(j+1)) 0)):=by have h:=jF (mp2 (fnv kd) p s) n j hlt;rw [show mp2 (fnv kd) p s j=d2 from by rw [hd2,hσ,hjj];unfold mp2;rfl] at h;exact h
  rw [<- hσ];have HSV:=Lib.hid hsv;have HSH:=Lib.hid hsh;have HSO:=Lib.hid hso;have HNX:=Lib.hid hnx;have HA1:=Lib.hid ha1;have HA2:=Lib.hid ha2;have HD1:=Lib.hid hd1;have HD2:=Lib.hid hd2;have HD3:=Lib.hid hd3;clear hsv hsh hso hnx ha1 ha2 hd1 hd2 hd3 hσ hjj;refine zN ?_;clear H;intro u21 H;refine zOO (rq (fnv kd) (fun j _=>pX kd j) (dH HSO.out) FA cV u21 (OS.si (H.o 4))) ?_;clear H;intro w22 TA TB tc td u22 H
  have E:=H.el;refine zXF (tgF [wr.heap.size,w.heap.size] 9 14 (.cells #[.int .i64 0,.int .i64 0] 213)) ?_;clear H;intro S w23 hne H;refine zD ((And.intro (H.c 1) (H.c 7))) ?_;intro G;intros;refine f_ (fun w24 (hb:Bw w23 w24)=>jI (p:=a) (q:=b) hlt w24 (SI.below HX1.out (H.b hb).O) (SI.below HX2.out (H.b hb).O)) ?_;clear H
  rintro w24 K hK H e w25 ⟨rfl,hb⟩;replace H:=H.b hb;rw [<- HA1.out,<- HA2.out];refine fK ?_;clear hK K hb;intros;refine f_ (fun w26 (hb:Bw w25 w26)=>Aj (f:=fnv kd) (fun j _=>pX kd j) HSV.out HSH.out TA TB tc td w26 (OS.si (Ow.P1 ((H.b hb).p 0))) (OS.si (Ow.P2 ((H.b hb).p 0)))) ?_;clear H
  rintro w26 K hK H e w27 ⟨rfl,hb⟩;replace H:=H.b hb;rw [<- HD1.out,<- HD2.out,<- HD3.out];refine fK ?_;clear hK K hb;refine yG ?_;clear H;intro w28 g28 hg28 H;refine yS ?_;clear H;intro w29 H;refine yN ?_;clear H G;intro u30 H;replace H:=(((H.d 0).d 0).d 0);refine zG (vW H hlt) ?_;rintro e wp ⟨rfl,hq⟩;replace H:=hq;clear hq;obtain ⟨z4,c4,f4⟩:=a7 (H.o 2) hlt;have i0:(0:Int)<=(j:Int):=by omega
  have i1:(j:Int)<(n:Int):=by omega
  refine zC ?_;intro C;intros;go_wp2
  go_roundw
  case rel=>exact ⟨j+1,_,by omega,by go_num,by rw [HNX.out],by rw [<- HS1.out,<- HS2.out];exact Lib.hid hq⟩
  case measure=>simp [intOf];omega
 ·obtain rfl:j=n:=by omega
  rw [Nat.sub_self,List.replicate_zero,List.append_nil,List.append_nil] at H;refine zS_ ?_;clear H;intro u61 H
  exact (by rw [HMP.out];exact ⟨_,cP,_,cQ,_,_,_,v,by dsimp only;rw [aD,aD];rfl,by dsimp only;rw [aD];exact (H.o 0),by dsimp only;rw [aD];exact (H.o 1),(H.o 2),by omega,H.O⟩)
end
section
attribute [local go_sem] af ah ae
theorem my {p yq:Mx×Mx} {s:Int} (hop:okS p=true) (hoq:okS yq=true) (hr:yq.1.r=p.1.r) (hc1:yq.1.c=1) (hs:sdB s=true) {x y:Value} (w:World) (hx:RS w x p) (hy:RS w y yq) :
  Calls Tryz.prog 256 #[x,y,.int .i64 s] w (bo (c_ p yq s).1 (c_ p yq s).2 50 w):=by
 obtain ⟨A,B,a,b,rfl,q1,q2,q3,q4,q5,q6⟩:=hx;obtain ⟨E,F,e1,f1,rfl,r1,r2,r3,r4,r5,r6⟩:=hy;have hX:=RS.mk q1 q2 q3 q4 q5 q6;have hY:=RS.mk r1 r2 r3 r4 r5 r6;have hlen:=bt (show az p.1 p.2=true from hop)
 have hlem:=bt (show az yq.1 yq.2=true from hoq)
 obtain ⟨l1,s1,s2,_⟩:=cZ (ai hop).1;obtain ⟨l2,_,_,_⟩:=cZ (ai hoq).1;obtain ⟨n,hnn⟩:∃ n,n=p.1.v.length:=⟨_,rfl⟩;obtain ⟨m,hmm⟩:∃ m,m=yq.1.v.length:=⟨_,rfl⟩;obtain ⟨c,hcc⟩:∃ c,c=p.1.c.toNat:=⟨_,rfl⟩;have hX1:SI w A n p.1.v:=by rw [hnn];exact q1
 have hX2:SI w B n p.2.v:=by rw [hnn,hlen.1];exact q4
 have hY1:SI w E m yq.1.v:=by rw [hmm];exact r1
 have hY2:SI w F m yq.2.v:=by rw [hmm,hlem.1];exact r4
 have hN:p.1.r*p.1.c=(n:Int):=by rw [hnn];exact l1.symm
 have hn1:0<n:=by omega
 have hn25:n<=25:=by omega
 have hn2:n<=1048576:=by omega
 have hCC:p.1.c=(c:Int):=by rw [hcc];exact (et s2).symm
 have hc0:1<=c:=by have:=bI s2;omega
 have cs0:¬ p.1.c=0:=by omega
 have hMR:(m:Int)=p.1.r:=by rw [hmm,l2,hc1,hr];omega
 have hNC:n=m*c:=by have h:(n:Int)=(m:Int)*(c:Int):=(by rw [<- hN,hMR,hCC]);exact_mod_cast h
 have hm25:m<=25:=by rw [hmm];omega
 have hMP:c_ p yq s=((⟨p.1.r,p.1.c,fl (sc1 p yq s) n⟩,⟨p.1.r,p.1.c,fl (sc2 p yq s) n⟩),scS s n):=by rw [hnn];rfl
 rw [<- hlen.1,<- hnn] at hX ⊢;rw [<- hlem.1,<- hmm] at hY ⊢;have hq1:(yq.1.c != 1)=false:=by simp [hc1]
 have hq2:(yq.1.r != p.1.r)=false:=by simp [hr]
 clear q1 q2 q3 q4 q5 q6 r1 r2 r3 r4 r5 r6 hlen hlem l1 l2 s1 s2 hnn hmm hcc hc1 hr hMR;have HOP:=Lib.hid hop;have HOQ:=Lib.hid hoq;have HS:=Lib.hid hs;have HX:=Lib.hid hX;have HY:=Lib.hid hY;have HX1:=Lib.hid hX1;have HX2:=Lib.hid hX2;have HY1:=Lib.hid hY1;have HY2:=Lib.hid hY2;have HN:=Lib.hid hN;have HNC:=Lib.hid hNC;have HCC:=Lib.hid hCC;have HMP:=Lib.hid hMP;clear hop hoq hs hX hY hX1 hX2 hY1 hY2 hN hNC hCC hMP;refine zE ?_;intro u1 H;refine zB (gC HOP.out u1 (RS.below HX.out H.O)) ?_;clear H;intro w2 u2 H;refine zB (gC HOQ.out u2 (RS.below HY.out H.O)) ?_;clear H;intro w3 u3 H;refine zP (aU (dH HS.out) u3) ?_;clear H;intro u4 H;refine zG (jr HN.out hn1 hn2 u4) ?_;rintro e w5 ⟨gP,gQ,cP,cQ,rfl,f1',f2,hne,hb⟩;replace H:=H.oo hb f1' f2;clear f1' f2 hb;replace H:=H.spl (fun i hi hi'=>hne (Option.some.inj (hi.trans hi'.symm)))
 refine zN ?_;clear H;intro u6 H;obtain ⟨gM,hgM⟩:∃ g,g=w5.heap.size:=⟨_,rfl⟩;rw [<- hgM] at H ⊢;clear hgM hne;replace H:=H.nil;replace H:=(((((((H.r 4).r 5).r 6).r 4).r 4).r 6).r 6);intros
 go_loopw [2,10,56] (fun vs vo i wr=>∃ (j k0:Nat) (Ca:Option Addr) (v:List Int),j<=n/\i= .int .i64 j/\vs= .int .i64 (scS s j)/\vo= .slice Ca (2*j) k0/\Hid (Hq w [qO w.heap.size (some ⟨gP,0,none⟩) n cP (fl (sc1 p yq s) j++List.replicate (n-j) 0),qO w.heap.size (some ⟨gQ,0,none⟩) n cQ (fl (sc2 p yq s) j++List.replicate (n-j) 0),qO w.heap.size Ca (2*j) k0 v,qB gM 82 [.int .i64 p.1.r,.int .i64 p.1.c,.slice (some ⟨gP,0,none⟩) n cP,.int .i64 p.1.r,.int .i64 p.1.c,.slice (some ⟨gQ,0,none⟩) n cQ],qB w.heap.size 82 [.int .i64 p.1.r,.int .i64 p.1.c,.slice A n a,.int .i64 p.2.r,.int .i64 p.2.c,.slice B n b],qB (w.heap.size+1) 82 [.int .i64 yq.1.r,.int .i64 yq.1.c,.slice E m e1,.int .i64 yq.2.r,.int .i64 yq.2.c,.slice F m f1],qB (w.heap.size+2) 82 [.int .i64 0,.int .i64 0,.slice none 0 0,.int .i64 0,.int .i64 0,.slice none 0 0]] wr)) (fun _ _ i _=>n-(intOf i).toNat)
 case atStart=>exact ⟨0,0,none,_,Nat.zero_le _,rfl,rfl,rfl,(by rw [Nat.sub_zero];exact H)⟩
 case round =>
 clear H;obtain ⟨j,k0,Ca,v,hj,rfl,rfl,rfl,H⟩:=hrel;have H:=H.out
 by_cases hlt:j<n
 ·obtain ⟨σ,hσ⟩:∃ x,x=scS s j:=⟨_,rfl⟩;obtain ⟨d,hd⟩:∃ x,x=j/c:=⟨_,rfl⟩;have hdm:d<m:=by rw [hd];exact Nat.div_lt_of_lt_mul (by rw [Nat.mul_comm,<- HNC.out];exact hlt)
  have hdq:(j:Int)/p.1.c=(d:Int):=by rw [hd,HCC.out];exact (Int.natCast_ediv j c).symm
  have hdq2:Int.tdiv (j:Int) p.1.c=(d:Int):=by rw [Int.tdiv_eq_ediv_of_nonneg (by omega)];exact hdq
  have hwd:=IntWalk.i64_in (d:Int) (by omega)
  obtain ⟨a1,ha1⟩:∃ x,x=p.1.v.getD j 0:=⟨_,rfl⟩;obtain ⟨a2,ha2⟩:∃ x,x=p.2.v.getD j 0:=⟨_,rfl⟩;obtain ⟨b1,hb1⟩:∃ x,x=yq.1.v.getD d 0:=⟨_,rfl⟩;obtain ⟨b2,hb2⟩:∃ x,x=yq.2.v.getD d 0:=⟨_,rfl⟩;have hsv:sv a1 a2=true:=by rw [ha1,ha2];exact fX (dE (ai HOP.out).1 j) (dE (ai HOP.out).2.1 j)
  have htv:sv b1 b2=true:=by rw [hb1,hb2];exact fX (dE (ai HOQ.out).1 d) (dE (ai HOQ.out).2.1 d)
  have hso:sdB σ=true:=by rw [hσ];exact qH HS.out j
  have hnx:scS s (j+1)=sds σ 5:=by rw [hσ];rfl
  have hct:p.1.c.toNat=c:=by rw [HCC.out];rfl
  obtain ⟨d1,hd1⟩:∃ x,x=mP1 (rn σ 4) (rn σ 2) (rn σ 0) (mD a1 a2 (rn σ 0) (rn σ 1)) (mD b1 b2 (rn σ 2) (rn σ 3)):=⟨_,rfl⟩;obtain ⟨d2,hd2⟩:∃ x,x=mP2 ((tC σ-rn σ 4)%4096) (rn σ 3) (rn σ 1) (mD a1 a2 (rn σ 0) (rn σ 1)) (mD b1 b2 (rn σ 2) (rn σ 3)):=⟨_,rfl⟩;have HS1:Hid ((fl (sc1 p yq s) j++List.replicate (n-j) 0).set j d1=(fl (sc1 p yq s) (j+1)++List.replicate (n-(j+1)) 0)):=by have h:=jF (sc1 p yq s) n j hlt;rw [show sc1 p yq s j=d1 from by rw [hd1];unfold sc1 scD scE;rw [hct,<- hd,<- hσ,ha1,ha2,hb1,hb2]] at h;exact h
  have HS2:Hid ((fl (sc2 p yq s) j++List.replicate (n-j) 0).set j d2=(fl (sc2 p yq s) (j+1)++List.replicate (n-(j+1)) 0)):=by have h:=jF (sc2 p yq s) n j hlt;rw [show sc2 p yq s j=d2 from by rw [hd2];unfold sc2 scD scE;rw [hct,<- hd,<- hσ,ha1,ha2,hb1,hb2]] at h;exact h
  rw [<- hσ];have HSV:=Lib.hid hsv;have HTV:=Lib.hid htv;have HSO:=Lib.hid hso;have HNX:=Lib.hid hnx;have HA1:=Lib.hid ha1;have HA2:=Lib.hid ha2;have HB1:=Lib.hid hb1;have HB2:=Lib.hid hb2;have HD1:=Lib.hid hd1;have HD2:=Lib.hid hd2;clear hsv htv hso hnx ha1 ha2 hb1 hb2 hd1 hd2 hσ hct hd;refine zN ?_;clear H;intro u21 H;refine zB (qd (dH HSO.out) u21) ?_;clear H;intro w22 u22 H;have E:=H.el;refine zXF (tgF [wr.heap.size,w.heap.size,(w.heap.size+1)] 16 13 (.cells #[.int .i64 0,.int .i64 0] 213)) ?_;clear H;intro S w23 hne H;refine zD ((And.intro (H.c 0) (And.intro (H.c 5) (H.c 6)))) ?_;intro G;intros;refine f_ (fun w24 (hb:Bw w23 w24)=>jI (p:=a) (q:=b) hlt w24 (SI.below HX1.out (H.b hb).O) (SI.below HX2.out (H.b hb).O)) ?_;clear H
  rintro w24 K hK H e w25 ⟨rfl,hb⟩;replace H:=H.b hb;rw [<- HA1.out,<- HA2.out];refine fK ?_;clear hK K hb;intros;refine f_ (fun w26 (hb:Bw w25 w26)=>jI (p:=e1) (q:=f1) hdm w26 (SI.below HY1.out (H.b hb).O) (SI.below HY2.out (H.b hb).O)) ?_;clear H
  rintro w26 K hK H e w27 ⟨rfl,hb⟩;replace H:=H.b hb;rw [<- HB1.out,<- HB2.out];refine fK ?_;clear hK K hb;intros;refine f_ (fun w28 (hb:Bw w27 w28)=>ru HSV.out HTV.out (fX (dB σ 0) (dB σ 1)) (fX (dB σ 2) (dB σ 3)) (fX (dB σ 4) (by omega)) (kX σ) w28) ?_;clear H
  rintro w28 K hK H e w29 ⟨D,cd,rfl,hos,hb⟩;replace H:=H.os hb hos;rw [<- HD1.out,<- HD2.out];refine fK ?_;clear hK K hb;refine yG ?_;clear H;intro w30 g30 hg30 H;refine yS ?_;clear H;intro w31 H;refine yN ?_;clear H G;intro u32 H;replace H:=(((((((((H.d 0).d 1).r 7).r 7).r 7).r 7).r 7).r 7).r 7);refine zG (vW H hlt) ?_;rintro e wp ⟨rfl,hq⟩;replace H:=hq;clear hq;refine zC ?_;intro C;intros
  go_wp2_with (at_builtin;refine zM ?_)
  clear H C;intro u33 H;replace H:=H.r 2;refine zA (OS.si (H.o 7)) True.intro ?_;clear H;intro C1 k1 w33 H;rw [HS1.out,HS2.out,show 2*j+2=2*(j+1) from by omega] at H
  rw [show 2*j+2=2*(j+1) from by omega]
  replace H:=((((((((H.d 7).r 6).r 6).r 6).r 6).r 4).r 6).r 6);refine zC ?_;intro C;intros;go_wp2
  go_roundw
  case rel=>exact ⟨j+1,k1,C1,_,by omega,by go_num,by rw [HNX.out],rfl,H⟩
  case measure=>simp [intOf];omega
 ·obtain rfl:j=n:=by omega
  rw [Nat.sub_self,List.replicate_zero,List.append_nil,List.append_nil] at H;refine zS_ ?_;clear H;intro u61 H
  exact (by rw [HMP.out];exact ⟨_,cP,_,cQ,Ca,_,k0,v,by dsimp only;rw [aD,aD];rfl,by dsimp only;rw [aD];exact (H.o 0),by dsimp only;rw [aD];exact (H.o 1),(H.o 2),by omega,H.O⟩)
end
end Go.Proofs.YtjciicheoghcdaaGreatDoor

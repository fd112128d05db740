/- Part of the proof: the law FnServiceRun is true for every input. -/
import Derived.BigQuiet
import Derived.Test.YtjciicheoghcdaaGreatDoorVe
import Derived.Test.YtjciicheoghcdaaGreatDoorVg
import Derived.Test.YtjciicheoghcdaaGreatDoorVi
import Derived.Test.YtjciicheoghcdaaGreatDoorVk
import Derived.Test.YtjciicheoghcdaaGreatDoorVm
import Derived.Test.YtjciicheoghcdaaGreatDoorVn
import Derived.Test.YtjciicheoghcdaaGreatDoorVo
namespace Go.Proofs.YtjciicheoghcdaaGreatDoor
open Go.RowKit Go.Proofs.Tryz
set_option linter.all false
set_option maxRecDepth 20000
set_option maxHeartbeats 16000000
section
attribute [local go_sem] af ah ae
theorem oK {kd:Int} (hK:1<=kd/\kd<=5) {p:Mx×Mx} {s:Int} (hop:okS p=true) (hs:sdB s=true) {x:Value} (w:World) (hx:RS w x p):Calls prog 214 #[.int .i64 kd,x,.int .i64 s] w (bo (dv (fnv kd) p s).1 (dv (fnv kd) p s).2 25 w):=by
 obtain⟨A,B,a,b,rfl,q1,q2,q3,q4,q5,q6⟩:=hx;have hX:=RS.mk q1 q2 q3 q4 q5 q6;have hlen:=bt (show az p.1 p.2=true from hop)
 obtain⟨l1,s1,s2,_⟩:=cZ (ai hop).1;obtain⟨n,hnn⟩:∃ n,n=p.1.v.length:=⟨_,rfl⟩;have hX1:SI w A n p.1.v:=by rw[hnn];exact q1
 have hX2:SI w B n p.2.v:=by rw[hnn,hlen.1];exact q4
 have hN:p.1.r*p.1.c=(n:Int):=by rw[hnn];exact l1.symm
 have hn1:0<n:=by omega
 have hn25:n<=25:=by omega
 have hn2:n<=1048576:=by omega
 have hMP:dv (fnv kd) p s=((⟨p.1.r,p.1.c,fl (mp1 p s) n⟩,⟨p.1.r,p.1.c,fl (mp2 (fnv kd) p s) n⟩),mpS s n):=by rw[hnn];rfl
 rw[<-hlen.1,<-hnn] at hX ⊢;have hmk:∀ W:World,(Instr.makeSlice 35 (.int .i64 (n:Int)) (.int .i64 (n:Int))).run prog W= .ok (.slice (some ⟨W.heap.size,0,none⟩) n n) (W.alloc (ZB n)):=fun W=>jc n (by omega) W
 clear q1 q2 q3 q4 q5 q6 hlen l1 s1 s2 hnn;have HK:=Qh hK;have HOP:=Qh hop;have HS:=Qh hs;have HX:=Qh hX;have HX1:=Qh hX1;have HX2:=Qh hX2;have HN:=Qh hN;have HMP:=Qh hMP;clear hK hop hs hX hX1 hX2 hN hMP;refine zE ?_;intro u1 H;refine zP (aC HK.out u1) ?_;clear H;intro u2 H;refine zB (gC HOP.out u2 (RS.below HX.out H.O)) ?_;clear H;intro w3 u3 H;refine zP (aU (dH HS.out) u3) ?_;clear H;intro u4 H;refine zO (lh HK.out u4) ?_;clear H;intro w5 FA cV u5 H;refine zG (jr HN.out hn1 hn2 u5) ?_;rintro e w6 ⟨gP,gQ,cP,cQ,rfl,f1,f2,hne,hb⟩;replace H:=H.oo hb f1 f2;clear f1 f2 hb;replace H:=H.spl (fun i hi hi'=>hne (Option.some.inj (hi.trans hi'.symm)))
 refine zC ?_;intro C;intros;go_wp2;refine nqW (Hq.os (Hq.al (t:=82) (cs:=[.int .i64 p.1.r,.int .i64 p.1.c,.slice (some ⟨gP,0,none⟩) n cP,.int .i64 p.1.r,.int .i64 p.1.c,.slice (some ⟨gQ,0,none⟩) n cQ]) H rfl) (Qb.alloc Ql _) (OS.sN _ n (by omega))) ?_
 clear H C;intro u7 H;simp only[World.size_alloc] at H;obtain⟨gO,hgO⟩:∃ g,g=w6.heap.size+1:=⟨_,rfl⟩;rw[<-hgO] at H ⊢;obtain⟨gM,hgM⟩:∃ g,g=w6.heap.size:=⟨_,rfl⟩;rw[<-hgM] at H ⊢;clear hgO hgM hne;replace H:=(((((((H.r 5).r 6).r 3).r 6).r 4).r 6).r 6);intros
 go_loopw [2,47] (fun vs i wr=>∃ (j:Nat) (v:List Int),j<=n/\i= .int .i64 j/\vs= .int .i64 (mpS s j)/\Hid (Hq w [qO w.heap.size (some ⟨gP,0,none⟩) n cP (fl (mp1 p s) j++List.replicate (n-j) 0),qO w.heap.size (some ⟨gQ,0,none⟩) n cQ (fl (mp2 (fnv kd) p s) j++List.replicate (n-j) 0),qO w.heap.size (some ⟨gO,0,none⟩) n n v,qO w.heap.size FA 4096 cV (fl (fnv kd) 4096),qB gM 82 [.int .i64 p.1.r,.int .i64 p.1.c,.slice (some ⟨gP,0,none⟩) n cP,.int .i64 p.1.r,.int .i64 p.1.c,.slice (some ⟨gQ,0,none⟩) n cQ],qB w.heap.size 82 [.int .i64 p.1.r,.int .i64 p.1.c,.slice A n a,.int .i64 p.2.r,.int .i64 p.2.c,.slice B n b],qB (w.heap.size+1) 82 [.int .i64 0,.int .i64 0,.slice none 0 0,.int .i64 0,.int .i64 0,.slice none 0 0]] wr)) (fun _ i _=>n-(intOf i).toNat)
 case atStart=>exact⟨0,_,Nat.zero_le _,rfl,rfl,(by rw[Nat.sub_zero];exact H)⟩
 case round =>
 clear H;obtain⟨j,v,hj,rfl,rfl,H⟩:=hrel;have H:=H.out
 by_cases hlt:j<n
 ·obtain⟨σ,hσ⟩:∃ x,x=mpS s j:=⟨_,rfl⟩;obtain⟨a1,ha1⟩:∃ x,x=p.1.v.getD j 0:=⟨_,rfl⟩;obtain⟨a2,ha2⟩:∃ x,x=p.2.v.getD j 0:=⟨_,rfl⟩;have hsv:sv a1 a2=true:=by rw[ha1,ha2];exact fX (dE (ai HOP.out).1 j) (dE (ai HOP.out).2.1 j)
  obtain⟨jj,hjj⟩:∃ x,x=shJ p j:=⟨_,rfl⟩;have hsh:(a1+a2)%4096=jj:=by rw[hjj,ha1,ha2];rfl
  have hso:sdB σ=true:=by rw[hσ];exact qn HS.out j
  have hnx:mpS s (j+1)=sds (sds σ 2) 4096:=by rw[hσ];rfl
  obtain⟨d1,hd1⟩:∃ x,x=lk1 σ jj:=⟨_,rfl⟩;obtain⟨d2,hd2⟩:∃ x,x=lk2 (fnv kd) σ jj:=⟨_,rfl⟩;obtain⟨d3,hd3⟩:∃ x,x=(jj+shf σ)%4096:=⟨_,rfl⟩;have HS1:Hid ((fl (mp1 p s) j++List.replicate (n-j) 0).set j d1=(fl (mp1 p s) (j+1)++List.replicate (n-(j+1)) 0)):=by have h:=jF (mp1 p s) n j hlt;rw[show mp1 p s j=d1 from by rw[hd1,hσ,hjj];unfold mp1;rfl] at h;exact h
  have HS2:Hid ((fl (mp2 (fnv kd) p s) j++List.replicate (n-j) 0).set j d2=(fl (mp2 (fnv kd) p s) (j+1)++List.replicate (n-(j+1)) 0)):=by have h:=jF (mp2 (fnv kd) p s) n j hlt;rw[show mp2 (fnv kd) p s j=d2 from by rw[hd2,hσ,hjj];unfold mp2;rfl] at h;exact h
  rw[<-hσ];have HSV:=Qh hsv;have HSH:=Qh hsh;have HSO:=Qh hso;have HNX:=Qh hnx;have HA1:=Qh ha1;have HA2:=Qh ha2;have HD1:=Qh hd1;have HD2:=Qh hd2;have HD3:=Qh hd3;clear hsv hsh hso hnx ha1 ha2 hd1 hd2 hd3 hσ hjj;refine zN ?_;clear H;intro u21 H;refine zOO (rq (fnv kd) (fun j _=>pX kd j) (dH HSO.out) FA cV u21 (OS.si (H.o 4))) ?_;clear H;intro w22 TA TB tc td u22 H
  have E:=H.el;refine zXF (tgF [wr.heap.size,w.heap.size] 9 14 (.cells #[.int .i64 0,.int .i64 0] 213)) ?_;clear H;intro S w23 hne H;refine zD ((And.intro (H.c 1) (H.c 7))) ?_;intro G;intros;refine f_ (fun w24 (hb:Bw w23 w24)=>jI (p:=a) (q:=b) hlt w24 (SI.below HX1.out (H.b hb).O) (SI.below HX2.out (H.b hb).O)) ?_;clear H
  rintro w24 K hK H e w25 ⟨rfl,hb⟩;replace H:=H.b hb;rw[<-HA1.out,<-HA2.out];refine fK ?_;clear hK K hb;intros;refine f_ (fun w26 (hb:Bw w25 w26)=>Aj (f:=fnv kd) (fun j _=>pX kd j) HSV.out HSH.out TA TB tc td w26 (OS.si (Ow.P1 ((H.b hb).p 0))) (OS.si (Ow.P2 ((H.b hb).p 0)))) ?_;clear H
  rintro w26 K hK H e w27 ⟨rfl,hb⟩;replace H:=H.b hb;rw[<-HD1.out,<-HD2.out,<-HD3.out];refine fK ?_;clear hK K hb;refine yG ?_;clear H;intro w28 g28 hg28 H;refine yS ?_;clear H;intro w29 H;refine yN ?_;clear H G;intro u30 H;replace H:=(((H.d 0).d 0).d 0);refine zG (vW H hlt) ?_;rintro e wp ⟨rfl,hq⟩;replace H:=hq;clear hq;obtain⟨z4,c4,f4⟩:=a7 (H.o 2) hlt;have i0:(0:Int)<=(j:Int):=by omega
  have i1:(j:Int)<(n:Int):=by omega
  refine zC ?_;intro C;intros;go_wp2
  go_roundw
  case rel=>exact⟨j+1,_,by omega,by go_num,by rw[HNX.out],by rw[<-HS1.out,<-HS2.out];exact Qh hq⟩
  case measure=>simp[intOf];omega
 ·obtain rfl:j=n:=by omega
  rw[Nat.sub_self,List.replicate_zero,List.append_nil,List.append_nil] at H;refine zS_ ?_;clear H;intro u61 H
  exact(by rw[HMP.out];exact⟨_,cP,_,cQ,_,_,_,v,by dsimp only;rw[aD,aD];rfl,by dsimp only;rw[aD];exact(H.o 0),by dsimp only;rw[aD];exact(H.o 1),(H.o 2),by omega,H.O⟩)
end
section
attribute [local go_sem] af ah ae
theorem my {p yq:Mx×Mx} {s:Int} (hop:okS p=true) (hoq:okS yq=true) (hr:yq.1.r=p.1.r) (hc1:yq.1.c=1) (hs:sdB s=true) {x y:Value} (w:World) (hx:RS w x p) (hy:RS w y yq) :
  Calls prog 256 #[x,y,.int .i64 s] w (bo (c_ p yq s).1 (c_ p yq s).2 50 w):=by
 obtain⟨A,B,a,b,rfl,q1,q2,q3,q4,q5,q6⟩:=hx;obtain⟨E,F,e1,f1,rfl,r1,r2,r3,r4,r5,r6⟩:=hy;have hX:=RS.mk q1 q2 q3 q4 q5 q6;have hY:=RS.mk r1 r2 r3 r4 r5 r6;have hlen:=bt (show az p.1 p.2=true from hop)
 have hlem:=bt (show az yq.1 yq.2=true from hoq)
 obtain⟨l1,s1,s2,_⟩:=cZ (ai hop).1;obtain⟨l2,_,_,_⟩:=cZ (ai hoq).1;obtain⟨n,hnn⟩:∃ n,n=p.1.v.length:=⟨_,rfl⟩;obtain⟨m,hmm⟩:∃ m,m=yq.1.v.length:=⟨_,rfl⟩;obtain⟨c,hcc⟩:∃ c,c=p.1.c.toNat:=⟨_,rfl⟩;have hX1:SI w A n p.1.v:=by rw[hnn];exact q1
 have hX2:SI w B n p.2.v:=by rw[hnn,hlen.1];exact q4
 have hY1:SI w E m yq.1.v:=by rw[hmm];exact r1
 have hY2:SI w F m yq.2.v:=by rw[hmm,hlem.1];exact r4
 have hN:p.1.r*p.1.c=(n:Int):=by rw[hnn];exact l1.symm
 have hn1:0<n:=by omega
 have hn25:n<=25:=by omega
 have hn2:n<=1048576:=by omega
 have hCC:p.1.c=(c:Int):=by rw[hcc];exact(et s2).symm
 have hc0:1<=c:=by have:=bI s2;omega
 have cs0:¬p.1.c=0:=by omega
 have hMR:(m:Int)=p.1.r:=by rw[hmm,l2,hc1,hr];omega
 have hNC:n=m*c:=by have h:(n:Int)=(m:Int)*(c:Int):=(by rw[<-hN,hMR,hCC]);exact_mod_cast h
 have hm25:m<=25:=by rw[hmm];omega
 have hMP:c_ p yq s=((⟨p.1.r,p.1.c,fl (sc1 p yq s) n⟩,⟨p.1.r,p.1.c,fl (sc2 p yq s) n⟩),scS s n):=by rw[hnn];rfl
 rw[<-hlen.1,<-hnn] at hX ⊢;rw[<-hlem.1,<-hmm] at hY ⊢;have hq1:(yq.1.c != 1)=false:=by simp[hc1]
 have hq2:(yq.1.r != p.1.r)=false:=by simp[hr]
 clear q1 q2 q3 q4 q5 q6 r1 r2 r3 r4 r5 r6 hlen hlem l1 l2 s1 s2 hnn hmm hcc hc1 hr hMR;have HOP:=Qh hop;have HOQ:=Qh hoq;have HS:=Qh hs;have HX:=Qh hX;have HY:=Qh hY;have HX1:=Qh hX1;have HX2:=Qh hX2;have HY1:=Qh hY1;have HY2:=Qh hY2;have HN:=Qh hN;have HNC:=Qh hNC;have HCC:=Qh hCC;have HMP:=Qh hMP;clear hop hoq hs hX hY hX1 hX2 hY1 hY2 hN hNC hCC hMP;refine zE ?_;intro u1 H;refine zB (gC HOP.out u1 (RS.below HX.out H.O)) ?_;clear H;intro w2 u2 H;refine zB (gC HOQ.out u2 (RS.below HY.out H.O)) ?_;clear H;intro w3 u3 H;refine zP (aU (dH HS.out) u3) ?_;clear H;intro u4 H;refine zG (jr HN.out hn1 hn2 u4) ?_;rintro e w5 ⟨gP,gQ,cP,cQ,rfl,f1',f2,hne,hb⟩;replace H:=H.oo hb f1' f2;clear f1' f2 hb;replace H:=H.spl (fun i hi hi'=>hne (Option.some.inj (hi.trans hi'.symm)))
 refine zN ?_;clear H;intro u6 H;obtain⟨gM,hgM⟩:∃ g,g=w5.heap.size:=⟨_,rfl⟩;rw[<-hgM] at H ⊢;clear hgM hne;replace H:=H.nil;replace H:=(((((((H.r 4).r 5).r 6).r 4).r 4).r 6).r 6);intros
 go_loopw [2,10,56] (fun vs vo i wr=>∃ (j k0:Nat) (Ca:Option Addr) (v:List Int),j<=n/\i= .int .i64 j/\vs= .int .i64 (scS s j)/\vo= .slice Ca (2*j) k0/\Hid (Hq w [qO w.heap.size (some ⟨gP,0,none⟩) n cP (fl (sc1 p yq s) j++List.replicate (n-j) 0),qO w.heap.size (some ⟨gQ,0,none⟩) n cQ (fl (sc2 p yq s) j++List.replicate (n-j) 0),qO w.heap.size Ca (2*j) k0 v,qB gM 82 [.int .i64 p.1.r,.int .i64 p.1.c,.slice (some ⟨gP,0,none⟩) n cP,.int .i64 p.1.r,.int .i64 p.1.c,.slice (some ⟨gQ,0,none⟩) n cQ],qB w.heap.size 82 [.int .i64 p.1.r,.int .i64 p.1.c,.slice A n a,.int .i64 p.2.r,.int .i64 p.2.c,.slice B n b],qB (w.heap.size+1) 82 [.int .i64 yq.1.r,.int .i64 yq.1.c,.slice E m e1,.int .i64 yq.2.r,.int .i64 yq.2.c,.slice F m f1],qB (w.heap.size+2) 82 [.int .i64 0,.int .i64 0,.slice none 0 0,.int .i64 0,.int .i64 0,.slice none 0 0]] wr)) (fun _ _ i _=>n-(intOf i).toNat)
 case atStart=>exact⟨0,0,none,_,Nat.zero_le _,rfl,rfl,rfl,(by rw[Nat.sub_zero];exact H)⟩
 case round =>
 clear H;obtain⟨j,k0,Ca,v,hj,rfl,rfl,rfl,H⟩:=hrel;have H:=H.out
 by_cases hlt:j<n
 ·obtain⟨σ,hσ⟩:∃ x,x=scS s j:=⟨_,rfl⟩;obtain⟨d,hd⟩:∃ x,x=j/c:=⟨_,rfl⟩;have hdm:d<m:=by rw[hd];exact Nat.div_lt_of_lt_mul (by rw[Nat.mul_comm,<-HNC.out];exact hlt)
  have hdq:(j:Int)/p.1.c=(d:Int):=by rw[hd,HCC.out];exact(Int.natCast_ediv j c).symm
  have hdq2:Int.tdiv (j:Int) p.1.c=(d:Int):=by rw[Int.tdiv_eq_ediv_of_nonneg (by omega)];exact hdq
  have hwd:=IntWalk.i64_in (d:Int) (by omega)
  obtain⟨a1,ha1⟩:∃ x,x=p.1.v.getD j 0:=⟨_,rfl⟩;obtain⟨a2,ha2⟩:∃ x,x=p.2.v.getD j 0:=⟨_,rfl⟩;obtain⟨b1,hb1⟩:∃ x,x=yq.1.v.getD d 0:=⟨_,rfl⟩;obtain⟨b2,hb2⟩:∃ x,x=yq.2.v.getD d 0:=⟨_,rfl⟩;have hsv:sv a1 a2=true:=by rw[ha1,ha2];exact fX (dE (ai HOP.out).1 j) (dE (ai HOP.out).2.1 j)
  have htv:sv b1 b2=true:=by rw[hb1,hb2];exact fX (dE (ai HOQ.out).1 d) (dE (ai HOQ.out).2.1 d)
  have hso:sdB σ=true:=by rw[hσ];exact qH HS.out j
  have hnx:scS s (j+1)=sds σ 5:=by rw[hσ];rfl
  have hct:p.1.c.toNat=c:=by rw[HCC.out];rfl
  obtain⟨d1,hd1⟩:∃ x,x=mP1 (rn σ 4) (rn σ 2) (rn σ 0) (mD a1 a2 (rn σ 0) (rn σ 1)) (mD b1 b2 (rn σ 2) (rn σ 3)):=⟨_,rfl⟩;obtain⟨d2,hd2⟩:∃ x,x=mP2 ((tC σ-rn σ 4)%4096) (rn σ 3) (rn σ 1) (mD a1 a2 (rn σ 0) (rn σ 1)) (mD b1 b2 (rn σ 2) (rn σ 3)):=⟨_,rfl⟩;have HS1:Hid ((fl (sc1 p yq s) j++List.replicate (n-j) 0).set j d1=(fl (sc1 p yq s) (j+1)++List.replicate (n-(j+1)) 0)):=by have h:=jF (sc1 p yq s) n j hlt;rw[show sc1 p yq s j=d1 from by rw[hd1];unfold sc1 scD scE;rw[hct,<-hd,<-hσ,ha1,ha2,hb1,hb2]] at h;exact h
  have HS2:Hid ((fl (sc2 p yq s) j++List.replicate (n-j) 0).set j d2=(fl (sc2 p yq s) (j+1)++List.replicate (n-(j+1)) 0)):=by have h:=jF (sc2 p yq s) n j hlt;rw[show sc2 p yq s j=d2 from by rw[hd2];unfold sc2 scD scE;rw[hct,<-hd,<-hσ,ha1,ha2,hb1,hb2]] at h;exact h
  rw[<-hσ];have HSV:=Qh hsv;have HTV:=Qh htv;have HSO:=Qh hso;have HNX:=Qh hnx;have HA1:=Qh ha1;have HA2:=Qh ha2;have HB1:=Qh hb1;have HB2:=Qh hb2;have HD1:=Qh hd1;have HD2:=Qh hd2;clear hsv htv hso hnx ha1 ha2 hb1 hb2 hd1 hd2 hσ hct hd;refine zN ?_;clear H;intro u21 H;refine zB (qd (dH HSO.out) u21) ?_;clear H;intro w22 u22 H;have E:=H.el;refine zXF (tgF [wr.heap.size,w.heap.size,(w.heap.size+1)] 16 13 (.cells #[.int .i64 0,.int .i64 0] 213)) ?_;clear H;intro S w23 hne H;refine zD ((And.intro (H.c 0) (And.intro (H.c 5) (H.c 6)))) ?_;intro G;intros;refine f_ (fun w24 (hb:Bw w23 w24)=>jI (p:=a) (q:=b) hlt w24 (SI.below HX1.out (H.b hb).O) (SI.below HX2.out (H.b hb).O)) ?_;clear H
  rintro w24 K hK H e w25 ⟨rfl,hb⟩;replace H:=H.b hb;rw[<-HA1.out,<-HA2.out];refine fK ?_;clear hK K hb;intros;refine f_ (fun w26 (hb:Bw w25 w26)=>jI (p:=e1) (q:=f1) hdm w26 (SI.below HY1.out (H.b hb).O) (SI.below HY2.out (H.b hb).O)) ?_;clear H
  rintro w26 K hK H e w27 ⟨rfl,hb⟩;replace H:=H.b hb;rw[<-HB1.out,<-HB2.out];refine fK ?_;clear hK K hb;intros;refine f_ (fun w28 (hb:Bw w27 w28)=>ru HSV.out HTV.out (fX (dB σ 0) (dB σ 1)) (fX (dB σ 2) (dB σ 3)) (fX (dB σ 4) (by omega)) (kX σ) w28) ?_;clear H
  rintro w28 K hK H e w29 ⟨D,cd,rfl,hos,hb⟩;replace H:=H.os hb hos;rw[<-HD1.out,<-HD2.out];refine fK ?_;clear hK K hb;refine yG ?_;clear H;intro w30 g30 hg30 H;refine yS ?_;clear H;intro w31 H;refine yN ?_;clear H G;intro u32 H;replace H:=(((((((((H.d 0).d 1).r 7).r 7).r 7).r 7).r 7).r 7).r 7);refine zG (vW H hlt) ?_;rintro e wp ⟨rfl,hq⟩;replace H:=hq;clear hq;refine zC ?_;intro C;intros
  go_wp2_with (at_builtin;refine zM ?_)
  clear H C;intro u33 H;replace H:=H.r 2;refine zA (OS.si (H.o 7)) True.intro ?_;clear H;intro C1 k1 w33 H;rw[HS1.out,HS2.out,show 2*j+2=2*(j+1) from by omega] at H
  rw[show 2*j+2=2*(j+1) from by omega]
  replace H:=((((((((H.d 7).r 6).r 6).r 6).r 6).r 4).r 6).r 6);refine zC ?_;intro C;intros;go_wp2
  go_roundw
  case rel=>exact⟨j+1,k1,C1,_,by omega,by go_num,by rw[HNX.out],rfl,H⟩
  case measure=>simp[intOf];omega
 ·obtain rfl:j=n:=by omega
  rw[Nat.sub_self,List.replicate_zero,List.append_nil,List.append_nil] at H;refine zS_ ?_;clear H;intro u61 H
  exact(by rw[HMP.out];exact⟨_,cP,_,cQ,Ca,_,k0,v,by dsimp only;rw[aD,aD];rfl,by dsimp only;rw[aD];exact(H.o 0),by dsimp only;rw[aD];exact(H.o 1),(H.o 2),by omega,H.O⟩)
end
section
attribute [local go_sem] af ah ae
theorem nI {g:Nat} {s s':Int} {C D:Option Addr} {n k m d:Nat} {v y:List Int} {r c r' c':Int} {A B:Option Addr} {n1 p1 n2 p2:Nat} (w:World) (HB:Blk w g 199 #[.int .i64 s,.slice C n k]) (HO:OS w 0 C n k v) (hD:SI w D m y) (hm:0<m) (hn:n+m<=1000000) :
  Calls prog 170 #[.pointer (some ⟨g,0,none⟩),SMV r c A n1 p1 r' c' B n2 p2,.slice D m d,.int .i64 s'] w fun e w'=>e= .returned (SMV r c A n1 p1 r' c' B n2 p2)/\∃ C' k',Hq (fI w) [qB g 199 [.int .i64 s',.slice C' (n+m) k'],qO (fI w).heap.size C' (n+m) k' (v++y),qW w g C] w':=by
 have HD:=Qh hD;have HZ:=Qh (Hq.st0 HB HO);clear hD
 go_in;have H:=Hq.start w
 have cst:=HB.cell 1;have zg:=HB.lt;refine zC ?_;intro C0;intros
 go_wp2_with (at_builtin;refine zM ?_)
 clear H C0 cst zg;intro u2 H;have hd:=SI.below HD.out H.O;replace H:=HZ.out.join H (by repeat constructor)
 clear HZ HD HB HO;replace H:=H.r 3;refine zA hd True.intro ?_;clear H;intro C1 k1 w3 H;refine zS_ ?_;clear H;intro u2 H
 exact⟨rfl,C1,k1,(((((H.d 1).d 1).r 2).r 1).r 2)⟩
theorem nD {kd:Int} (hK:1<=kd/\kd<=5) {p:Mx×Mx} (hok:okS p=true) {s:Int} {g:Nat} {C:Option Addr} {n k:Nat} {v:List Int} (hsd:sdB s=true) (w:World) (HB:Blk w g 199 #[.int .i64 s,.slice C n k]) (HO:OS w 0 C n k v) (hnN:n+25<=1000000) {x:Value} (hx:RS w x p) :
  Calls prog 172 #[.pointer (some ⟨g,0,none⟩),.int .i64 kd,x] w (jC (dv (fnv kd) p s).1 (dv (fnv kd) p s).2 25 g C n w):=by
 obtain⟨XA,XB,xa,xb,rfl,q1,q2,q3,q4,q5,q6⟩:=hx;have hX:=RS.mk q1 q2 q3 q4 q5 q6;clear q1 q2 q3 q4 q5 q6;obtain⟨P,hP⟩:∃ P,P=dv (fnv kd) p s:=⟨_,rfl⟩;have HZ:=Qh (Hq.st0 HB HO);have HP:=Qh hP;have HX:=Qh hX;have HK:=Qh hK;have HOK:=Qh hok;have HSD:=Qh hsd;clear hP hX hK hok hsd;have zg:=HB.lt;refine zE ?_;intro u1 H;intros;refine H.BM [w.heap.size] (fun t=>t == 3) true ?_;clear H;intro S w2 hne H
 refine zD (H.c 1) ?_;intro G;have hx:=RS.below HX.out H.O;replace H:=Hr.join HZ.out H (by repeat constructor)
 have cg:w2.cell? ⟨g,0,none⟩=some (.int .i64 s):=(H.k 2).cell 0;refine yL ?_;refine yL ?_;intros;refine y_ ((show Calls prog 214 #[_,_,_] w2 (bo P.1 P.2 25 w2) from by rw[HP.out];exact oK HK.out HOK.out HSD.out w2 hx)) ?_
 rintro K hK e w3 ⟨A,c,B,d,D,m,e',y',rfl,h1,h2,h3,hmN,hb⟩;replace H:=H.so hb h1 h2 h3;clear cg hx h1 h2 h3;refine yK ?_;clear hK K;replace H:=((H.r 4).r 4);intros;refine y_ (nI w3 (H.k 0) ((H.o 1).mono (Nat.zero_le _)) (OS.si (Ow.P2 (H.p 2))) (by omega) (by omega)) ?_
 rintro K hK e w4 ⟨rfl,C1,k1,hq⟩;replace H:=H.stp hq (all_cons H.H.nst (all_nil));refine yK ?_;clear hK K hq;replace H:=(H.r 2).pP;refine yZ ?_;clear H G;intro w5 u5 H;refine zS_ ?_;clear H;intro u6 H
 exact(by rw[<-HP.out];exact⟨A,c,B,d,C1,n+m,k1,_,rfl,by omega,((((((H.d 3).d 3).r 3).r 1).r 3).r 3)⟩)
theorem dO {x y:Mx×Mx} (hox:okS x=true) (hoy:okS y=true) (hxy:x.1.c=y.1.r) {s:Int} {g:Nat} {C:Option Addr} {n k:Nat} {v:List Int} (hsd:sdB s=true) (w:World) (HB:Blk w g 199 #[.int .i64 s,.slice C n k]) (HO:OS w 0 C n k v) (hnN:n+75<=1000000) {u z:Value} (hx:RS w u x) (hy:RS w z y) :
  Calls prog 210 #[.pointer (some ⟨g,0,none⟩),u,z] w (jC (dv (fnv 1) (dG x y s).1 (dG x y s).2).1 (dv (fnv 1) (dG x y s).1 (dG x y s).2).2 75 g C n w):=by
 obtain⟨XA,XB,xa,xb,rfl,q1,q2,q3,q4,q5,q6⟩:=hx;have hX:=RS.mk q1 q2 q3 q4 q5 q6;clear q1 q2 q3 q4 q5 q6;obtain⟨YA,YB,ya,yb,rfl,q1,q2,q3,q4,q5,q6⟩:=hy;have hY:=RS.mk q1 q2 q3 q4 q5 q6;clear q1 q2 q3 q4 q5 q6;obtain⟨hop,_,_,hsp⟩:=kI hox hoy hxy hsd;obtain⟨P,hP⟩:∃ P,P=dG x y s:=⟨_,rfl⟩;rw[<-hP] at hop hsp;obtain⟨Q,hQ⟩:∃ Q,Q=dv (fnv 1) P.1 P.2:=⟨_,rfl⟩;have hQQ:Q=dv (fnv 1) (dG x y s).1 (dG x y s).2:=by rw[hQ,hP]
 have HZ:=Qh (Hq.st0 HB HO);have HP:=Qh hP;have HQ:=Qh hQ;have HQQ:=Qh hQQ;have HOP:=Qh hop;have HSP:=Qh hsp;have HX:=Qh hX;have HY:=Qh hY;have HOX:=Qh hox;have HOY:=Qh hoy;have HSD:=Qh hsd;have HXY:=Qh hxy;clear hP hQ hQQ hop hsp hX hY hox hoy hsd hxy;have zg:=HB.lt;refine zE ?_;intro u1 H;have E:=H.el;have mwu:=H.O.size;intros;refine H.lFG [w.heap.size,w.heap.size+1] (fun t=>t == 3) false (tgF [w.heap.size,w.heap.size+1] 12 7 (.cells #[.int .i64 0,.int .i64 0,.slice none 0 0,.int .i64 0,.int .i64 0,.slice none 0 0] 82)) ?_;clear H;intro S w2 hne H
 refine zD (And.intro (H.c 2) (H.c 1)) ?_;intro G;have hx:=RS.below HX.out H.O;have hy:=RS.below HY.out H.O;replace H:=Hr.join HZ.out H (by repeat constructor)
 intros
 repeat (first|(refine lE ?_;intro K hK;go_big_quiet_op;go_big_quiet_on)|refine lG ?_)
 refine oU fun w3 hb K hK=>?_
 replace H:=H.b hb;have hx:=RS.below hx hb;have hy:=RS.below hy hb;unfold Oper.gives
 go_simp
 refine E4 H Qb hK ?_;clear hK K hb;intros
 repeat (first|(refine lE ?_;intro K hK;go_big_quiet_op;go_big_quiet_on)|refine lG ?_)
 refine oU fun w4 hb K hK=>?_
 replace H:=H.b hb;have hx:=RS.below hx hb;have hy:=RS.below hy hb;have cg:w4.cell? ⟨g,0,none⟩=some (.int .i64 s):=(H.k 3).cell 0;unfold Oper.gives
 go_simp
 refine E4 H Qb hK ?_;clear hK K hb cg;intros;refine f_ (fun w5 (hb:Bw w4 w5)=>(show Calls prog 247 #[_,_,_] w5 (bo P.1 P.2 50 w5) from by rw[HP.out];exact ka HOX.out HOY.out HXY.out HSD.out w5 (RS.below hx hb) (RS.below hy hb))) ?_;clear H hx hy
 rintro w5 K hK H e w6 ⟨A,c,B,d,D,m,e',y',rfl,h1,h2,h3,hmN,hb⟩;replace H:=H.so hb h1 h2 h3;refine fK ?_;clear hK K hb h1 h2 h3;replace H:=((H.r 5).r 5);intros;refine fU (fun w7 (hb:Bw w6 w7)=>nI w7 ((H.b hb).k 0) (((H.b hb).o 1).mono (Nat.zero_le _)) (OS.si (Ow.P2 ((H.b hb).p 2))) (by omega) (by omega)) ?_;clear H
 rintro w7 K hK H e w8 ⟨rfl,C1,k1,hq⟩;have hb:=hq.kb (B:=u1.heap.size) (t':=82) (ds:=#[.int .i64 0,.int .i64 0,.slice none 0 0,.int .i64 0,.int .i64 0,.slice none 0 0]) (H.k 0) (H.o 1);replace H:=H.stp hq (all_cons H.H.nst (all_cons H.H.nst all_nil));refine fKU ?_;clear hK K hb hq;replace H:=(H.r 2).pP;replace H:=(((((((H.r 5).r 5).r 5).r 6).r 5).r 5).r 6);have E:=Elq.c (d:=qB g 199 [.int .i64 P.2,.slice C1 (n+m) k1]) (fun i (hi:i=g)=>by omega) (Elq.c (d:=qW w g C) (fun i hi=>Nat.lt_of_lt_of_le hi.1 mwu) (E.nil w))
 refine yG ?_;clear H;intro w9 gZ hgZ H;refine yS ?_;clear H;intro w10 H;refine yN ?_;clear H G E;intro u40 H;replace H:=H;replace H:=(((H.r 2).r 2).r 3);refine zG ((show Calls prog 172 #[_,_,_] u40 (jC Q.1 Q.2 25 g C1 (n+m) u40) from by rw[HQ.out];exact nD (by omega) HOP.out HSP.out u40 (H.k 0) ((H.o 1).mono (Nat.zero_le _)) (by omega) (H.rs 2))) ?_
 rintro e w41 ⟨A2,c2,B2,d2,C2,n2,k2,v2,rfl,hn2,hq⟩;replace H:=H.stp hq;clear hq;refine zS_ ?_;clear H;intro u11 H
 exact(by rw[<-HQQ.out];exact⟨A2,c2,B2,d2,C2,n2,k2,v2,rfl,by omega,(((((((((H.d 3).d 3).d 4).d 4).d 4).r 3).r 3).r 3).r 3)⟩)
theorem sX {x y:Mx×Mx} (hox:okS x=true) (hoy:okS y=true) (hr:y.1.r=x.1.r) (hc1:y.1.c=1) {s:Int} {g:Nat} {C:Option Addr} {n k:Nat} {v:List Int} (hsd:sdB s=true) (w:World) (HB:Blk w g 199 #[.int .i64 s,.slice C n k]) (HO:OS w 0 C n k v) (hnN:n+75<=1000000) {u z:Value} (hx:RS w u x) (hy:RS w z y) :
  Calls prog 218 #[.pointer (some ⟨g,0,none⟩),u,z] w (jC (dv (fnv 1) (c_ x y s).1 (c_ x y s).2).1 (dv (fnv 1) (c_ x y s).1 (c_ x y s).2).2 75 g C n w):=by
 obtain⟨XA,XB,xa,xb,rfl,q1,q2,q3,q4,q5,q6⟩:=hx;have hX:=RS.mk q1 q2 q3 q4 q5 q6;clear q1 q2 q3 q4 q5 q6;obtain⟨YA,YB,ya,yb,rfl,q1,q2,q3,q4,q5,q6⟩:=hy;have hY:=RS.mk q1 q2 q3 q4 q5 q6;clear q1 q2 q3 q4 q5 q6;obtain⟨hop,_,_,hsp⟩:=pK (q:=y) hox hsd;obtain⟨P,hP⟩:∃ P,P=c_ x y s:=⟨_,rfl⟩;rw[<-hP] at hop hsp;obtain⟨Q,hQ⟩:∃ Q,Q=dv (fnv 1) P.1 P.2:=⟨_,rfl⟩;have hQQ:Q=dv (fnv 1) (c_ x y s).1 (c_ x y s).2:=by rw[hQ,hP]
 have HZ:=Qh (Hq.st0 HB HO);have HP:=Qh hP;have HQ:=Qh hQ;have HQQ:=Qh hQQ;have HOP:=Qh hop;have HSP:=Qh hsp;have HX:=Qh hX;have HY:=Qh hY;have HOX:=Qh hox;have HOY:=Qh hoy;have HSD:=Qh hsd;have HR:=Qh hr;have HC1:=Qh hc1;clear hP hQ hQQ hop hsp hX hY hox hoy hsd hr hc1;have zg:=HB.lt;refine zE ?_;intro u1 H;have E:=H.el;have mwu:=H.O.size;intros;refine H.lFG [w.heap.size,w.heap.size+1] (fun t=>t == 3) false (tgF [w.heap.size,w.heap.size+1] 12 7 (.cells #[.int .i64 0,.int .i64 0,.slice none 0 0,.int .i64 0,.int .i64 0,.slice none 0 0] 82)) ?_;clear H;intro S w2 hne H
 refine zD (And.intro (H.c 2) (H.c 1)) ?_;intro G;have hx:=RS.below HX.out H.O;have hy:=RS.below HY.out H.O;replace H:=Hr.join HZ.out H (by repeat constructor)
 intros
 repeat (first|(refine lE ?_;intro K hK;go_big_quiet_op;go_big_quiet_on)|refine lG ?_)
 refine oU fun w3 hb K hK=>?_
 replace H:=H.b hb;have hx:=RS.below hx hb;have hy:=RS.below hy hb;unfold Oper.gives
 go_simp
 refine E4 H Qb hK ?_;clear hK K hb;intros
 repeat (first|(refine lE ?_;intro K hK;go_big_quiet_op;go_big_quiet_on)|refine lG ?_)
 refine oU fun w4 hb K hK=>?_
 replace H:=H.b hb;have hx:=RS.below hx hb;have hy:=RS.below hy hb;have cg:w4.cell? ⟨g,0,none⟩=some (.int .i64 s):=(H.k 3).cell 0;unfold Oper.gives
 go_simp
 refine E4 H Qb hK ?_;clear hK K hb cg;intros;refine f_ (fun w5 (hb:Bw w4 w5)=>(show Calls prog 256 #[_,_,_] w5 (bo P.1 P.2 50 w5) from by rw[HP.out];exact my HOX.out HOY.out HR.out HC1.out HSD.out w5 (RS.below hx hb) (RS.below hy hb))) ?_;clear H hx hy
 rintro w5 K hK H e w6 ⟨A,c,B,d,D,m,e',y',rfl,h1,h2,h3,hmN,hb⟩;replace H:=H.so hb h1 h2 h3;refine fK ?_;clear hK K hb h1 h2 h3;replace H:=((H.r 5).r 5);intros;refine fU (fun w7 (hb:Bw w6 w7)=>nI w7 ((H.b hb).k 0) (((H.b hb).o 1).mono (Nat.zero_le _)) (OS.si (Ow.P2 ((H.b hb).p 2))) (by omega) (by omega)) ?_;clear H
 rintro w7 K hK H e w8 ⟨rfl,C1,k1,hq⟩;have hb:=hq.kb (B:=u1.heap.size) (t':=82) (ds:=#[.int .i64 0,.int .i64 0,.slice none 0 0,.int .i64 0,.int .i64 0,.slice none 0 0]) (H.k 0) (H.o 1);replace H:=H.stp hq (all_cons H.H.nst (all_cons H.H.nst all_nil));refine fKU ?_;clear hK K hb hq;replace H:=(H.r 2).pP;replace H:=(((((((H.r 5).r 5).r 5).r 6).r 5).r 5).r 6);have E:=Elq.c (d:=qB g 199 [.int .i64 P.2,.slice C1 (n+m) k1]) (fun i (hi:i=g)=>by omega) (Elq.c (d:=qW w g C) (fun i hi=>Nat.lt_of_lt_of_le hi.1 mwu) (E.nil w))
 refine yG ?_;clear H;intro w9 gZ hgZ H;refine yS ?_;clear H;intro w10 H;refine yN ?_;clear H G E;intro u40 H;replace H:=H;replace H:=(((H.r 2).r 2).r 3);refine zG ((show Calls prog 172 #[_,_,_] u40 (jC Q.1 Q.2 25 g C1 (n+m) u40) from by rw[HQ.out];exact nD (by omega) HOP.out HSP.out u40 (H.k 0) ((H.o 1).mono (Nat.zero_le _)) (by omega) (H.rs 2))) ?_
 rintro e w41 ⟨A2,c2,B2,d2,C2,n2,k2,v2,rfl,hn2,hq⟩;replace H:=H.stp hq;clear hq;refine zS_ ?_;clear H;intro u11 H
 exact(by rw[<-HQQ.out];exact⟨A2,c2,B2,d2,C2,n2,k2,v2,rfl,by omega,(((((((((H.d 3).d 3).d 4).d 4).d 4).r 3).r 3).r 3).r 3)⟩)
end
section
attribute [local go_sem] af ah ae
theorem mO {p q:Mx×Mx} (f:FuncId) (caps:Array Value) (av:Value->Array Value) (has:∀ v,av v=#[v]++caps) {x:Value} (w:World) (hx:RS w x p) (hrun:∀ (W:World) (args:Array Value),(callFunc f args).run prog W= .ok (.enter f args) W)
  (h1:∀ W v,Below w.heap.size w W->RM W v p.1->Calls prog f (av v) W (bD q.1 W)) (h2:∀ W v,Below w.heap.size w W->RM W v p.2->Calls prog f (av v) W (bD q.2 W)) :
  Calls prog 82 #[x,.func (.func f) #[] caps] w (jW q w):=Ak w hx hrun ⟨fun W v a b=>has v ▸ h1 W v a b,fun W v a b=>has v ▸ h2 W v a b⟩
theorem ua {m:Mx} (h:mvB m=true) {cs:Nat} (hcs:1<=cs/\cs<=5) {gX:Nat} {x0:Int} {x2 x3 x4 x5:Value} (w:World) {v:Value} (hv:RM w v m) (B0:Blk w gX 82 #[.int .i64 x0,.int .i64 (cs:Int),x2,x3,x4,x5]) :
  Calls prog 211 #[v,.pointer (some ⟨gX,0,none⟩)] w (bD (jA m (cs:Int)) w):=by
 obtain⟨A,c,rfl,h1,h2,h3⟩:=hv;have HX:=Qh (RM.mk h1 h2 h3);have HM:=Qh h;clear h h1 h2 h3;have zg:=B0.lt;have cst:=B0.cell 1;refine zE ?_;intro u1 H;refine zG (lp HM.out hcs u1 (RM.below HX.out H.O)) ?_;rintro e w2 ⟨P,cP,rfl,hos,hb⟩;replace H:=H.os hb hos
 dsimp only at H ⊢
 refine zS_ ?_;clear H;intro u3 H
 exact⟨P,cP,rfl,(H.o 0),H.O⟩
theorem mA {pw pb px:Mx×Mx} {s:Int} (how:okS pw=true) (hob:okS pb=true) (hox:okS px=true) (hwx:pw.1.c=px.1.r) (hbr:pb.1.r=pw.1.r) (hbc:pb.1.c=1) (hs:sdB s=true) {u v z:Value} (w:World) (hw:RS w u pw) (hb:RS w v pb) (hx:RS w z px) :
  Calls prog 171 #[u,v,z,.int .i64 s] w (bo (ec pw pb px s).1 (ec pw pb px s).2 75 w):=by
 obtain⟨WA,WB,wa,wb,rfl,q1,q2,q3,q4,q5,q6⟩:=hw;have hW:=RS.mk q1 q2 q3 q4 q5 q6;have hW1:=q1;clear q1 q2 q3 q4 q5 q6;obtain⟨BA,BB,ba,bb,rfl,q1,q2,q3,q4,q5,q6⟩:=hb;have hB:=RS.mk q1 q2 q3 q4 q5 q6;have hB1:=q1;clear q1 q2 q3 q4 q5 q6;obtain⟨XA,XB,xa,xb,rfl,q1,q2,q3,q4,q5,q6⟩:=hx;have hX:=RS.mk q1 q2 q3 q4 q5 q6;clear q1 q2 q3 q4 q5 q6;have l1:=(fs how).1;have l2:=(fs hob).1;obtain⟨hP1,hP2,hP3,hP4⟩:=gV how hox hwx hs;obtain⟨cs,hcs'⟩:∃ cs:Nat,cs=px.1.c.toNat:=⟨_,rfl⟩;obtain⟨_,sc⟩:=aA (ai hox).1;have hCS:px.1.c=(cs:Int):=by rw[hcs'];exact(et sc).symm
 have hcs:1<=cs/\cs<=5:=by have:=bI sc;omega
 have hsc:side (cs:Int)=true:=by rw[<-hCS];exact sc
 have hwi:=oF hob hsc;have hdf:dfB ⟨pw.1.r,pw.1.c,pw.1.v⟩ ⟨pb.1.r,pb.1.c,pb.1.v⟩=true:=by
  show dfB pw.1 pb.1=true
  unfold dfB;rw[(ai how).1,(ai hob).1,hbc,hbr]
  simp
 obtain⟨P,hP⟩:∃ P,P=eI pw px s:=⟨_,rfl⟩;rw[<-hP] at hP1 hP2 hP3 hP4;have hPD:ec pw pb px s=(jX P.1 (iu pb (cs:Int)),P.2):=by unfold ec;rw[<-hP,hCS]
 have hOB1:=(ai hob).1;have hOB2:=(ai hob).2.1;have hL1:az P.1.1 P.1.2=true:=hP1;have hL2:az (iu pb (cs:Int)).1 (iu pb (cs:Int)).2=true:=hwi;have hL3:az P.1.1 (iu pb (cs:Int)).1=true:=aY (ai hP1).1 (ai hwi).1 (hP2.trans hbr.symm) (hP3.trans hCS);have hne:(pw.1.c != px.1.r)=false:=by simp[hwx]
 rw[hCS];clear hcs' sc hsc hwi hbr hbc hP1 hP2 hP3 hP4;have HOW:=Qh how;have HOB:=Qh hob;have HOX:=Qh hox;have HWX:=Qh hwx;have HS:=Qh hs;have HW:=Qh hW;have HB:=Qh hB;have HX:=Qh hX;have HW1:=Qh hW1;have HB1:=Qh hB1;have HCS:=Qh hCS;have HDF:=Qh hdf;have HP:=Qh hP;have HPD:=Qh hPD;have HOB1:=Qh hOB1;have HOB2:=Qh hOB2;have HL1:=Qh hL1;have HL2:=Qh hL2;have HL3:=Qh hL3;clear how hob hox hwx hs hW hB hX hW1 hB1 hCS hdf hP hPD hOB1 hOB2 hL1 hL2 hL3;refine zE ?_;intro u1 H;refine zB (gC HOW.out u1 (RS.below HW.out H.O)) ?_;clear H;intro w2 u2 H;refine zB (gC HOB.out u2 (RS.below HB.out H.O)) ?_;clear H;intro w3 u3 H;refine zB (gC HOX.out u3 (Eq.mp (congrArg (fun c=>RS _ (SMV px.1.r c XA px.1.v.length xa px.2.r px.2.c XB px.2.v.length xb) px) HCS.out) (RS.below HX.out H.O))) ?_;clear H;intro w4 u4 H
 refine zP (aU (dH HS.out) u4) ?_;clear H;intro u5 H;refine zB ((show Calls prog 147 #[_,_] u5 (fun e w'=>e= .returned (.bool true)/\Below u5.heap.size u5 w') from HDF.out ▸ DK _ _ _ _ _ _ WA BA _ wa _ ba u5 (SI.below HW1.out H.O) (SI.below HB1.out H.O) (by omega) (by omega))) ?_;clear H;intro w6 u6 H
 replace H:=H.nil;replace H:=(H.r 1);refine zG ((show Calls prog 210 #[_,_,_] u6 (jC P.1 P.2 75 (w6.heap.size) none 0 u6) from by rw[HP.out];exact dO HOW.out HOX.out HWX.out HS.out u6 (H.k 0) ((H.o 1).mono (Nat.zero_le _)) (by omega) (RS.below HW.out H.O) (Eq.mp (congrArg (fun c=>RS _ (SMV px.1.r c XA px.1.v.length xa px.2.r px.2.c XB px.2.v.length xb) px) HCS.out) (RS.below HX.out H.O)))) ?_
 rintro e w7 ⟨A1,c1,D1,d1,C1,n1,k1,v1,rfl,hn1,hq⟩;replace H:=H.stp hq;clear hq;refine zN ?_;clear H;intro u8 H;have HB3:=Qh (H.k 5);refine zG (mO (q:=iu pb (cs:Int)) 211 #[.pointer (some ⟨w.heap.size+2,0,none⟩)] (fun v=>#[v,.pointer (some ⟨w.heap.size+2,0,none⟩)]) (fun _=>rfl) u8 (RS.below HB.out H.O) (fun _ _=>by kernel_rfl) (fun W v hW hv=>ua HOB1.out hcs W hv (HB3.out.aa hW)) (fun W v hW hv=>ua HOB2.out hcs W hv (HB3.out.aa hW))) ?_
 rintro e w9 ⟨Q1,Q2,e1,e2,rfl,f1,f2,hb⟩;replace H:=H.ss hb f1 f2;clear HB3;refine zN ?_;clear H;intro u10 H;refine zX (tg [w9.heap.size,w7.heap.size,w6.heap.size]) ?_;clear H;intro S w11 hne H;refine zD ((And.intro (H.c 0) (And.intro (H.c 2) (H.c 3)))) ?_;intro G;refine yW (iv HL1.out HL2.out HL3.out A1 D1 Q1 Q2 c1 d1 e1 e2 w11 (OS.si (qS.a (H.p 5))) (OS.si (qS.b (H.p 5))) (OS.si (qS.a (H.p 1))) (OS.si (qS.b (H.p 1)))) ?_;clear H;intro w12 R1 R2 r1 r2 H;refine yS ?_;clear H;intro w13 H;refine yN ?_;clear H G;intro u14 H;refine zS_ ?_;clear H;intro u15 H
 exact(by rw[HPD.out];exact⟨R1,r1,R2,r2,C1,n1,k1,v1,rfl,qS.a (H.p 0),qS.b (H.p 0),(H.o 5),by omega,H.O⟩)
end
section
attribute [local go_sem] af ah ae
def SMc (w:World) (b o:Nat) (p:Mx×Mx) (A:Option Addr) (c:Nat) (B:Option Addr) (d:Nat):Prop:=w.cell? ⟨b,o,none⟩=some (.int .i64 p.1.r)/\w.cell? ⟨b,o+1,none⟩=some (.int .i64 p.1.c)/\w.cell? ⟨b,o+2,none⟩=some (.slice A p.1.v.length c)/\w.cell? ⟨b,o+3,none⟩=some (.int .i64 p.2.r)/\w.cell? ⟨b,o+4,none⟩=some (.int .i64 p.2.c)/\w.cell? ⟨b,o+5,none⟩=some (.slice B p.2.v.length d)
theorem SMc.below {w w':World} {b o:Nat} {p:Mx×Mx} {A B:Option Addr} {c d:Nat} (h:SMc w b o p A c B d) (hb:b<w.heap.size) (O:Below w.heap.size w w'):SMc w' b o p A c B d :=
 ⟨(O.cell (p:=⟨b,o,none⟩) hb).trans h.1,(O.cell (p:=⟨b,o+1,none⟩) hb).trans h.2.1,(O.cell (p:=⟨b,o+2,none⟩) hb).trans h.2.2.1,(O.cell (p:=⟨b,o+3,none⟩) hb).trans h.2.2.2.1,(O.cell (p:=⟨b,o+4,none⟩) hb).trans h.2.2.2.2.1,(O.cell (p:=⟨b,o+5,none⟩) hb).trans h.2.2.2.2.2⟩
theorem sm_at {w:World} {A:Option Addr} {n cap:Nat} {xs:List (Mx×Mx)} {F:List Nat} (h:RI smE w A n cap xs F) {i:Nat} {p:Mx×Mx} (hx:xs[i]?=some p) {b off:Nat} (hA:A=some ⟨b,off,none⟩):∃ A1 c1 B1 d1,SMc w b (off+i*6) p A1 c1 B1 d1/\RS w (SMV p.1.r p.1.c A1 p.1.v.length c1 p.2.r p.2.c B1 p.2.v.length d1) p:=by
 obtain⟨b',off',cs,F',hA',_,hc,_,hp⟩:=h.cells hx 6 rfl;rw[hA'] at hA;injection hA with hA;injection hA with e1 e2;subst e1 e2;obtain⟨A1,c1,B1,d1,F1,F2,rfl,h1,h2,_⟩:=hp
 exact⟨A1,c1,B1,d1,⟨hc 0 (by omega),hc 1 (by omega),hc 2 (by omega),hc 3 (by omega),hc 4 (by omega),hc 5 (by omega)⟩,A1,B1,c1,d1,rfl,h1.1,h1.2.1,h1.2.2.1,h2.1,h2.2.1,h2.2.2.1⟩
def R3 (w:World) (b o:Nat) (x y z:Mx×Mx):Prop:=∃ A1 a1 A2 a2 B1 b1 B2 b2 C1 c1 C2 c2,SMc w b o x A1 a1 A2 a2/\SMc w b (o+6) y B1 b1 B2 b2/\SMc w b (o+12) z C1 c1 C2 c2/\RS w (SMV x.1.r x.1.c A1 x.1.v.length a1 x.2.r x.2.c A2 x.2.v.length a2) x/\RS w (SMV y.1.r y.1.c B1 y.1.v.length b1 y.2.r y.2.c B2 y.2.v.length b2) y/\RS w (SMV z.1.r z.1.c C1 z.1.v.length c1 z.2.r z.2.c C2 z.2.v.length c2) z
theorem Dx {w:World} {A:Option Addr} {cap:Nat} {x y z:Mx×Mx} {F:List Nat} (h:RI smE w A 3 cap [x,y,z] F):∃ b o,A=some ⟨b,o,none⟩/\b<w.heap.size/\R3 w b o x y z:=by
 obtain⟨b,off,cs,F',hA,hb,_⟩:=h.at (i:=0) (x:=x) rfl;obtain⟨A1,a1,A2,a2,s1,t1⟩:=sm_at h (i:=0) (p:=x) rfl hA;obtain⟨B1,b1,B2,b2,s2,t2⟩:=sm_at h (i:=1) (p:=y) rfl hA;obtain⟨C1,c1,C2,c2,s3,t3⟩:=sm_at h (i:=2) (p:=z) rfl hA;rw[Nat.zero_mul,Nat.add_zero] at s1
 exact⟨b,off,hA,hb,A1,a1,A2,a2,B1,b1,B2,b2,C1,c1,C2,c2,s1,s2,s3,t1,t2,t3⟩
theorem SMc.el {w:World} {b o:Nat} {p:Mx×Mx} {A B:Option Addr} {c d:Nat} (h:SMc w b o p A c B d) (hb:b<w.heap.size):∀ w',Below w.heap.size w w'->SMc w' b o p A c B d:=fun _ O=>h.below hb O
theorem nz {p:Mx×Mx} (hop:okS p=true) {x:Value} (w:World) (hx:RS w x p):Calls prog 216 #[x] w (jW (jz p) w):=by
 obtain⟨A,B,a,b,rfl,q1,q2,q3,q4,q5,q6⟩:=hx;have hX:=RS.mk q1 q2 q3 q4 q5 q6;clear q1 q2 q3 q4 q5 q6;have h1:=(ai hop).1;have h2:=(ai hop).2.1;have HOP:=Qh hop;have HX:=Qh hX;have H1:=Qh h1;have H2:=Qh h2;clear hop hX h1 h2;refine zE ?_;intro u1 H;refine zB (gC HOP.out u1 (RS.below HX.out H.O)) ?_;clear H;intro w2 u2 H;refine zW (mO (q:=jz p) 255 #[] (fun v=>#[v]) (fun _=>rfl) u2 (RS.below HX.out H.O) (fun _ _=>by kernel_rfl) (fun W v _ hv=>iN H1.out W hv) (fun W v _ hv=>iN H2.out W hv)) ?_;clear H;intro w3 P Q c1 d1 u3 H
 refine zS_ ?_;clear H;intro u4 H
 exact⟨P,Q,c1,d1,rfl,qS.a (H.p 0),qS.b (H.p 0),H.O⟩
theorem ku {ma mb mc px:Mx×Mx} (ho0:okS ma=true) (ho1:okS mb=true) (ho2:okS mc=true) (hox:okS px=true) (ha1:ma.1.r=px.1.c) (ha2:ma.1.c=px.1.c) (hb1:mb.1.r=px.1.c) (hb2:mb.1.c=px.1.c) (hc1:mc.1.r=px.1.c) (hc2:mc.1.c=px.1.c)
  {bb off cap:Nat} {x:Value} (w:World) (hbl:bb<w.heap.size) (hR:R3 w bb off ma mb mc) (hx:RS w x px):Calls prog 215 #[.slice (some ⟨bb,off,none⟩) 3 cap,x] w fun e w'=>e= .returned (.bool true)/\Below w.heap.size w w':=by
 obtain⟨XA,XB,xa,xb,rfl,q1,q2,q3,q4,q5,q6⟩:=hx;have hX:=RS.mk q1 q2 q3 q4 q5 q6;clear q1 q2 q3 q4 q5 q6;obtain⟨EA1,ea1,EA2,ea2,EB1,eb1,EB2,eb2,EC1,ec1,EC2,ec2,he0,he1,he2,hr0,hr1,hr2⟩:=hR;have n1:(ma.1.r != ma.1.c)=false:=by simp[ha1,ha2]
 have n2:(ma.1.c != px.1.c)=false:=by simp[ha2]
 have n3:(mb.1.r != mb.1.c)=false:=by simp[hb1,hb2]
 have n4:(mb.1.c != px.1.c)=false:=by simp[hb2]
 have n5:(mc.1.r != mc.1.c)=false:=by simp[hc1,hc2]
 have n6:(mc.1.c != px.1.c)=false:=by simp[hc2]
 clear ha1 ha2 hb1 hb2 hc1 hc2;have HO0:=Qh ho0;have HO1:=Qh ho1;have HO2:=Qh ho2;have HOX:=Qh hox;have HX:=Qh hX;have HE0:=Qh he0;have HE1:=Qh he1;have HE2:=Qh he2;have HR0:=Qh hr0;have HR1:=Qh hr1;have HR2:=Qh hr2;clear ho0 ho1 ho2 hox hX he0 he1 he2 hr0 hr1 hr2;refine zE ?_;intro u1 H;refine zB (gC HOX.out u1 (RS.below HX.out H.O)) ?_;clear H;intro w2 u2 H;refine zC ?_;intro C;intros;go_wp2;refine wp_loop_rounds 4 ?_;rw[rounds_succ];clear C;obtain⟨r0,r1,r2,r3,r4,r5⟩:=SMc.below HE0.out hbl H.O;have zbb:=Nat.lt_of_lt_of_le hbl H.m;refine zN ?_;clear H;intro u3 H;clear r0 r1 r2 r3 r4 r5 zbb;refine zG (gC HO0.out u3 (RS.below HR0.out H.O)) ?_;rintro e w4 ⟨rfl,hb⟩;replace H:=H.b hb;clear hb;refine zC ?_;intro C;intros
 go_wp2_with fail
 rw[rounds_succ];refine zM ?_;clear H C;intro u5 H;obtain⟨r0,r1,r2,r3,r4,r5⟩:=SMc.below HE1.out hbl H.O;have zbb:=Nat.lt_of_lt_of_le hbl H.m;refine zN ?_;clear H;intro u6 H;clear r0 r1 r2 r3 r4 r5 zbb;refine zG (gC HO1.out u6 (RS.below HR1.out H.O)) ?_;rintro e w7 ⟨rfl,hb⟩;replace H:=H.b hb;clear hb;refine zC ?_;intro C;intros
 go_wp2_with fail
 rw[rounds_succ];refine zM ?_;clear H C;intro u8 H;obtain⟨r0,r1,r2,r3,r4,r5⟩:=SMc.below HE2.out hbl H.O;have zbb:=Nat.lt_of_lt_of_le hbl H.m;refine zN ?_;clear H;intro u9 H;clear r0 r1 r2 r3 r4 r5 zbb;refine zG (gC HO2.out u9 (RS.below HR2.out H.O)) ?_;rintro e w10 ⟨rfl,hb⟩;replace H:=H.b hb;clear hb;refine zC ?_;intro C;intros
 go_wp2_with fail
 rw[rounds_succ];refine zM ?_;clear H C;intro u11 H;refine zR ?_;clear H;intro u12 H
 exact⟨rfl,H.O⟩
end
section
attribute [local go_sem] af ah ae
theorem R3.below {w w':World} {b o:Nat} {x y z:Mx×Mx} (h:R3 w b o x y z) (hb:b<w.heap.size) (O:Below w.heap.size w w'):R3 w' b o x y z:=by
 obtain⟨A1,a1,A2,a2,B1,b1,B2,b2,C1,c1,C2,c2,s1,s2,s3,t1,t2,t3⟩:=h
 exact⟨A1,a1,A2,a2,B1,b1,B2,b2,C1,c1,C2,c2,s1.below hb O,s2.below hb O,s3.below hb O,t1.below O,t2.below O,t3.below O⟩
theorem oN {ma mb mc px:Mx×Mx} {s:Int} (ho0:okS ma=true) (ho1:okS mb=true) (ho2:okS mc=true) (hox:okS px=true) (ha1:ma.1.r=px.1.c) (ha2:ma.1.c=px.1.c) (hb1:mb.1.r=px.1.c) (hb2:mb.1.c=px.1.c) (hc1:mc.1.r=px.1.c) (hc2:mc.1.c=px.1.c) (hs:sdB s=true)
  {bb off cap:Nat} {x:Value} (w:World) (hbl:bb<w.heap.size) (hR:R3 w bb off ma mb mc) (hx:RS w x px):Calls prog 173 #[.slice (some ⟨bb,off,none⟩) 3 cap,x,.int .i64 s] w (bo (nR ma mb mc px s).1 (nR ma mb mc px s).2 500 w):=by
 obtain⟨XA,XB,xa,xb,rfl,q1,q2,q3,q4,q5,q6⟩:=hx;have hX:=RS.mk q1 q2 q3 q4 q5 q6;clear q1 q2 q3 q4 q5 q6;have hRR:=hR;obtain⟨EA1,ea1,EA2,ea2,EB1,eb1,EB2,eb2,EC1,ec1,EC2,ec2,he0,he1,he2,hr0,hr1,hr2⟩:=hR;obtain⟨z,hz⟩:∃ z,z=yc ma mb mc px s:=⟨_,rfl⟩;have R:=AB ma mb mc px s;rw[<-hz] at R;have V:=AD R ho0 ho1 ho2 hox ha1 ha2 hb1 hb2 hc1 hc2 hs;have hZZ:nR ma mb mc px s=z.o:=by rw[hz];rfl
 have tk:=kY V.k.1;have rw_:=n_ V.g.1;have hZq:z.q=eI px ma s:=R.q;have hZk:z.k=eI px mb z.q.2:=R.k;have hZv:z.v=eI px mc z.k.2:=R.v;have hZt:z.t=eI z.q.1 (jz z.k.1) z.v.2:=R.t;have hZg:z.g=dv (fnv 4) z.t.1 z.t.2:=R.g;have hZm:z.m=dv (fnv 5) (mi z.g.1) z.g.2:=R.m;have hZeh:z.h=dv (fnv 1) (c_ z.g.1 z.m.1 z.m.2).1 (c_ z.g.1 z.m.1 z.m.2).2:=by rw[R.h,R.e]
 have hZo:z.o=eI z.h.1 z.v.1 z.h.2:=R.o;have hTK:=tk.1;have hQT:z.q.1.1.c=(jz z.k.1).1.r:=by rw[V.q.2.2.1,tk.2.1,V.k.2.2.1]
 have hRW:=rw_.1;have hMR:z.m.1.1.r=z.g.1.1.r:=by rw[V.m.2.1,V.g.2.1]
 have hHV:z.h.1.1.c=z.v.1.1.r:=by rw[V.h.2.2.1,V.v.2.1]
 have hG1:=(ai V.g.1).1;have hG2:=(ai V.g.1).2.1;have hXY0:px.1.c=ma.1.r:=ha1.symm;have hXY1:px.1.c=mb.1.r:=hb1.symm;have hXY2:px.1.c=mc.1.r:=hc1.symm;have hV:=V;clear hz R V tk rw_;have HO0:=Qh ho0;have HO1:=Qh ho1;have HO2:=Qh ho2;have HOX:=Qh hox;have HX:=Qh hX;have HE0:=Qh he0;have HE1:=Qh he1;have HE2:=Qh he2;have HR0:=Qh hr0;have HR1:=Qh hr1;have HR2:=Qh hr2;have HA1:=Qh ha1;have HA2:=Qh ha2;have HB1:=Qh hb1;have HB2:=Qh hb2;have HC1:=Qh hc1;have HC2:=Qh hc2;have HS:=Qh hs;have HRR:=Qh hRR;have HZZ:=Qh hZZ;have HZq:=Qh hZq;have HZk:=Qh hZk;have HZv:=Qh hZv;have HZt:=Qh hZt;have HZg:=Qh hZg;have HZm:=Qh hZm;have HZeh:=Qh hZeh;have HZo:=Qh hZo;have HTK:=Qh hTK;have HQT:=Qh hQT;have HRW:=Qh hRW;have HMR:=Qh hMR;have HHV:=Qh hHV;have HG1:=Qh hG1;have HG2:=Qh hG2;have HXY0:=Qh hXY0;have HXY1:=Qh hXY1;have HXY2:=Qh hXY2;have HV:=Qh hV;clear ho0 ho1 ho2 hox hX he0 he1 he2 hr0 hr1 hr2 ha1 ha2 hb1 hb2 hc1 hc2 hs hRR hZZ hZq hZk hZv hZt hZg hZm hZeh hZo hTK hQT hRW hMR hHV hG1 hG2 hXY0 hXY1 hXY2 hV;refine zE ?_;intro u1 H;refine zB (ku HO0.out HO1.out HO2.out HOX.out HA1.out HA2.out HB1.out HB2.out HC1.out HC2.out u1 (Nat.lt_of_lt_of_le hbl H.m) (R3.below HRR.out hbl H.O) (RS.below HX.out H.O)) ?_;clear H;intro w2 u2 H;refine zP (aU (dH HS.out) u2) ?_;clear H;intro u3 H;replace H:=H.nil;replace H:=(H.r 1);have zbb:=Nat.lt_of_lt_of_le hbl H.m;have zg:=(H.k 0).lt;have E0:=H.tl.tl.el;intros;refine H.lFG [w.heap.size,bb] noX false (tgF [w.heap.size,bb] 5 10 (.cells #[.int .i64 0,.int .i64 0,.slice none 0 0,.int .i64 0,.int .i64 0,.slice none 0 0] 82)) ?_;clear H;intro S w4 hne H;refine zD (H.c 3) ?_;intro G;obtain⟨r0,r1,r2,r3,r4,r5⟩:=SMc.below HE0.out hbl H.O;replace r0:=H.row r0;replace r1:=H.row r1;replace r2:=H.row r2;replace r3:=H.row r3;replace r4:=H.row r4;replace r5:=H.row r5;intros;refine fU (fun w5 (hb:Bw w4 w5)=>(show Calls prog 210 #[_,_,_] w5 (jC z.q.1 z.q.2 75 (u2.heap.size) none 0 w5) from by rw[HZq.out];exact dO HOX.out HO0.out HXY0.out HS.out w5 ((H.b hb).k 0) (OS.mono ((H.b hb).o 1) (Nat.zero_le _)) (by omega) (RS.below HX.out (H.b hb).O) (RS.below HR0.out (H.b hb).O))) ?_;clear H
 rintro w5 K hK H e w6 ⟨A1,c1,D1,d1,C1,n1,k1,v1,rfl,hn1,hq⟩;have hb:=hq.kb (B:=u3.heap.size) (t':=82) (ds:=#[.int .i64 0,.int .i64 0,.slice none 0 0,.int .i64 0,.int .i64 0,.slice none 0 0]) (H.k 0) (H.o 1);replace H:=H.stp hq (all_cons H.H.nst (all_cons (H.H.nel hbl) (all_nil)));refine fKU ?_;clear hK K hb hq;replace H:=((H.r 2).r 2);have E:=Elq.c (d:=qB (u2.heap.size) 199 [.int .i64 z.q.2,.slice C1 n1 k1]) (fun i (hi:i=u2.heap.size)=>by omega) E0
 refine yG ?_;clear H;intro w7 gZ1 hgZ1 H;refine yS ?_;clear H;intro w8 H;refine yN ?_;clear H G E E0 zg zbb r0 r1 r2 r3 r4 r5;intro u8 H;replace H:=((H.r 1).r 3);have zbb:=Nat.lt_of_lt_of_le hbl H.m;have zg:=(H.k 0).lt;have E0:=H.tl.tl.el;intros;refine H.lFG [w.heap.size,bb] noX false (tgF [w.heap.size,bb] 5 11 (.cells #[.int .i64 0,.int .i64 0,.slice none 0 0,.int .i64 0,.int .i64 0,.slice none 0 0] 82)) ?_;clear H;intro S w9 hne H;refine zD (H.c 5) ?_;intro G;obtain⟨r0,r1,r2,r3,r4,r5⟩:=SMc.below HE1.out hbl H.O;replace r0:=H.row r0;replace r1:=H.row r1;replace r2:=H.row r2;replace r3:=H.row r3;replace r4:=H.row r4;replace r5:=H.row r5;intros;refine fU (fun w10 (hb:Bw w9 w10)=>(show Calls prog 210 #[_,_,_] w10 (jC z.k.1 z.k.2 75 (u2.heap.size) C1 n1 w10) from by rw[HZk.out];exact dO HOX.out HO1.out HXY1.out HV.out.q.2.2.2 w10 ((H.b hb).k 0) (OS.mono ((H.b hb).o 1) (Nat.zero_le _)) (by omega) (RS.below HX.out (H.b hb).O) (RS.below HR1.out (H.b hb).O))) ?_;clear H
 rintro w10 K hK H e w11 ⟨A2,c2,D2,d2,C2,n2,k2,v2,rfl,hn2,hq⟩;have hb:=hq.kb (B:=u8.heap.size) (t':=82) (ds:=#[.int .i64 0,.int .i64 0,.slice none 0 0,.int .i64 0,.int .i64 0,.slice none 0 0]) (H.k 0) (H.o 1);replace H:=H.stp hq (all_cons H.H.nst (all_cons (H.H.nel hbl) (all_nil)));refine fKU ?_;clear hK K hb hq;replace H:=((H.r 2).r 2);have E:=Elq.c (d:=qB (u2.heap.size) 199 [.int .i64 z.k.2,.slice C2 n2 k2]) (fun i (hi:i=u2.heap.size)=>by omega) E0
 refine yG ?_;clear H;intro w12 gZ2 hgZ2 H;refine yS ?_;clear H;intro w13 H;refine yN ?_;clear H G E E0 zg zbb r0 r1 r2 r3 r4 r5;intro u13 H;replace H:=((H.r 1).r 3);have zbb:=Nat.lt_of_lt_of_le hbl H.m;have zg:=(H.k 0).lt;have E0:=H.tl.tl.el;intros;refine H.lFG [w.heap.size,bb] noX false (tgF [w.heap.size,bb] 5 12 (.cells #[.int .i64 0,.int .i64 0,.slice none 0 0,.int .i64 0,.int .i64 0,.slice none 0 0] 82)) ?_;clear H;intro S w14 hne H;refine zD (H.c 7) ?_;intro G;obtain⟨r0,r1,r2,r3,r4,r5⟩:=SMc.below HE2.out hbl H.O;replace r0:=H.row r0;replace r1:=H.row r1;replace r2:=H.row r2;replace r3:=H.row r3;replace r4:=H.row r4;replace r5:=H.row r5;intros;refine fU (fun w15 (hb:Bw w14 w15)=>(show Calls prog 210 #[_,_,_] w15 (jC z.v.1 z.v.2 75 (u2.heap.size) C2 n2 w15) from by rw[HZv.out];exact dO HOX.out HO2.out HXY2.out HV.out.k.2.2.2 w15 ((H.b hb).k 0) (OS.mono ((H.b hb).o 1) (Nat.zero_le _)) (by omega) (RS.below HX.out (H.b hb).O) (RS.below HR2.out (H.b hb).O))) ?_;clear H
 rintro w15 K hK H e w16 ⟨A3,c3,D3,d3,C3,n3,k3,v3,rfl,hn3,hq⟩;have hb:=hq.kb (B:=u13.heap.size) (t':=82) (ds:=#[.int .i64 0,.int .i64 0,.slice none 0 0,.int .i64 0,.int .i64 0,.slice none 0 0]) (H.k 0) (H.o 1);replace H:=H.stp hq (all_cons H.H.nst (all_cons (H.H.nel hbl) (all_nil)));refine fKU ?_;clear hK K hb hq;replace H:=((H.r 2).r 2);have E:=Elq.c (d:=qB (u2.heap.size) 199 [.int .i64 z.v.2,.slice C3 n3 k3]) (fun i (hi:i=u2.heap.size)=>by omega) E0
 refine yG ?_;clear H;intro w17 gZ3 hgZ3 H;refine yS ?_;clear H;intro w18 H;refine yN ?_;clear H G E E0 zg zbb r0 r1 r2 r3 r4 r5;intro u18 H;replace H:=((H.r 1).r 3);have zg:=(H.k 0).lt;have E0:=H.tl.tl.el;intros;refine H.lFG [gZ1,gZ2] noX false (tgF [gZ1,gZ2] 4 13 (.cells #[.int .i64 0,.int .i64 0,.slice none 0 0,.int .i64 0,.int .i64 0,.slice none 0 0] 82)) ?_;clear H;intro S w19 hne H;refine zD (And.intro (H.c 6) (H.c 4)) ?_;intro G;intros;refine f_ (fun w20 (hb:Bw w19 w20)=>nz HV.out.k.1 w20 ((H.b hb).rs 5)) ?_;clear H
 rintro w20 K hK H e w21 ⟨T1,T2,t1,t2,rfl,f1,f2,hb⟩;replace H:=H.ss hb f1 f2;refine fK ?_;clear hK K hb f1 f2;replace H:=((H.r 2).r 2);intros;refine fU (fun w22 (hb:Bw w21 w22)=>(show Calls prog 210 #[_,_,_] w22 (jC z.t.1 z.t.2 75 (u2.heap.size) C3 n3 w22) from by rw[HZt.out];exact dO HV.out.q.1 HTK.out HQT.out HV.out.v.2.2.2 w22 ((H.b hb).k 0) (OS.mono ((H.b hb).o 1) (Nat.zero_le _)) (by omega) ((H.b hb).rs 8) ((H.b hb).rs 2))) ?_;clear H
 rintro w22 K hK H e w23 ⟨A4,c4,D4,d4,C4,n4,k4,v4,rfl,hn4,hq⟩;have hb:=hq.kb (B:=u18.heap.size) (t':=82) (ds:=#[.int .i64 0,.int .i64 0,.slice none 0 0,.int .i64 0,.int .i64 0,.slice none 0 0]) (H.k 0) (H.o 1);replace H:=H.stp hq (all_cons H.H.nst (all_cons H.H.nst (all_nil)));refine fKU ?_;clear hK K hb hq;replace H:=H.d 3;replace H:=((H.r 2).r 2);have E:=Elq.c (d:=qB (u2.heap.size) 199 [.int .i64 z.t.2,.slice C4 n4 k4]) (fun i (hi:i=u2.heap.size)=>by omega) E0
 refine yG ?_;clear H;intro w24 gZ4 hgZ4 H;refine yS ?_;clear H;intro w25 H;refine yN ?_;clear H G E E0 zg;intro u25 H;replace H:=H.d 8;replace H:=H.d 6;replace H:=H.d 7;replace H:=H.d 6;replace H:=H.d 7;replace H:=((H.r 1).r 3);refine zG ((show Calls prog 172 #[_,_,_] u25 (jC z.g.1 z.g.2 25 (u2.heap.size) C4 n4 u25) from by rw[HZg.out];exact nD (by omega) HV.out.t.1 HV.out.t.2.2.2 u25 (H.k 0) ((H.o 1).mono (Nat.zero_le _)) (by omega) (H.rs 3))) ?_
 rintro e w26 ⟨A5,c5,D5,d5,C5,n5,k5,v5,rfl,hn5,hq⟩;replace H:=H.stp hq;clear hq;replace H:=H.d 4;replace H:=H.d 3;refine zN ?_;clear H;intro u27 H;refine zW (mO (q:=mi z.g.1) 217 #[] (fun v=>#[v]) (fun _=>rfl) u27 (H.rs 3) (fun _ _=>by kernel_rfl) (fun W v _ hv=>lZ HG1.out W hv) (fun W v _ hv=>lZ HG2.out W hv)) ?_;clear H;intro w28 T1 T2 t1 t2 u28 H
 replace H:=((H.r 3).r 3);refine zG ((show Calls prog 172 #[_,_,_] u28 (jC z.m.1 z.m.2 25 (u2.heap.size) C5 n5 u28) from by rw[HZm.out];exact nD (by omega) HRW.out HV.out.g.2.2.2 u28 (H.k 0) ((H.o 1).mono (Nat.zero_le _)) (by omega) (H.rs 2))) ?_
 rintro e w29 ⟨A6,c6,D6,d6,C6,n6,k6,v6,rfl,hn6,hq⟩;replace H:=H.stp hq;clear hq;replace H:=H.d 3;refine zN ?_;clear H;intro u30 H;replace H:=((H.r 2).r 2);refine zG ((show Calls prog 218 #[_,_,_] u30 (jC z.h.1 z.h.2 75 (u2.heap.size) C6 n6 u30) from by rw[HZeh.out];exact sX HV.out.g.1 HV.out.m.1 HMR.out HV.out.m.2.2.1 HV.out.m.2.2.2 u30 (H.k 0) ((H.o 1).mono (Nat.zero_le _)) (by omega) (H.rs 5) (H.rs 3))) ?_
 rintro e w31 ⟨A7,c7,D7,d7,C7,n7,k7,v7,rfl,hn7,hq⟩;replace H:=H.stp hq;clear hq;replace H:=H.d 6;replace H:=H.d 4;replace H:=H.d 4;replace H:=H.d 3;refine zN ?_;clear H;intro u32 H;replace H:=((H.r 2).r 2);refine zG ((show Calls prog 210 #[_,_,_] u32 (jC z.o.1 z.o.2 75 (u2.heap.size) C7 n7 u32) from by rw[HZo.out];exact dO HV.out.h.1 HV.out.v.1 HHV.out HV.out.h.2.2.2 u32 (H.k 0) ((H.o 1).mono (Nat.zero_le _)) (by omega) (H.rs 3) (H.rs 5))) ?_
 rintro e w33 ⟨A8,c8,D8,d8,C8,n8,k8,v8,rfl,hn8,hq⟩;replace H:=H.stp hq;clear hq;refine zN ?_;clear H;intro u34 H;refine zX (tg [w33.heap.size,u2.heap.size]) ?_;clear H;intro S w35 hne H;refine zD ((And.intro (H.c 0) (H.c 1))) ?_;intro G;refine yS ?_;clear H;intro w36 H;refine yN ?_;clear H G;intro u37 H;refine zS_ ?_;clear H;intro u38 H
 exact(by rw[HZZ.out];exact⟨A8,c8,D8,d8,C8,n8,k8,v8,rfl,qS.a (H.p 3),qS.b (H.p 3),(H.o 2),by omega,H.O⟩)
end
section
attribute [local go_sem] af ah ae
theorem Below.drewN {B:Nat} {w0 w:World} (h:Below B w0 w) (n:Nat):Below B w0 (w.drewN n):=⟨h.os,h.tape,h.output,h.size,h.block⟩
theorem jq (a b r c:Int) (x2 x3 x4 x5:Value) (w:World):Calls prog 323 #[.agg #[.int .i64 a,.int .i64 b,x2,x3,x4,x5],.int .i64 r,.int .i64 c] w fun e w'=>e= .returned (.tuple #[.int .i64 a,.int .i64 c,.bool (b == r)])/\Below w.heap.size w w':=by
 go_enter func323,ntmps323
 go_wp2_with fail
 obtain⟨uw1,hu⟩:∃ u,u=(w.alloc (.cells #[.int .i64 a,.int .i64 b,x2,x3,x4,x5] 178)):=⟨_,rfl⟩;rw[<-hu];have B1:Blk uw1 (w.heap.size) 178 #[.int .i64 a,.int .i64 b,x2,x3,x4,x5]:=Blk.cast hu (Blk.iA (by first|omega|(simp;done)|(simp;omega)))
 have O:Below w.heap.size w uw1:=Below.cast hu (Qb.alloc (by first|omega|(simp;done)|(simp;omega)) _)
 have mw:=O.size;clear hu;obtain⟨z1,c1_0,f1_0,c1_1,f1_1,c1_2,f1_2,c1_3,f1_3,c1_4,f1_4,c1_5,f1_5⟩:=B1.f6
 go_quiet (fail)
 go_wp2
 exact bodyPost_ret (v:= .tuple #[.int .i64 a,.int .i64 c,.bool (b == r)]) (by simp[results,results323,go_sem,z1,c1_0,f1_0,c1_1,f1_1,c1_2,f1_2,c1_3,f1_3,c1_4,f1_4,c1_5,f1_5]) rfl ⟨rfl,Below.drewN O nq⟩
theorem kj (r c:Int) (w:World):Calls prog 331 #[.agg #[],.int .i64 r,.int .i64 c] w fun e w'=>e= .returned (.tuple #[.int .i64 r,.int .i64 c,.bool true])/\Below w.heap.size w w':=by
 go_enter func331,ntmps331
 go_wp2
 exact bodyPost_ret (v:= .tuple #[.int .i64 r,.int .i64 c,.bool true]) (by simp[results,results331,go_sem,]) rfl ⟨rfl,(Qb.alloc (by first|omega|(simp;done)|(simp;omega)) _)⟩
theorem DL {b off cap:Nat} (q r c:Int) (w:World) (hb:b<w.heap.size) (h0:w.cell? ⟨b,off,none⟩=some (.int .i64 q)):Calls prog 334 #[.agg #[.slice (some ⟨b,off,none⟩) 3 cap],.int .i64 r,.int .i64 c] w fun e w'=>e= .returned (.tuple #[.int .i64 r,.int .i64 c,.bool (q == c)])/\Below w.heap.size w w':=by
 go_enter func334,ntmps334
 go_wp2_with fail
 obtain⟨uw1,hu⟩:∃ u,u=(w.alloc (.cells #[.slice (some ⟨b,off,none⟩) 3 cap] 183)):=⟨_,rfl⟩;rw[<-hu];have B1:Blk uw1 (w.heap.size) 183 #[.slice (some ⟨b,off,none⟩) 3 cap]:=Blk.cast hu (Blk.iA (by first|omega|(simp;done)|(simp;omega)))
 have O:Below w.heap.size w uw1:=Below.cast hu (Qb.alloc (by first|omega|(simp;done)|(simp;omega)) _)
 have mw:=O.size;have d0:=(O.cell (p:=⟨b,off,none⟩) hb).trans h0;have zb:=Nat.lt_of_lt_of_le hb O.size;clear hu;obtain⟨z1,c1_0,f1_0⟩:=B1.f1
 go_quiet (fail)
 go_wp2
 exact bodyPost_ret (v:= .tuple #[.int .i64 r,.int .i64 c,.bool (q == c)]) (by simp[results,results334,go_sem,z1,c1_0,f1_0]) rfl ⟨rfl,Below.drewN O nq⟩
end
abbrev PL:=Int×List Mx
abbrev SL:=Int×List (Mx×Mx)
def dr (l:PL) (rc:Int×Int):Option (Int×Int):=if l.1=1 then (if (l.2.getD 0 Mx.z).c=rc.1 then some ((l.2.getD 0 Mx.z).r,rc.2) else none) else if l.1=2 then some rc else if (l.2.getD 0 Mx.z).r=rc.2 then some rc else none
def bE (net:List PL) (o:Option (Int×Int)):Option (Int×Int):=net.foldl (fun o l=>o.bind (dr l)) o
theorem lP:∀ net,bE net none=none
 | []=>rfl
 | _::ls=>lP ls
theorem eh {net:List PL} {j:Nat} {l:PL} (h:net[j]?=some l) (o:Option (Int×Int)):bE (net.take (j+1)) o=(bE (net.take j) o).bind (dr l):=by
 rw[aW h]
 simp[bE,List.foldl_append]
theorem gJ {net:List PL} {j:Nat} {o:Option (Int×Int)} (h:bE (net.take j) o=none):bE net o=none:=by
 rw[<-List.take_append_drop j net];unfold bE at h ⊢;rw[List.foldl_append,h]
 exact lP _
def tb (net:List PL):Prop:=net.length<=4/\∀ l,l∈net->aL l.1 l.2=true
theorem eM {l:PL} (h:aL l.1 l.2=true):(l.1=1/\∃ a b,l.2=[a,b]/\mvB a=true/\mvB b=true/\b.c=1/\b.r=a.r)\/(l.1=2/\l.2=[])\/(l.1=3/\∃ a b c,l.2=[a,b,c]/\mvB a=true/\mvB b=true/\mvB c=true/\a.r=a.c/\b.r=a.c/\b.c=a.c/\c.r=a.c/\c.c=a.c):=by
 obtain⟨k,ms⟩:=l;unfold aL at h
 dsimp only at h ⊢
 split at h
 ·rename_i h1
  left
  refine⟨h1,?_⟩
  match ms,h with
  | [a,b],h =>
   simp only[dfB,Bool.and_eq_true,List.getD_cons_zero,List.getD_cons_succ,decide_eq_true_eq] at h
   exact⟨a,b,rfl,by simp_all,by simp_all,by simp_all,by simp_all⟩
  | [],h=>simp at h
  | [a],h=>simp at h
  | _::_::_::_,h=>simp at h
 ·split at h
  ·rename_i h1
   right;left
   refine⟨h1,?_⟩
   match ms,h with
   | [],_=>rfl
   | _::_,h=>simp at h
  ·split at h
   ·rename_i h1
    right;right
    refine⟨h1,?_⟩
    match ms,h with
    | [a,b,c],h =>
     simp[jN,bS] at h
     refine⟨a,b,c,rfl,?_⟩
     simp_all
    | [],h=>simp at h
    | [a],h=>simp at h
    | [a,b],h=>simp at h
    | _::_::_::_::_,h=>simp at h
   ·cases h
theorem uy {l:PL} (h:aL l.1 l.2=true) {rc rc':Int×Int} (h1:side rc.1=true) (h2:side rc.2=true) (e:dr l rc=some rc'):side rc'.1=true/\side rc'.2=true:=by
 unfold dr at e;rcases eM h with⟨k,a,b,hl,va,_⟩|⟨k,hl⟩|⟨k,a,b,c,hl,va,_⟩
 ·rw[if_pos k,hl] at e
  split at e
  ·injection e with e;subst e
   exact⟨(aA va).1,h2⟩
  ·cases e
 ·rw[if_neg (by omega),if_pos k] at e
  injection e with e;subst e
  exact⟨h1,h2⟩
 ·rw[if_neg (by omega),if_neg (by omega)] at e
  split at e
  ·injection e with e;subst e
   exact⟨h1,h2⟩
  ·cases e
def SMz:Mx×Mx:=(Mx.z,Mx.z)
def jm (l:SL) (z:(Mx×Mx)×Int):(Mx×Mx)×Int:=if l.1=1 then ec (l.2.getD 0 SMz) (l.2.getD 1 SMz) z.1 z.2 else if l.1=2 then dv (fnv 2) z.1 z.2 else nR (l.2.getD 0 SMz) (l.2.getD 1 SMz) (l.2.getD 2 SMz) z.1 z.2
def fD (net:List SL) (z:(Mx×Mx)×Int):(Mx×Mx)×Int:=net.foldl (fun z l=>jm l z) z
theorem pF {net:List SL} {j:Nat} {l:SL} (h:net[j]?=some l) (z:(Mx×Mx)×Int):fD (net.take (j+1)) z=jm l (fD (net.take j) z):=by
 rw[aW h]
 simp[fD,List.foldl_append]
theorem ky {p:Mx×Mx} (h:mvB (aq p)=true):okS p=true:=by
 cases hk:okS p
 ·have e:aq p=Mx.z:=ib hk;rw[e] at h
  exact absurd h (by decide)
 ·rfl
theorem mV {l:SL} (h:aL l.1 (l.2.map aq)=true):(l.1=1/\∃ a b,l.2=[a,b]/\okS a=true/\okS b=true/\b.1.c=1/\b.1.r=a.1.r)\/(l.1=2/\l.2=[])\/(l.1=3/\∃ a b c,l.2=[a,b,c]/\okS a=true/\okS b=true/\okS c=true/\a.1.r=a.1.c/\b.1.r=a.1.c/\b.1.c=a.1.c/\c.1.r=a.1.c/\c.1.c=a.1.c):=by
 obtain⟨k,ms⟩:=l;rcases eM (l:=(k,ms.map aq)) h with⟨hk,a,b,hl,va,vb,h1,h2⟩|⟨hk,hl⟩|⟨hk,a,b,c,hl,va,vb,vc,h1,h2,h3,h4,h5⟩
 ·left
  match ms,hl with
  | [p,q],hl =>
   simp only[List.map_cons,List.map_nil,List.cons.injEq,and_true] at hl;obtain⟨rfl,rfl⟩:=hl;have a:=ky va;have b:=ky vb
   exact⟨hk,p,q,rfl,a,b,(aN b).2.2.symm.trans h1,(aN b).2.1.symm.trans (h2.trans (aN a).2.1)⟩
  | [],hl=>cases hl
  | [_],hl=>simp at hl
  | _::_::_::_,hl=>simp at hl
 ·right;left
  exact⟨hk,List.map_eq_nil_iff.1 hl⟩
 ·right;right
  match ms,hl with
  | [p,q,r],hl =>
   simp only[List.map_cons,List.map_nil,List.cons.injEq,and_true] at hl;obtain⟨rfl,rfl,rfl⟩:=hl;have a:=ky va;have b:=ky vb;have c:=ky vc;rw[(aN a).2.1,(aN a).2.2] at h1;rw[(aN b).2.1,(aN a).2.2] at h2;rw[(aN b).2.2,(aN a).2.2] at h3;rw[(aN c).2.1,(aN a).2.2] at h4;rw[(aN c).2.2,(aN a).2.2] at h5
   exact⟨hk,p,q,r,rfl,a,b,c,h1,h2,h3,h4,h5⟩
  | [],hl=>cases hl
  | [_],hl=>simp at hl
  | [_,_],hl=>simp at hl
  | _::_::_::_::_,hl=>simp at hl
theorem qk {l:SL} (h:aL l.1 (l.2.map aq)=true) {z:(Mx×Mx)×Int} {r c:Int} (hz:OKD z r c) {rc':Int×Int} (e:dr (df l) (r,c)=some rc'):OKD (jm l z) rc'.1 rc'.2:=by
 obtain⟨h1,h2,h3,h4⟩:=hz;unfold dr df at e;unfold jm;rcases mV h with⟨k,a,b,hl,oa,ob,hb1,hb2⟩|⟨k,hl⟩|⟨k,p,q,t,hl,oa,ob,oc,x1,x2,x3,x4,x5⟩
 ·rw[if_pos k,hl]
  dsimp only at e
  rw[if_pos k,hl] at e;simp only[List.map_cons,List.getD_cons_zero] at e
  split at e
  ·rename_i hc
   injection e with e;subst e;rw[(aN oa).2.2] at hc;obtain⟨d1,d2,d3,d4⟩:=uI oa ob h1 (by rw[hc,h2]) hb2 h4
   exact⟨d1,d2.trans (aN oa).2.1.symm,d3.trans h3,d4⟩
  ·cases e
 ·dsimp only at e
  rw[if_neg (by omega),if_pos k] at e ⊢
  injection e with e;subst e;obtain⟨d1,d2,d3,d4⟩:=ja (fnv 2) h1 h4
  exact⟨d1,d2.trans h2,d3.trans h3,d4⟩
 ·dsimp only at e
  rw[if_neg (by omega),if_neg (by omega)] at e ⊢
  rw[hl] at e ⊢;simp only[List.map_cons,List.getD_cons_zero] at e
  split at e
  ·rename_i hc
   injection e with e;subst e;rw[(aN oa).2.1] at hc;have V:=AD (AB p q t z.1 z.2) oa ob oc h1 (by rw[hc,h3]) (by rw[<-x1,hc,h3]) (by rw[x2,<-x1,hc,h3]) (by rw[x3,<-x1,hc,h3]) (by rw[x4,<-x1,hc,h3]) (by rw[x5,<-x1,hc,h3]) h4
   obtain⟨d1,d2,d3,d4⟩:=V.o
   exact⟨d1,d2.trans h2,d3.trans h3,d4⟩
  ·cases e
theorem yi {net:List SL}:∀ (h:∀ l,l∈net->aL l.1 (l.2.map aq)=true) {z:(Mx×Mx)×Int} {rc rc':Int×Int} (hz:OKD z rc.1 rc.2) (e:bE (net.map df) (some rc)=some rc'),OKD (fD net z) rc'.1 rc'.2:=by
 induction net with
 | nil=>intro h z rc rc' hz e;injection e with e;subst e;exact hz
 | cons l ls ih =>
  intro h z rc rc' hz e;have e':bE (ls.map df) (dr (df l) rc)=some rc':=e
  cases hs:dr (df l) rc with
  | none=>rw[hs,lP] at e';cases e'
  | some r1 =>
   rw[hs] at e'
   exact ih (fun x hx=>h x (List.mem_cons_of_mem _ hx)) (qk (h l (List.mem_cons_self ..)) hz hs) e'
structure Nd where
 a:Int
 b:Int
 c:Int
 d:Int
def Nd.z:Nd:=⟨0,0,0,0⟩
def Nd.add (x y:Nd):Nd:=⟨x.a+y.a,x.b+y.b,x.c+y.c,x.d+y.d⟩
def lkN (n:Int):Nd:=⟨0,0,n,n⟩
def cpN (r i c:Int):Nd:=⟨0,1,r*c,r*i+i*c+r*c⟩
def ndL (l:PL) (rc:Int×Int):Nd:=if l.1=1 then cpN (l.2.getD 0 Mx.z).r rc.1 rc.2 else if l.1=2 then lkN (rc.1*rc.2) else
 ⟨rc.1*rc.1,5,4*(rc.1*rc.2)+3*(rc.1*rc.1)+rc.1,10*(rc.1*rc.2)+3*(rc.2*rc.2)+6*(rc.1*rc.1)+rc.1⟩
def ndN (net:List PL) (z:Nd×Option (Int×Int)):Nd×Option (Int×Int):=net.foldl (fun z l=>(z.1.add (match z.2 with|some rc=>ndL l rc|none=>Nd.z),z.2.bind (dr l))) z
theorem rW {net:List PL} {j:Nat} {l:PL} (h:net[j]?=some l) (z:Nd×Option (Int×Int)):ndN (net.take (j+1)) z=((ndN (net.take j) z).1.add (match (ndN (net.take j) z).2 with|some rc=>ndL l rc|none=>Nd.z),(ndN (net.take j) z).2.bind (dr l)):=by
 rw[aW h]
 simp[ndN,List.foldl_append]
theorem qo:∀ (net:List PL) (z:Nd×Option (Int×Int)),(ndN net z).2=bE net z.2
 | [],_=>rfl
 | _::ls,z=>qo ls _
end Go.Proofs.YtjciicheoghcdaaGreatDoor

/- Part of the proof that the law FnExactServiceRun of the given program returns true for every input. -/
import Derived.Test.YtjciicheoghcdaaGreatDoorYl
import Derived.Test.YtjciicheoghcdaaGreatDoorYp
import Derived.Test.YtjciicheoghcdaaGreatDoorYq
import Derived.Test.YtjciicheoghcdaaGreatDoorYt
import Derived.Test.YtjciicheoghcdaaGreatDoorYu
namespace Go.Proofs.YtjciicheoghcdaaGreatDoor
open Go.RowKit
set_option linter.unusedSimpArgs false
set_option linter.unusedVariables false
set_option maxRecDepth 20000
set_option maxHeartbeats 16000000
section
attribute [local go_sem] af ah ae
theorem RI.cast {α:Type} {E:Elt α} {u w:World} {A:Option Addr} {n cap:Nat} {xs:List α} {F:List Nat} (hu:u=w) (h:RI E w A n cap xs F):RI E u A n cap xs F:=hu ▸ h
theorem sD {l:SL} (h:aL l.1 (l.2.map aq)=true) {z:(Mx×Mx)×Int} {r c:Int} (hz:OKD z r c) {rc':Int×Int} (e:dr (df l) (r,c)=some rc') :
  (∃ a b,l=(1,[a,b])/\(okS a=true/\okS b=true/\a.1.c=z.1.1.r/\b.1.r=a.1.r/\b.1.c=1)/\jm l z=ec a b z.1 z.2)\/(l=(2,[])/\jm l z=dv (fnv 2) z.1 z.2) \/
  (∃ p q t,l=(3,[p,q,t])/\(okS p=true/\okS q=true/\okS t=true/\p.1.r=z.1.1.c/\p.1.c=z.1.1.c/\q.1.r=z.1.1.c/\q.1.c=z.1.1.c/\t.1.r=z.1.1.c/\t.1.c=z.1.1.c)/\jm l z=nR p q t z.1 z.2):=by
 obtain ⟨h1,h2,h3,h4⟩:=hz;obtain ⟨kk,ms⟩:=l;unfold dr df at e;rcases mV (l:=(kk,ms)) h with ⟨k,a,b,hl,oa,ob,hb1,hb2⟩ | ⟨k,hl⟩ | ⟨k,p,q,t,hl,oa,ob,oc,x1,x2,x3,x4,x5⟩ <;> dsimp only at k hl <;> subst k <;> subst hl <;> dsimp only at e
 ·rw [if_pos rfl] at e;simp only [List.map_cons,List.getD_cons_zero] at e
  split at e
  ·rename_i hc
   rw [(aN oa).2.2] at hc
   exact .inl ⟨a,b,rfl,⟨oa,ob,by rw [hc,h2],hb2,hb1⟩,by unfold jm;rw [if_pos rfl];rfl⟩
  ·cases e
 ·exact .inr (.inl ⟨rfl,by unfold jm;rw [if_neg (by decide),if_pos rfl]⟩)
 ·rw [if_neg (by decide),if_neg (by decide)] at e
  simp only [List.map_cons,List.getD_cons_zero] at e
  split at e
  ·rename_i hc
   rw [(aN oa).2.1] at hc
   exact .inr (.inr ⟨p,q,t,rfl,⟨oa,ob,oc,by rw [hc,h3],by rw [<- x1,hc,h3],by rw [x2,<- x1,hc,h3],by rw [x3,<- x1,hc,h3],by rw [x4,<- x1,hc,h3],by rw [x5,<- x1,hc,h3]⟩,by unfold jm;rw [if_neg (by simp),if_neg (by simp)];rfl⟩)
  ·cases e
theorem eN {net:List SL} (h:bu net=true):tb (bh net):=by
 rw [eL h];unfold bu at h;simp only [Bool.and_eq_true,decide_eq_true_eq,List.all_eq_true] at h;refine ⟨by rw [List.length_map];exact h.1,fun l hl=> ?_⟩
 obtain ⟨l',h1,rfl⟩:=List.mem_map.1 hl
 exact h.2 l' h1
theorem du {net:List SL} (h:bu net=true):net.length<=4/\∀ l,l∈net->aL l.1 (l.2.map aq)=true:=by
 unfold bu at h
 simpa only [Bool.and_eq_true,decide_eq_true_eq,List.all_eq_true] using h
theorem dU {net:List SL}:∀ l,l∈bh net->∀ m,m∈l.2->mS m:=by
 intro l hl m hm
 by_cases h:bu net=true
 ·rw [eL h] at hl;obtain ⟨l',_,rfl⟩:=List.mem_map.1 hl
  exact jJ m hm
 ·rw [rL (by simpa using h)] at hl;cases hl
def pM (p:Mx×Mx) (s:Int) (w:World) (e:Ending) (w':World):Prop:=∃ A c B d C n k v,e= .returned (.tuple #[SMV p.1.r p.1.c A p.1.v.length c p.2.r p.2.c B p.2.v.length d,.slice C n k,.int .i64 s])/\OS w' w.heap.size A p.1.v.length c p.1.v/\OS w' w.heap.size B p.2.v.length d p.2.v/\OS w' w.heap.size C n k v/\Below w.heap.size w w'
def Cu (w:World) (e:Ending) (w':World):Prop:=e= .returned (.tuple #[SMV 0 0 none 0 0 0 0 none 0 0,.slice none 0 0,.int .i64 0])/\Below w.heap.size w w'
theorem nx {net:List SL} (hok:bu net=true) (hns:gG (kS smS) net) {A:Option Addr} {cap:Nat} {F:List Nat} {x:Mx×Mx} {s:Int} (hox:okS x=true) (hsd:sdB s=true) (hfit:(bE (bh net) (some (x.1.r,x.1.c))).isSome=false) (w:World) (hx:RI (kE smE) w A net.length cap net F) {vx:Value} (hvx:RS w vx x) :
  Calls Tryz.prog 126 #[.slice A net.length cap,vx,.int .i64 s] w (Cu w):=by
 obtain ⟨XA,XB,xa,xb,rfl,q1,q2,q3,q4,q5,q6⟩:=hvx;have hX:=RS.mk q1 q2 q3 q4 q5 q6;clear q1 q2 q3 q4 q5 q6;obtain ⟨hR,hC⟩:=aA (ai hox).1;have hNV:=eN hok;have HXX:=Lib.hid hX;have HOK:=Lib.hid hok;have HNS:=Lib.hid hns;have HOX:=Lib.hid hox;have HSD:=Lib.hid hsd;have HFIT:=Lib.hid hfit;have HNT:=Lib.hid hx;have HR:=Lib.hid hR;have HC:=Lib.hid hC;have HNV:=Lib.hid hNV;clear hX hok hns hox hsd hfit hx hR hC hNV;refine zE ?_;intro u1 H;refine zG (gB _ _ _ net _ u1 (HNT.out.below H.O) HNS.out) ?_;rintro e w2 ⟨AJ,nj,cj,FJ,rfl,hrj,hfr,hb⟩;replace H:=H.rf hb hrj hfr;rw [HOK.out];obtain rfl:=hrj.len;clear hrj hfr hb;refine zN ?_;clear H;intro u3 H;refine zB (gC HOX.out u3 (RS.below HXX.out H.O)) ?_;clear H;intro w4 u4 H;refine zP (aU (dH HSD.out) u4) ?_;clear H;intro u5 H;refine zG ((show Calls Tryz.prog 61 #[_,_,_] u5 (NSd false u5) from by rw [<- HFIT.out];exact eo HNV.out HR.out HC.out u5 (H.f 0).1 dU)) ?_
 rintro e w6 ⟨x0,y0,rfl,hb⟩;replace H:=H.b hb;refine zS_ ?_;clear H;intro u7 H
 exact ⟨rfl,H.O⟩
theorem oM {net:List SL} (hok:bu net=true) (hns:gG (kS smS) net) {A:Option Addr} {cap:Nat} {F:List Nat} {x:Mx×Mx} {s:Int} (hox:okS x=true) (hsd:sdB s=true) (hfit:(bE (bh net) (some (x.1.r,x.1.c))).isSome=true) (w:World) (hx:RI (kE smE) w A net.length cap net F) {vx:Value} (hvx:RS w vx x) :
  Calls Tryz.prog 126 #[.slice A net.length cap,vx,.int .i64 s] w (pM (fD net (x,s)).1 (fD net (x,s)).2 w):=by
 obtain ⟨XA,XB,xa,xb,rfl,q1,q2,q3,q4,q5,q6⟩:=hvx;have hX:=RS.mk q1 q2 q3 q4 q5 q6;clear q1 q2 q3 q4 q5 q6;obtain ⟨hR,hC⟩:=aA (ai hox).1;have hNV:=eN hok;have HXX:=Lib.hid hX;have HOK:=Lib.hid hok;have HNS:=Lib.hid hns;have HOX:=Lib.hid hox;have HSD:=Lib.hid hsd;have HFIT:=Lib.hid hfit;have HNT:=Lib.hid hx;have HR:=Lib.hid hR;have HC:=Lib.hid hC;have HNV:=Lib.hid hNV;clear hX hok hns hox hsd hfit hx hR hC hNV;refine zE ?_;intro u1 H;refine zG (gB _ _ _ net _ u1 (HNT.out.below H.O) HNS.out) ?_;rintro e w2 ⟨AJ,nj,cj,FJ,rfl,hrj,hfr,hb⟩;replace H:=H.rf hb hrj hfr;rw [HOK.out];obtain rfl:=hrj.len;clear hrj hfr hb;refine zN ?_;clear H;intro u3 H;refine zB (gC HOX.out u3 (RS.below HXX.out H.O)) ?_;clear H;intro w4 u4 H;refine zP (aU (dH HSD.out) u4) ?_;clear H;intro u5 H;refine zG ((show Calls Tryz.prog 61 #[_,_,_] u5 (NSd true u5) from by rw [<- HFIT.out];exact eo HNV.out HR.out HC.out u5 (H.f 0).1 dU)) ?_
 rintro e w6 ⟨x0,y0,rfl,hb⟩;replace H:=H.b hb;refine zN ?_;clear H;intro u7 H;replace H:=H.nil;obtain ⟨gS,hgS⟩:∃ x,x=w6.heap.size:=⟨_,rfl⟩;rw [<- hgS] at H ⊢;clear hgS;refine zW (mO (q:=x) 63 #[] (fun v=>#[v]) (fun _=>rfl) u7 (RS.below HXX.out H.O) (fun _ _=>by kernel_rfl) (fun W v _ hv=>ep (ai HOX.out).1 W hv) (fun W v _ hv=>ep (ai HOX.out).2.1 W hv)) ?_;clear H;intro w8 P Q c1 d1 u8 H
 replace H:=(((((((H.d 4).d 5).r 4).r 1).r 2).r 3).r 4);obtain ⟨n,hn⟩:∃ n,n=net.length:=⟨_,rfl⟩;rw [<- hn];have HN:=Lib.hid hn;have h4:n<=4:=by rw [hn];exact (du HOK.out).1
 obtain ⟨gM,hgM⟩:∃ x,x=w8.heap.size:=⟨_,rfl⟩;rw [<- hgM] at H ⊢;clear hn hgM;have H0:Hid (fD (net.take 0) (x,s)=(x,s)/\bE ((bh net).take 0) (some (x.1.r,x.1.c))=some (x.1.r,x.1.c)/\OKD (x,s) x.1.r x.1.c):=⟨rfl,rfl,HOX.out,rfl,rfl,HSD.out⟩;intros
 go_loopw [57] (fun i wr=>∃ (j:Nat) (z:(Mx×Mx)×Int) (rr cc:Int) (PA:Option Addr) (pa:Nat) (PB:Option Addr) (pb:Nat) (Ca:Option Addr) (m k:Nat) (v:List Int),j<=n/\i= .int .i64 j/\m<=500*j/\Hid (fD (net.take j) (x,s)=z/\bE ((bh net).take j) (some (x.1.r,x.1.c))=some (rr,cc)/\OKD z rr cc)/\Hid (Hq w [qB gS 199 [.int .i64 z.2,.slice Ca m k],qO w.heap.size Ca m k v,qS w.heap.size PA pa PB pb z.1,qB gM 82 [.int .i64 z.1.1.r,.int .i64 z.1.1.c,.slice PA z.1.1.v.length pa,.int .i64 z.1.2.r,.int .i64 z.1.2.c,.slice PB z.1.2.v.length pb],qB (w.heap.size+1) 82 [.int .i64 0,.int .i64 0,.slice none 0 0,.int .i64 0,.int .i64 0,.slice none 0 0]] wr)) (fun i _=>n-(intOf i).toNat)
 case atStart=>exact ⟨0,(x,s),_,_,P,c1,Q,d1,none,0,0,[],Nat.zero_le _,rfl,by omega,H0,H⟩
 case round =>
 clear H0 H;obtain ⟨j,z,rr,cc,PA,pa,PB,pb,Ca,m,k,v,hj,rfl,hm,hz,H⟩:=hrel;have H:=H.out;have mw:=H.m
 by_cases hlt:j<n
 ·obtain ⟨l,hlj,hmem⟩:=aH (xs:=net) (j:=j) (by have:=HN.out;omega)
  obtain ⟨hz1,hz2,hz3⟩:=hz.out;have hlb:=(du HOK.out).2 l hmem;have hjl:(bh net)[j]?=some (df l):=by rw [eL HOK.out];exact jb hlj
  have hq:∃ r' c',dr (df l) (rr,cc)=some (r',c'):=by
   cases e:dr (df l) (rr,cc) with
   | none =>
    have h1:bE ((bh net).take (j+1)) (some (x.1.r,x.1.c))=none:=by rw [eh hjl,hz2];exact e
    have h2:=HFIT.out;rw [gJ h1] at h2
    cases h2
   | some rc=>exact ⟨rc.1,rc.2,rfl⟩
  obtain ⟨r',c',hq⟩:=hq;have HZ:Hid (fD (net.take (j+1)) (x,s)=jm l z/\bE ((bh net).take (j+1)) (some (x.1.r,x.1.c))=some (r',c')/\OKD (jm l z) r' c'):=⟨by rw [pF hlj,hz1],by rw [eh hjl,hz2];exact hq,qk hlb hz3 hq⟩
  obtain ⟨zz,hzz⟩:∃ zz,zz=jm l z:=⟨_,rfl⟩;rw [<- hzz] at HZ;have hfit:=sD hlb hz3 hq;rw [<- hzz] at hfit;have HOKD:=Lib.hid hz3;have HLJ:=Lib.hid hlj;have HFT:=Lib.hid hfit;obtain ⟨b,off,cs,Fx,rfl,hbl,hc,_,Aw,cw,rfl,hrw⟩:=HNT.out.cells hlj 2 rfl;have d0:wr.cell? ⟨b,off+j*2,none⟩=some (.int .i64 l.1):=(H.O.cell (p:=⟨b,off+j*2,none⟩) hbl).trans (hc 0 (by omega))
  have d1:wr.cell? ⟨b,off+j*2+1,none⟩=some (.slice Aw l.2.length cw):=(H.O.cell (p:=⟨b,off+j*2+1,none⟩) hbl).trans (hc 1 (by omega))
  have zb:b<wr.heap.size:=Nat.lt_of_lt_of_le hbl mw;have HRW:=Lib.hid hrw;have k0:(0:Int)<=(j:Int):=by omega
  have k1:(j:Int)<(n:Int):=by omega
  clear hc hrw hlj hmem hz hz1 hz2 hz3 hlb hjl hq hzz hfit;rcases HFT.out with ⟨a,bq,rfl,hf,hL⟩ | ⟨rfl,hL⟩ | ⟨a,bq,cq,rfl,hf,hL⟩
  ·have HL:=Lib.hid hL;obtain ⟨ab,ao,_,_,rfl,hab,_⟩:=HRW.out.at (i:=0) (x:=a) rfl;obtain ⟨EA1,ea1,EA2,ea2,he0,hr0⟩:=sm_at HRW.out (i:=0) (p:=a) rfl rfl;obtain ⟨EB1,eb1,EB2,eb2,he1,hr1⟩:=sm_at HRW.out (i:=1) (p:=bq) rfl rfl;simp only [Nat.zero_mul,Nat.add_zero,Nat.one_mul] at he0 he1;have HE0:=Lib.hid he0;have HE1:=Lib.hid he1;have HF:=Lib.hid hf;have HR0:=Lib.hid hr0;have HR1:=Lib.hid hr1;have HD:Hid (ec a bq z.1 z.2=zz):=hL.symm;clear hL hf hr0 hr1 he0 he1 HL;refine zN ?_;clear H;intro u41 H;have zab:=Nat.lt_of_lt_of_le hab H.m;intros;refine H.BM [wr.heap.size,gM,ab] (fun t=>t == 3) true ?_;clear H;intro S w42 hne H
   refine zD ((And.intro (H.c 0) (H.c 4))) ?_;intro G;obtain ⟨e00,e01,e02,e03,e04,e05⟩:=SMc.below HE0.out hab H.O;replace e00:=H.row e00;replace e01:=H.row e01;replace e02:=H.row e02;replace e03:=H.row e03;replace e04:=H.row e04;replace e05:=H.row e05;obtain ⟨e10,e11,e12,e13,e14,e15⟩:=SMc.below HE1.out hab H.O;replace e10:=H.row e10;replace e11:=H.row e11;replace e12:=H.row e12;replace e13:=H.row e13;replace e14:=H.row e14;replace e15:=H.row e15;have cg:w42.cell? ⟨gS,0,none⟩=some (.int .i64 z.2):=(H.k 1).cell 0;refine yL ?_;intros;refine y_ ((show Calls Tryz.prog 171 #[_,_,_,_] w42 (bo zz.1 zz.2 75 w42) from by rw [<- HD.out];exact mA HF.out.1 HF.out.2.1 HOKD.out.1 HF.out.2.2.1 HF.out.2.2.2.1 HF.out.2.2.2.2 HOKD.out.2.2.2 w42 (RS.below HR0.out H.O) (RS.below HR1.out H.O) (H.rs 3))) ?_
   rintro K hK e w43 ⟨A1,c1,B1',d1,D,m',e',y',rfl,h1,h2,h3,hmN,hb⟩;replace H:=H.so hb h1 h2 h3;clear cg h1 h2 h3;refine yK ?_;clear hK K;replace H:=((H.r 3).r 3);intros;refine y_ (nI w43 (H.k 0) ((H.o 1).mono (Nat.zero_le _)) (OS.si (Ow.P2 (H.p 2))) (by omega) (by omega)) ?_
   rintro K hK e w44 ⟨rfl,C1,k1,hq⟩;replace H:=H.stp hq (all_cons H.H.nst (all_cons H.H.nst (all_cons (H.H.nel hab) all_nil)));refine yK ?_;clear hK K hq;replace H:=(H.r 2).pP;refine nZ ?_;clear H;intro w45 H;replace H:=(((((((H.d 3).d 3).r 4).r 4).r 2).r 4).r 4);refine zC ?_;intro C;intros;go_wp2
   go_roundw
   case rel=>exact ⟨j+1,zz,_,_,A1,c1,B1',d1,C1,m+m',k1,_,by omega,by go_num,by omega,HZ,H⟩
   case measure=>simp [intOf];omega
  ·have HL:=Lib.hid hL;have HD:Hid (dv (fnv 2) z.1 z.2=zz):=hL.symm;clear hL HL;refine zC ?_;intro C;intros;go_wp2_with fail;refine zM ?_;clear H C;intro u41 H;replace H:=((H.r 2).r 2);refine zG ((show Calls Tryz.prog 172 #[_,_,_] u41 (jC zz.1 zz.2 25 gS Ca m u41) from by rw [<- HD.out];exact nD (by omega) HOKD.out.1 HOKD.out.2.2.2 u41 (H.k 0) ((H.o 1).mono (Nat.zero_le _)) (by omega) (H.rs 3))) ?_
   rintro e w99 ⟨A1,c1,B1',d1,C1,n1,k1,v1,rfl,hn1,hq⟩;replace H:=H.stp hq;clear hq;replace H:=((H.d 3).d 3);refine zC ?_;intro C;intros;go_wp2
   go_roundw
   case rel=>exact ⟨j+1,zz,_,_,A1,c1,B1',d1,C1,n1,k1,v1,by omega,by go_num,by omega,HZ,(Lib.hid hq)⟩
   case measure=>simp [intOf];omega
  ·have HL:=Lib.hid hL;obtain ⟨ab,ao,rfl,hab,hR3⟩:=Dx HRW.out;have HF:=Lib.hid hf;have HR3:=Lib.hid hR3;have HD:Hid (nR a bq cq z.1 z.2=zz):=hL.symm;clear hL hf hR3 HL;refine zC ?_;intro C;intros;go_wp2_with fail;refine zM ?_;clear H C;intro u41 H;refine zN ?_;clear H;intro u42 H;refine zG ((show Calls Tryz.prog 173 #[_,_,_] u42 (bo zz.1 zz.2 500 u42) from by rw [<- HD.out];exact oN (cap:=cw) HF.out.1 HF.out.2.1 HF.out.2.2.1 HOKD.out.1 HF.out.2.2.2.1 HF.out.2.2.2.2.1 HF.out.2.2.2.2.2.1 HF.out.2.2.2.2.2.2.1 HF.out.2.2.2.2.2.2.2.1 HF.out.2.2.2.2.2.2.2.2 HOKD.out.2.2.2 u42 (Nat.lt_of_lt_of_le hab H.m) (R3.below HR3.out hab H.O) (H.rs 3))) ?_
   rintro e w43 ⟨A1,c1,B1',d1,D,m',e',y',rfl,h1,h2,h3,hmN,hb⟩;replace H:=H.so hb h1 h2 h3;clear h1 h2 h3 hb;refine zN ?_;clear H;intro u44 H;replace H:=((H.r 3).r 3);refine zG (nI u44 (H.k 0) ((H.o 1).mono (Nat.zero_le _)) (OS.si (Ow.P2 (H.p 2))) (by omega) (by omega)) ?_
   rintro e w45 ⟨rfl,C1,k1,hq⟩;replace H:=H.stp hq;clear hq;replace H:=(H.r 2).pP;replace H:=(((((((H.d 3).d 3).r 4).r 4).r 2).r 4).r 4);refine zC ?_;intro C;intros;go_wp2
   go_roundw
   case rel=>exact ⟨j+1,zz,_,_,A1,c1,B1',d1,C1,m+m',k1,_,by omega,by go_num,by omega,HZ,(Lib.hid hq)⟩
   case measure=>simp [intOf];omega
 ·obtain rfl:j=n:=by omega
  obtain ⟨hz1,_⟩:=hz.out;rw [List.take_of_length_le (by have:=HN.out;omega)] at hz1
  have HZZ:=Lib.hid hz1;clear hz hz1;refine zN ?_;clear H;intro u61 H;refine zX (tg [gS,gM]) ?_;clear H;intro S w62 hne H;refine zD ((And.intro (H.c 0) (H.c 3))) ?_;intro G;refine yS ?_;clear H;intro w63 H;refine yN ?_;clear H G;intro u64 H;refine zS_ ?_;clear H;intro u65 H
  exact (by rw [HZZ.out];exact ⟨PA,pa,PB,pb,Ca,m,k,v,rfl,qS.a (H.p 2),qS.b (H.p 2),(H.o 1),H.O⟩)
end
section
attribute [local go_sem] af ah ae
theorem eF {T:TypeId} {s:Nat} {u:Value} {a b:List Value} {wi:World} {gj n c base:Nat} {pre:List Value} (h:VO wi base T s (some ⟨gj,0,none⟩) n c (pre++(a++u::b))) {i:Nat} (hi:i=pre.length+a.length):wi.cell? ⟨gj,i,none⟩=some u:=by
 have hl:=h.len;rw [h.cell i (by simp at hl;omega),hi,List.getElem?_append_right (by omega),Nat.add_sub_cancel_left,List.getElem?_append_right (Nat.le_refl _),Nat.sub_self]
 rfl
theorem gp {w:World} {T:TypeId} {s base n c gj j:Nat} {pre a b:List Value} {u:Value} (h:VO w base T s (some ⟨gj,0,none⟩) n c (pre++(a++u::b))) (hj:j=pre.length+a.length) (v:Value):VO (w.setCell ⟨gj,j,none⟩ v) base T s (some ⟨gj,0,none⟩) n c (pre++(a++v::b)):=by
 have:=h.store j v;subst hj;rw [List.set_append_right _ _ (by omega),Nat.add_sub_cancel_left,List.set_append_right _ _ (Nat.le_refl _),Nat.sub_self,List.set_cons_zero] at this
 exact this
theorem yC {w:World} {T:TypeId} {s base n c gj i:Nat} {pre b:List Value} {u0 u1 u2 u3 u4 u5:Value} (h:VO w base T s (some ⟨gj,0,none⟩) n c (pre++(u0::u1::u2::u3::u4::u5::b))) (hj:i=pre.length) (v0 v1 v2 v3 v4 v5:Value) :
  VO ((((((w.setCell ⟨gj,i,none⟩ v0).setCell ⟨gj,i+1,none⟩ v1).setCell ⟨gj,i+2,none⟩ v2).setCell ⟨gj,i+3,none⟩ v3).setCell ⟨gj,i+4,none⟩ v4).setCell ⟨gj,i+5,none⟩ v5) base T s (some ⟨gj,0,none⟩) n c (pre++(v0::v1::v2::v3::v4::v5::b)):=by
 have h0:=gp (a:=[]) (u:=u0) h (j:=i) (by simp [hj]) v0
 have h1:=gp (a:=[v0]) (u:=u1) (b:=u2::u3::u4::u5::b) (by simpa using h0) (j:=i+1) (by simp [hj]) v1
 have h2:=gp (a:=[v0,v1]) (u:=u2) (b:=u3::u4::u5::b) (by simpa using h1) (j:=i+2) (by simp [hj]) v2
 have h3:=gp (a:=[v0,v1,v2]) (u:=u3) (b:=u4::u5::b) (by simpa using h2) (j:=i+3) (by simp [hj]) v3
 have h4:=gp (a:=[v0,v1,v2,v3]) (u:=u4) (b:=u5::b) (by simpa using h3) (j:=i+4) (by simp [hj]) v4
 have h5:=gp (a:=[v0,v1,v2,v3,v4]) (u:=u5) (b:=b) (by simpa using h4) (j:=i+5) (by simp [hj]) v5
 simpa using h5
def FC {α:Type} (E:Elt α) (w:World) (base:Nat) (T:TypeId) (A:Option Addr) (n c:Nat) (css:List (List Value)) (rest:List Value) (xs:List α) (F:List Nat):Prop :=
 VO w base T E.s A n c (css.flatten++rest)/\dJ E w css xs F/\Fr w base F/\∀ g,blk A=some g->g∉F
theorem FC.step {α:Type} {E:Elt α} {w w':World} {base n c:Nat} {T:TypeId} {A:Option Addr} {css:List (List Value)} {xs:List α} {F F1:List Nat} {ys rest:List Value} {x:α} (hv:VO w' base T E.s A n c (css.flatten++(ys++rest))) (he:dJ E w css xs F) (hf:Fr w base F) (hg:∀ g,blk A=some g->g∉F) (hk:∀ g',g'∈F->w'.heap[g']?=w.heap[g']?)
  (hx:E.P w' ys x F1) (hf1:Fr w' base F1) (hd:∀ g',g'∈F1->g'∉F/\blk A≠some g'):FC E w' base T A n c (css++[ys]) rest (xs++[x]) (F++F1) :=
 ⟨by rw [List.flatten_append,List.append_assoc];simpa using hv,(he.au hk).push hx,(hf.au hk).app hf1 (fun g' h1 h2=>(hd g' h2).1 h1),fun g h hm=>(List.mem_append.1 hm).elim (hg g h) (fun h2=>(hd g h2).2 h)⟩
theorem FC.ox {α:Type} {E:Elt α} {w:World} {base n c:Nat} {T:TypeId} {A:Option Addr} {css:List (List Value)} {xs:List α} {F:List Nat} (h:FC E w base T A n c css [] xs F) (hn:xs.length=n):OX E w base T A n c css xs F:=⟨by have:=h.1;rwa [List.append_nil] at this,hn,h.2.1,h.2.2.1,h.2.2.2⟩
def vC (net:List SL) (s:Int) (w:World) (e:Ending) (w':World):Prop:=∃ A c css F,e= .returned (.agg #[.slice A net.length c,.int .i64 s])/\OX (kE smE) w' w.heap.size 99 A net.length c css net F/\Below w.heap.size w w'
def CJ (base:Nat) (w:World) (net:List SL) (css0:List (List Value)) (A:Option Addr) (n c:Nat) (wo:World) (j:Nat):Prop:=(∃ css F,FC (kE smE) wo base 99 A n c css (css0.drop j).flatten (net.take j) F)/\Below w.heap.size w wo
def CI (base gj n c:Nat) (kd:Int) (pre rest:List Value) (ms:List (Mx×Mx)) (cssW:List (List Value)) (A:Option Addr) (m cm:Nat) (wo wi:World) (k:Nat):Prop :=
 VO wi base 99 2 (some ⟨gj,0,none⟩) n c (pre++([.int .i64 kd] ++ .slice A m cm::rest))/\(∃ css F,FC smE wi wo.heap.size 82 A m cm css (cssW.drop k).flatten (ms.take k) F)/\aZ gj wo wi
theorem pf {css:List (List Value)} {j:Nat} {cs:List Value} (h:css[j]?=some cs):(css.drop j).flatten=cs++(css.drop (j+1)).flatten:=by
 obtain ⟨h1,h2⟩:=List.getElem?_eq_some_iff.1 h;rw [List.drop_eq_getElem_cons h1,List.flatten_cons,h2]
theorem kU {l:SL} (h:aL l.1 (l.2.map aq)=true):l.2.length<=3:=by
 rcases mV h with ⟨_,a,b,e,_⟩ | ⟨_,e⟩ | ⟨_,a,b,c,e,_⟩ <;> rw [e] <;> simp
theorem mW {l:SL} (h:aL l.1 (l.2.map aq)=true):∀ p,p∈l.2->okS p=true:=by
 intro p hp;rcases mV h with ⟨_,a,b,e,h1,h2,_⟩ | ⟨_,e⟩ | ⟨_,a,b,c,e,h1,h2,h3,_⟩ <;> rw [e] at hp <;> simp at hp
 ·rcases hp with rfl | rfl <;> assumption
 ·rcases hp with rfl | rfl | rfl <;> assumption
theorem bg {net:List SL} {s:Int} (hok:bu net=true) {A:Option Addr} {cap:Nat} {F:List Nat} (w:World) (hx:RI (kE smE) w A net.length cap net F) :
  Calls Tryz.prog 36 #[.agg #[.slice A net.length cap,.int .i64 s]] w (vC net s w):=by
 obtain ⟨n,hn⟩:∃ n,n=net.length:=⟨_,rfl⟩;have h4:n<=4:=by rw [hn];exact (du hok).1
 rw [<- hn] at hx ⊢;have HX:=Lib.hid hx;have HOK:=Lib.hid hok;have HN:=Lib.hid hn;clear hx hok hn
 go_enter Tryz.func36,Tryz.ntmps36
 go_wp2_with fail
 obtain ⟨uw1,hu⟩:∃ u,u=((w.alloc (.cells #[.slice A n cap,.int .i64 s] 25)).alloc (.cells #[.slice none 0 0,.int .i64 0] 25)):=⟨_,rfl⟩;rw [<- hu];have B1:Blk uw1 (w.heap.size) 25 #[.slice A n cap,.int .i64 s]:=Blk.cast hu ((Blk.iA (by first | omega | (simp;done) | (simp;omega))).alloc _)
 have B2:Blk uw1 (w.heap.size+1) 25 #[.slice none 0 0,.int .i64 0]:=Blk.cast hu (Blk.iA (by first | omega | (simp;done) | (simp;omega)))
 have O:Below w.heap.size w uw1:=Below.cast hu (((Below.refl _ _).alloc (by first | omega | (simp;done) | (simp;omega)) _).alloc (by first | omega | (simp;done) | (simp;omega)) _)
 have mw:=O.size;clear hu;have hub:=B2.lt;refine (uJ w uw1 HX.out O (by omega)).mono ?_
 rintro e w2 ⟨A1,c1,css0,F0,rfl,hvo,hel,hb⟩;have HVO:=Lib.hid hvo;have HEL:=Lib.hid hel;clear hvo hel;replace B1:=B1.aa hb;replace B2:=B2.aa hb;replace O:=O.trans (hb.mono mw);replace mw:=O.size;clear hb;obtain ⟨z1,c1_0,f1_0,c1_1,f1_1⟩:=B1.f2;obtain ⟨z2,c2_0,f2_0,c2_1,f2_1⟩:=B2.f2;clear z1 c1_0 f1_0 c1_1 f1_1 z2 c2_0 f2_0 c2_1 f2_1;have H0:Hid (CJ uw1.heap.size w net css0 A1 n c1 w2 0):=⟨⟨[],[],by simpa using HVO.out,rfl,Fr.nil _ _,fun _ _ h=>by cases h⟩,O⟩
 have HB1:=Lib.hid B1;have HB2:=Lib.hid B2;clear HVO B1 B2 O mw;go_wp2
 go_loopw [13] (fun i wr=>∃ j:Nat,j<=n/\i= .int .i64 j/\Hid (CJ uw1.heap.size w net css0 A1 n c1 wr j)/\Hid (Blk wr w.heap.size 25 #[.slice A n cap,.int .i64 s])/\Hid (Blk wr (w.heap.size+1) 25 #[.slice none 0 0,.int .i64 0])) (fun i _=>n-(intOf i).toNat)
 case atStart=>exact ⟨0,Nat.zero_le _,rfl,H0,HB1,HB2⟩
 case round =>
 clear H0 HB1 HB2;obtain ⟨j,hj,rfl,hcj,HB1,HB2⟩:=hrel;obtain ⟨wo,rfl⟩:∃ u:World,u=wr:=⟨_,rfl⟩;obtain ⟨⟨css,FO,hF⟩,hob⟩:=hcj.out;have HOB:=Lib.hid hob;clear hcj hob
 by_cases hlt:j<n
 ·obtain ⟨l,hlj,hmem⟩:=aH (xs:=net) (j:=j) (by have:=HN.out;omega)
  obtain ⟨cs,Fl,hcs,hFl,hP⟩:=HEL.out.at j l hlj;obtain ⟨Aw,cw,rfl,hrw⟩:=hP;have hm3:=kU ((du HOK.out).2 l hmem);have hokm:=mW ((du HOK.out).2 l hmem);obtain ⟨m,hm⟩:∃ m,m=l.2.length:=⟨_,rfl⟩;rw [<- hm] at hrw hm3;rw [pf hcs,<- hm] at hF;obtain ⟨g0,rfl,hg0,hg1⟩:=hF.1.pos (by omega)
  have hpl:css.flatten.length=j*2:=by
   rw [dS hF.2.1,List.length_take,Nat.min_eq_left (by have:=HN.out;omega)]
   rfl
  have hwo:w.heap.size<=wo.heap.size:=HOB.out.size;obtain ⟨pre,hpre⟩:∃ pre,pre=css.flatten:=⟨_,rfl⟩;obtain ⟨rest,hrest⟩:∃ rest,rest=(css0.drop (j+1)).flatten:=⟨_,rfl⟩;have hv:=hF.1;rw [<- hpre,<- hrest] at hv;rw [<- hpre] at hpl;have HPL:=Lib.hid hpl;have HPRE:=Lib.hid hpre;have HREST:=Lib.hid hrest;have HFO:=Lib.hid hF;have HV:=Lib.hid hv;have HRW:=Lib.hid hrw;have HM:=Lib.hid hm;have HLJ:=Lib.hid hlj;have HOKM:=Lib.hid hokm;have n1:=hv.gu HB1.out (by decide)
  have n2:=hv.gu HB2.out (by decide)
  have hn1:w.heap.size≠g0:=fun e=>n1 (by rw [e];rfl)
  have hn2:w.heap.size+1≠g0:=fun e=>n2 (by rw [e];rfl)
  have d0:wo.cell? ⟨g0,j*2,none⟩=some (.int .i64 l.1):=eF (a:=[]) hv (by rw [HPL.out];rfl)
  have d1:wo.cell? ⟨g0,j*2+1,none⟩=some (.slice Aw m cw):=eF (a:=[.int .i64 l.1]) hv (by rw [HPL.out];rfl)
  have k0:(0:Int)<=(j:Int):=by omega
  have k1:(j:Int)<(n:Int):=by omega
  clear hF hcs hFl hlj hmem hm hrw hpl hpre hrest hv hokm n1 n2
  go_wp2_with fail
  obtain ⟨u,hu⟩:∃ u,u=wo.alloc (.cells #[.int .i64 l.1,.slice Aw m cw] 99):=⟨_,rfl⟩;rw [<- hu];have hbu:Below wo.heap.size wo u:=Below.cast hu ((Below.refl _ _).alloc (Nat.le_refl _) _);clear hu;refine (uK w u HRW.out (HOB.out.trans (hbu.mono hwo)) (by omega)).mono ?_
  rintro e w5 ⟨A2,c2,cssW,FW,rfl,hvo2,hel2,hb2⟩;have hb5:Below wo.heap.size wo w5:=hbu.trans (hb2.mono hbu.size);have HEL2:=Lib.hid hel2;have hgl:g0<wo.heap.size:=hg1;have e0:w5.cell? ⟨g0,j*2+1,none⟩=some (.slice Aw m cw):=(hb5.cell (p:=⟨g0,j*2+1,none⟩) hgl).trans d1;have e1:w5.frozen? ⟨g0,j*2+1,none⟩=false:=(HV.out.below hb5).frozen _;have hv6:VO (w5.setCell ⟨g0,j*2+1,none⟩ (.slice A2 m c2)) uw1.heap.size 99 2 (some ⟨g0,0,none⟩) n c1 (pre++([.int .i64 l.1] ++ .slice A2 m c2::rest)):=gp (a:=[.int .i64 l.1]) (HV.out.below hb5) (by rw [HPL.out];rfl) _
  have e2:(w5.setCell ⟨g0,j*2+1,none⟩ (.slice A2 m c2)).cell? ⟨g0,j*2+1,none⟩=some (.slice A2 m c2):=eF (a:=[.int .i64 l.1]) hv6 (by rw [HPL.out];rfl)
  have J0:Hid (CI uw1.heap.size g0 n c1 l.1 pre rest l.2 cssW A2 m c2 wo (w5.setCell ⟨g0,j*2+1,none⟩ (.slice A2 m c2)) 0):=⟨hv6,⟨[],[],by simpa using (hvo2.mono hbu.size).lX (by dsimp only;omega) _,rfl,Fr.nil _ _,fun _ _ h=>by cases h⟩,((aZ.refl g0 wo).below hb5).setCell (.inl rfl) _⟩
  have zg5:g0<w5.heap.size:=Nat.lt_of_lt_of_le hgl hb5.size;clear hvo2 hel2 hb2 hbu hb5 hv6 d0 d1;go_wp2;clear e0 e1 e2 zg5
  go_loopw [31] (fun i wr=>∃ k:Nat,k<=m/\i= .int .i64 k/\Hid (CI uw1.heap.size g0 n c1 l.1 pre rest l.2 cssW A2 m c2 wo wr k)) (fun i _=>m-(intOf i).toNat)
  case atStart=>exact ⟨0,Nat.zero_le _,rfl,J0⟩
  case round =>
  clear J0;obtain ⟨k,hk,rfl,hci⟩:=hrel;obtain ⟨hV,⟨cssI,FI,hFI⟩,hOn⟩:=hci.out;have hsz:wo.heap.size<=wr.heap.size:=hOn.size;have HBW:Hid (Below w.heap.size w wr):=HOB.out.trans (hOn.toBelow (by omega) (by omega))
  have cj:wr.cell? ⟨g0,j*2+1,none⟩=some (.slice A2 m c2):=eF (a:=[.int .i64 l.1]) hV (by rw [HPL.out];rfl)
  have zgl:g0<wr.heap.size:=by omega
  have HV2:=Lib.hid hV;have HON:=Lib.hid hOn;clear hV hOn hci
  by_cases hkm:k<m
  ·obtain ⟨p,hpk,hpm⟩:=aH (xs:=l.2) (j:=k) (by have:=HM.out;omega)
   obtain ⟨cs,Fp,hcs,hFp,P1,q1,P2,q2,Fa,Fb,rfl,hp1,hp2,_⟩:=HEL2.out.at k p hpk;have hpo:=HOKM.out p hpm;have HMV:=Lib.hid (And.intro (ai hpo).1 (ai hpo).2.1);have hRS:=RS.mk (p:=p) hp1.1 hp1.2.1 hp1.2.2.1 hp2.1 hp2.2.1 hp2.2.2.1;have HRS:=Lib.hid (hRS.below HBW.out);rw [pf hcs] at hFI;obtain ⟨h2,rfl,hh0,hh1⟩:=hFI.1.pos (by omega)
   have hil:cssI.flatten.length=k*6:=by
    rw [dS hFI.2.1,List.length_take,Nat.min_eq_left (by have:=HM.out;omega)]
    rfl
   have HIL:=Lib.hid hil;have hvi:=hFI.1;have a0:wr.cell? ⟨h2,k*6,none⟩=some (.int .i64 p.1.r):=eF (a:=[]) hvi (by simp [HIL.out])
   have a1:wr.cell? ⟨h2,k*6+1,none⟩=some (.int .i64 p.1.c):=eF (a:=[.int .i64 p.1.r]) hvi (by simp [HIL.out])
   have a2:wr.cell? ⟨h2,k*6+2,none⟩=some (.slice P1 p.1.v.length q1):=eF (a:=[.int .i64 p.1.r,.int .i64 p.1.c]) hvi (by simp [HIL.out])
   have a3:wr.cell? ⟨h2,k*6+3,none⟩=some (.int .i64 p.2.r):=eF (a:=[.int .i64 p.1.r,.int .i64 p.1.c,.slice P1 p.1.v.length q1]) hvi (by simp [HIL.out])
   have a4:wr.cell? ⟨h2,k*6+4,none⟩=some (.int .i64 p.2.c):=eF (a:=[.int .i64 p.1.r,.int .i64 p.1.c,.slice P1 p.1.v.length q1,.int .i64 p.2.r]) hvi (by simp [HIL.out])
   have a5:wr.cell? ⟨h2,k*6+5,none⟩=some (.slice P2 p.2.v.length q2):=eF (a:=[.int .i64 p.1.r,.int .i64 p.1.c,.slice P1 p.1.v.length q1,.int .i64 p.2.r,.int .i64 p.2.c]) hvi (by simp [HIL.out])
   have HVI0:=Lib.hid hvi;have HFI:=Lib.hid hFI;have HPK:=Lib.hid hpk;have j0:(0:Int)<=(k:Int):=by omega
   have j1:(k:Int)<(m:Int):=by omega
   clear hcs hFp hp1 hp2 hpo hRS hFI hil hvi hpk hpm
   go_wp2_with fail
   obtain ⟨uw61,hu⟩:∃ u,u=(wr.alloc (.cells #[.int .i64 p.1.r,.int .i64 p.1.c,.slice P1 p.1.v.length q1,.int .i64 p.2.r,.int .i64 p.2.c,.slice P2 p.2.v.length q2] 82)):=⟨_,rfl⟩;rw [<- hu];have B31:Blk uw61 (wr.heap.size) 82 #[.int .i64 p.1.r,.int .i64 p.1.c,.slice P1 p.1.v.length q1,.int .i64 p.2.r,.int .i64 p.2.c,.slice P2 p.2.v.length q2]:=Blk.cast hu (Blk.iA (by first | omega | (simp;done) | (simp;omega)))
   have O:Below wr.heap.size wr uw61:=Below.cast hu ((Below.refl _ _).alloc (by first | omega | (simp;done) | (simp;omega)) _)
   have mw:=O.size;have zg2:=Nat.lt_of_lt_of_le zgl O.size;have cj2:=(O.cell (p:=⟨g0,j*2+1,none⟩) zgl).trans cj;clear hu;obtain ⟨S,KP,KQ,KA,KU,KC⟩:=BK (u:=uw61) [wr.heap.size,g0] (by intro i hi;simp only [List.mem_cons,List.not_mem_nil,or_false] at hi;rcases hi with rfl | rfl;exact B31.lt;exact zg2)
   have g31_0:∀ zw:Wd S,zw.w.cell? ⟨wr.heap.size,0,none⟩=some (.int .i64 p.1.r):=fun zw=>(KC.out zw _ (by simp) _).trans (B31.cell 0)
   have g31_1:∀ zw:Wd S,zw.w.cell? ⟨wr.heap.size,1,none⟩=some (.int .i64 p.1.c):=fun zw=>(KC.out zw _ (by simp) _).trans (B31.cell 1)
   have g31_2:∀ zw:Wd S,zw.w.cell? ⟨wr.heap.size,2,none⟩=some (.slice P1 p.1.v.length q1):=fun zw=>(KC.out zw _ (by simp) _).trans (B31.cell 2)
   have g31_3:∀ zw:Wd S,zw.w.cell? ⟨wr.heap.size,3,none⟩=some (.int .i64 p.2.r):=fun zw=>(KC.out zw _ (by simp) _).trans (B31.cell 3)
   have g31_4:∀ zw:Wd S,zw.w.cell? ⟨wr.heap.size,4,none⟩=some (.int .i64 p.2.c):=fun zw=>(KC.out zw _ (by simp) _).trans (B31.cell 4)
   have g31_5:∀ zw:Wd S,zw.w.cell? ⟨wr.heap.size,5,none⟩=some (.slice P2 p.2.v.length q2):=fun zw=>(KC.out zw _ (by simp) _).trans (B31.cell 5)
   have gg0:∀ zw:Wd S,zw.w.cell? ⟨g0,j*2+1,none⟩=some (.slice (some ⟨h2,0,none⟩) m c2):=fun zw=>(KC.out zw _ (by simp) _).trans cj2
   refine dZ noX true S (by kernel_rfl) (by kernel_rfl) (fun _=>by kernel_rfl) (KP.out _ (Below.refl _ _).drew) ?_
   intro hne;have hb:=(Below.refl uw61.heap.size uw61).drew;obtain ⟨w62,hd⟩:∃ u,u=uw61.drew:=⟨_,rfl⟩;rw [<- hd] at hb ⊢
   (try simp only [Nat.add_assoc,Nat.reduceAdd])
   clear hd;have hS:=Lib.hid (KP.out _ hb);replace B31:=B31.aa hb;replace O:=O.trans (hb.mono mw);replace mw:=O.size;clear hb
   repeat (first | (refine aF (by rfl) (by rfl) ?_;intro K hK;go_big_quiet_op;go_big_quiet_on) | (refine aG (by rfl) ?_))
   refine bj (by rfl) (by rfl) (fun K hK=> ?_)
   unfold Oper.gives
   go_simp
   refine (tZ (q:=p) (f:=63) (caps:=#[]) w62 (RS.below HRS.out O) (fun _ _=>by kernel_rfl) ⟨fun W v _ hv=>ep HMV.out.1 W hv,fun W v _ hv=>ep HMV.out.2 W hv⟩).mono ?_
   rintro e w63 ⟨X,Y,x1,y1,rfl,f1,f2,f3,hb⟩;replace hS:=Lib.hid (KU _ _ (fun _=>False) (UpL.eW hb) (fun _ _ e=>e) hS.out)
   refine ⟨_,rfl,hK _ _ ⟨⟨_,hS.out⟩,rfl⟩ ?_⟩;clear hK K;have G1:=f1.mono (base':=wr.heap.size) mw;have G2:=f2.mono (base':=wr.heap.size) mw;replace B31:=B31.aa hb;replace O:=O.trans (hb.mono mw);replace mw:=O.size;clear f1 f2;clear hb
   repeat (first | (refine aF (by rfl) (by rfl) ?_;intro K hK;go_big_quiet_op;go_big_quiet_on) | (refine aG (by rfl) ?_))
   have HVI:=HVI0.out.below O;have s0:w63.cell? ⟨h2,k*6,none⟩=some (.int .i64 p.1.r):=by first | exact eF (a:=[]) HVI (by simp [HIL.out])
   have s1:w63.cell? ⟨h2,k*6+1,none⟩=some (.int .i64 p.1.c):=by first | exact eF (a:=[.int .i64 p.1.r]) HVI (by simp [HIL.out])
   have s2:w63.cell? ⟨h2,k*6+2,none⟩=some (.slice P1 p.1.v.length q1):=by first | exact eF (a:=[.int .i64 p.1.r,.int .i64 p.1.c]) HVI (by simp [HIL.out])
   have s3:w63.cell? ⟨h2,k*6+3,none⟩=some (.int .i64 p.2.r):=by first | exact eF (a:=[.int .i64 p.1.r,.int .i64 p.1.c,.slice P1 p.1.v.length q1]) HVI (by simp [HIL.out])
   have s4:w63.cell? ⟨h2,k*6+4,none⟩=some (.int .i64 p.2.c):=by first | exact eF (a:=[.int .i64 p.1.r,.int .i64 p.1.c,.slice P1 p.1.v.length q1,.int .i64 p.2.r]) HVI (by simp [HIL.out])
   have s5:w63.cell? ⟨h2,k*6+5,none⟩=some (.slice P2 p.2.v.length q2):=by first | exact eF (a:=[.int .i64 p.1.r,.int .i64 p.1.c,.slice P1 p.1.v.length q1,.int .i64 p.2.r,.int .i64 p.2.c]) HVI (by simp [HIL.out])
   have t0:=HVI.frozen (k*6);have t1:=HVI.frozen (k*6+1);have t2:=HVI.frozen (k*6+2);have t3:=HVI.frozen (k*6+3);have t4:=HVI.frozen (k*6+4);have t5:=HVI.frozen (k*6+5);refine aV rfl (by rfl) (by rfl) (fun K hK=> ?_)
   unfold Oper.gives
   go_simp
   refine hK _ _ ?_;clear hK K s0 t0 s1 t1 s2 t2 s3 t3 s4 t4 s5 t5
   repeat (first | (refine aF (by rfl) (by rfl) ?_;intro K hK;go_big_quiet_op;go_big_quiet_on) | (refine aG (by rfl) ?_))
   refine aI ?_;clear hne KP KQ KA KU KC hS g31_0 g31_1 g31_2 g31_3 g31_4 g31_5;obtain ⟨uZ,hZ⟩:∃ u,u=((((((w63.setCell ⟨h2,k*6,none⟩ (.int .i64 p.1.r)).setCell ⟨h2,k*6+1,none⟩ (.int .i64 p.1.c)).setCell ⟨h2,k*6+2,none⟩ (.slice X p.1.v.length x1)).setCell ⟨h2,k*6+3,none⟩ (.int .i64 p.2.r)).setCell ⟨h2,k*6+4,none⟩ (.int .i64 p.2.c)).setCell ⟨h2,k*6+5,none⟩ (.slice Y p.2.v.length y1)):=⟨_,rfl⟩;rw [<- hZ];have hhb:uw1.heap.size<=h2:=by omega
   have hhg:g0≠h2:=by omega
   have V6:VO uZ wo.heap.size 82 6 (some ⟨h2,0,none⟩) m c2 (cssI.flatten++([.int .i64 p.1.r,.int .i64 p.1.c,.slice X p.1.v.length x1,.int .i64 p.2.r,.int .i64 p.2.c,.slice Y p.2.v.length y1]++(cssW.drop (k+1)).flatten)):=by rw [hZ];exact yC (HVI0.out.below O) HIL.out.symm _ _ _ _ _ _
   have VO6:VO uZ uw1.heap.size 99 2 (some ⟨g0,0,none⟩) n c1 (pre++([.int .i64 l.1] ++ .slice (some ⟨h2,0,none⟩) m c2::rest)):=by
    rw [hZ];have:=HV2.out.below O
    exact (((((this.far (by simpa [blk] using hhg) _).far (by simpa [blk] using hhg) _).far (by simpa [blk] using hhg) _).far (by simpa [blk] using hhg) _).far (by simpa [blk] using hhg) _).far (by simpa [blk] using hhg) _
   have On6:aZ h2 w63 uZ:=by rw [hZ];exact (aZ.refl _ _).s1.s1.s1.s1.s1.s1
   have ON6:aZ g0 wo uZ:=by
    rw [hZ]
    exact ((((((HON.out.below O).setCell (.inr hh0) _).setCell (.inr hh0) _).setCell (.inr hh0) _).setCell (.inr hh0) _).setCell (.inr hh0) _).setCell (.inr hh0) _
   have kg1:∀ g',g'∈fpI X p.1.v.length++fpI Y p.2.v.length->uZ.heap[g']?=w63.heap[g']?:=fun g' hg'=>On6.block g' (by rcases List.mem_append.1 hg' with h | h;exact (G1.aj _ (bz h).2).2;exact (G2.aj _ (bz h).2).2) (fun e=>by
    have e':h2=g':=by first | (injection e with e1;exact e1) | (injection e with e1;exact e1.symm)
    rcases List.mem_append.1 hg' with h | h
    ·have:=(G1.aj _ (bz h).2).1;omega
    ·have:=(G2.aj _ (bz h).2).1;omega)
   have hQ:smE.P uZ [.int .i64 p.1.r,.int .i64 p.1.c,.slice X p.1.v.length x1,.int .i64 p.2.r,.int .i64 p.2.c,.slice Y p.2.v.length y1] p (fpI X p.1.v.length++fpI Y p.2.v.length):=smE.au _ _ _ _ _ ⟨X,x1,Y,y1,_,_,rfl,MF.aB G1,MF.aB G2,rfl⟩ kg1;have hFR:Fr uZ wr.heap.size (fpI X p.1.v.length++fpI Y p.2.v.length):=Fr.au (Fr.app (ek G1) (ek G2) (fun g h1 h2=>f3 g (bz h1).2 (bz h2).2)) kg1
   have hst:=FC.step (E:=smE) (css:=cssI) (A:=some ⟨h2,0,none⟩) V6 HFI.out.2.1 HFI.out.2.2.1 HFI.out.2.2.2 (fun g' hg'=>(On6.block g' (Nat.lt_of_lt_of_le (HFI.out.2.1.lt g' hg') O.size) (fun e=>HFI.out.2.2.2 g' (by first | exact e | exact e.symm) hg')).trans (O.block g' (HFI.out.2.1.lt g' hg'))) hQ (hFR.mono hsz)
    (fun g' hg'=>⟨fun h=>by have:=HFI.out.2.1.lt g' h;have:=(hFR.2 g' hg').1;omega,fun h=>by have:=(hFR.2 g' hg').1;have e:h2=g':=(by simpa [blk] using h);omega⟩)
   rw [<- aW HPK.out] at hst;have KN:Hid (CI uw1.heap.size g0 n c1 l.1 pre rest l.2 cssW (some ⟨h2,0,none⟩) m c2 wo uZ (k+1)):=⟨VO6,⟨_,_,hst⟩,ON6⟩;clear hZ V6 VO6 On6 ON6 kg1 hQ hFR hst;go_wp2
   go_roundw
   case rel=>exact ⟨k+1,by omega,by go_num,KN⟩
   case measure=>simp [intOf];omega
  ·obtain rfl:k=m:=by omega
   have hcl:cssW.drop k=[]:=List.drop_eq_nil_of_le (by rw [HEL2.out.length,HM.out];exact Nat.le_refl _)
   rw [hcl,List.flatten_nil,List.take_of_length_le (by rw [HM.out];exact Nat.le_refl _)] at hFI
   obtain ⟨F2,hr2,hf2⟩:=(FC.ox hFI (HM.out ▸ rfl)).ri;have hQ:(kE smE).P wr [.int .i64 l.1,.slice A2 k c2] l F2:=⟨A2,c2,by rw [HM.out],by rw [<- HM.out];exact hr2⟩
   have K1:Hid (CJ uw1.heap.size w net css0 (some ⟨g0,0,none⟩) n c1 wr (j+1)):=by
    have hF:=HFO.out;have hfO:∀ g',g'∈FO->wr.heap[g']?=wo.heap[g']?:=fun g' hg'=>HON.out.block g' (hF.2.1.lt g' hg') (fun e=>hF.2.2.2 g' (by first | exact e | exact e.symm) hg')
    have hv5:=HV2.out;rw [HPRE.out,HREST.out] at hv5;have hst:=FC.step (E:=kE smE) (css:=css) (A:=some ⟨g0,0,none⟩) (ys:=[.int .i64 l.1,.slice A2 k c2]) hv5 hF.2.1 hF.2.2.1 hF.2.2.2 hfO hQ (hf2.mono (by omega))
     (fun g' hg'=>⟨fun h=>by have:=hF.2.1.lt g' h;have:=(hf2.2 g' hg').1;omega,fun h=>by have:=(hf2.2 g' hg').1;have e:g0=g':=(by simpa [blk] using h);omega⟩)
    rw [<- aW HLJ.out] at hst
    exact ⟨⟨_,_,hst⟩,HBW.out⟩
   have K2:=Lib.hid (HB1.out.only HON.out hn1);have K3:=Lib.hid (HB2.out.only HON.out hn2);clear hcl hFI hr2 hf2 hQ;go_wp2
   go_roundw
   case rel=>exact ⟨j+1,by omega,by go_num,K1,K2,K3⟩
   case measure=>simp [intOf];omega
 ·obtain rfl:j=n:=by omega
  have hcl:css0.drop j=[]:=List.drop_eq_nil_of_le (by rw [HEL.out.length,HN.out];exact Nat.le_refl _)
  rw [hcl,List.flatten_nil,List.take_of_length_le (by rw [HN.out];exact Nat.le_refl _)] at hF
  have HOX:=Lib.hid (FC.ox hF (HN.out ▸ rfl));have B1:=HB1.out;have B2:=HB2.out;have O:=HOB.out;have mw:=O.size;clear hcl hF HB1 HB2 HOB;obtain ⟨z1,c1_0,f1_0,c1_1,f1_1⟩:=B1.f2;obtain ⟨z2,c2_0,f2_0,c2_1,f2_1⟩:=B2.f2;go_wp2;have q1:w.heap.size<=w.heap.size+1:=by omega
  exact bodyPost_ret (v:= .agg #[.slice A1 j c1,.int .i64 s]) (by simp [results,Tryz.results36,go_sem,z1,c1_0,f1_0,c1_1,f1_1,z2,c2_0,f2_0,c2_1,f2_1,(by omega:¬ w.heap.size=w.heap.size+1),(by omega:¬ w.heap.size+1=w.heap.size)]) rfl ⟨A1,c1,css,FO,by rw [<- HN.out],by rw [<- HN.out];exact OX.mono ((HOX.out.lX (by dsimp only;omega) _).lX (by dsimp only;omega) _) (by omega),((O.setCell q1 _).setCell q1 _)⟩
end
end Go.Proofs.YtjciicheoghcdaaGreatDoor

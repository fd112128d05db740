/- Part of the proof of FnServiceAnswer. -/
import Derived.Test.YtjciicheoghcdaaGreatDoorUn
import Derived.Test.YtjciicheoghcdaaGreatDoorUv
namespace Go.Proofs.YtjciicheoghcdaaGreatDoor
open Go.RowKit Go.Proofs.Tryz
set_option linter.all false
set_option maxRecDepth 20000
set_option maxHeartbeats 16000000
section
attribute [local go_sem] af ah ae
theorem Hf {K:Int} (hK:1<=K/\K<=5) {m:Mx} (h:mvB m=true) {x:Value} (w:World) (hx:RM w x m):Calls prog 328 #[.int .i64 K,x] w (bD (mapM (fnv K) m) w):=by
 obtain⟨r1,c1,v1,rfl,r11,r12,c11,c12,l1,b1⟩:=nS h;obtain⟨A1,p1,rfl,hx0,hp1,hq1⟩:=hx
 dsimp only at hx0 hp1
 have hn1:0<v1.length:=by rw[l1];exact Nat.mul_pos r11 c11
 obtain⟨a1,o1,rfl,_,_⟩:=hx0.2 hn1;have hN:(r1:Int)*(c1:Int)=((v1.length:Nat):Int):=by rw[l1];push_cast;rfl
 have hn2:v1.length<=1048576:=by omega
 obtain⟨F,hF⟩:∃ F:Nat->Int,F=fun i=>fnv K (v1.getD i 0).toNat:=⟨_,rfl⟩
 have HMM:Hid (mapM (fnv K) ⟨(r1:Int),(c1:Int),v1⟩=⟨(r1:Int),(c1:Int),fl F v1.length⟩):=by rw[hF];rfl
 have HX:=Qh hx0;have HA:=Qh h;have HN:=Qh hN;have HFN:=Qh hF;have HK:=Qh hK;clear hx0 h l1 hN hF hK;refine zE ?_;intro u1 H;refine zP (aC HK.out u1) ?_;clear H;intro u2 H;refine zB (bP (m:=⟨(r1:Int),(c1:Int),v1⟩) HA.out u2 (SI.below HX.out H.O)) ?_;clear H;intro w3 u3 H;refine zG (di HN.out hn2 u3) ?_;rintro e w4 ⟨A,cG,rfl,hos,hb⟩;replace H:=H.os hb hos
 dsimp only at H ⊢
 rw[List.length_replicate] at H ⊢;obtain⟨g,rfl,hg0,hg1⟩:=OS.pos (H.o 0) hn1;refine zN ?_;clear H;intro u5 H;obtain⟨gT,hgT⟩:∃ g,g=w4.heap.size:=⟨_,rfl⟩;rw[<-hgT] at H ⊢;clear hgT;replace H:=((((H.r 3).r 3).r 2).r 3);intros
 go_loopw [25] (fun i wr=>∃ j:Nat,j<=v1.length/\i= .int .i64 j/\Hid (Hq w [qO w.heap.size (some ⟨g,0,none⟩) v1.length cG (fl (fun i=>if i<j then F i else 0) v1.length),qB gT 37 [.int .i64 (r1:Int),.int .i64 (c1:Int),.slice (some ⟨g,0,none⟩) v1.length cG],qB (w.heap.size+1) 37 [.int .i64 0,.int .i64 0,.slice none 0 0],qB w.heap.size 37 [.int .i64 (r1:Int),.int .i64 (c1:Int),.slice (some ⟨a1,o1,none⟩) v1.length p1]] wr)) (fun i _=>v1.length-(intOf i).toNat)
 case atStart=>exact⟨0,Nat.zero_le _,rfl,by rw[show fl (fun i=>if i<0 then F i else 0) v1.length=List.replicate v1.length 0 from by rw[<-j6];exact dT fun k _=>by simp];exact H⟩
 case round =>
 clear H;obtain⟨j,hj,rfl,H⟩:=hrel;have H:=H.out
 by_cases hlt:j<v1.length
 ·obtain⟨y0,y1⟩:=dE HA.out j
  dsimp only at y0 y1
  obtain⟨k,hk⟩:∃ k:Nat,(k:Int)=v1.getD j 0:=⟨(v1.getD j 0).toNat,by omega⟩
  have hk4:k<4096:=by omega
  have cx:=kR HX.out H.O Ql hlt;have hFj:F j=fnv K k:=by rw[HFN.out];show fnv K (v1.getD j 0).toNat=_;rw[<-hk,Int.toNat_natCast]
  rw[<-hk] at cx;have HST:Hid (fl (fun i=>if i<j+1 then F i else 0) v1.length=(fl (fun i=>if i<j then F i else 0) v1.length).set j (F j)):=pW hlt fun k _=>by
   by_cases h:k=j
   ·subst h;simp
   ·rw[if_neg h]
    by_cases h2:k<j
    ·rw[if_pos (by omega),if_pos h2]
    ·rw[if_neg (by omega),if_neg h2]
  obtain⟨fj,hfj⟩:∃ y,y=F j:=⟨_,rfl⟩;have HPA:Hid (∀ W:World,Calls prog 283 #[.int .i64 K,.int .i64 (k:Int)] W fun e w'=>e= .returned (.int .i64 fj)/\W=w'):=by rw[hfj,hFj];exact fun W=>p_ HK.out k hk4 W
  rw[<-hfj] at HST;have j0:(0:Int)<=(j:Int):=by omega
  have j1:(j:Int)<(v1.length:Int):=by omega
  clear hk hFj hfj y0 y1;refine zN ?_;clear H;intro u41 H;refine zXZ (tg [gT]) ?_;clear H;intro S w42 hne H;refine zD (H.c 1) ?_;intro G;refine yP (HPA.out w42) ?_;have D:=a7 (H.o 0) hlt;refine nY ?_;clear H D;intro u42 H;refine zC ?_;intro C;intros;go_wp2
  go_roundw
  case rel=>exact⟨j+1,by omega,by go_num,(by rw[HST.out];exact H)⟩
  case measure=>simp[intOf];omega
 ·obtain rfl:j=v1.length:=by omega
  rw[show fl (fun i=>if i<v1.length then F i else 0) v1.length=fl F v1.length from dT fun i hi=>by rw[if_pos hi]] at H
  refine zS_ ?_;clear H;intro u81 H
  exact(by rw[HMM.out];exact⟨some ⟨g,0,none⟩,cG,by dsimp only;rw[aD],by dsimp only;rw[aD];exact(H.o 0),H.O⟩)
theorem G4 {a b:Mx} (h:iz a b=true) {x y:Value} (w:World) (hx:RM w x a) (hy:RM w y b):Calls prog 327 #[x,y] w (bD (ct a b) w):=by
 obtain⟨XA,xa,rfl,x0,x1,x2⟩:=hx;obtain⟨YA,ya,rfl,y0,y1,y2⟩:=hy;have HX:=Qh (RM.mk x0 x1 x2);have HY:=Qh (RM.mk y0 y1 y2);have HM:=Qh h;have HV:=Qh (eV h).1;clear x0 x1 x2 y0 y1 y2 h;refine zE ?_;intro u1 H;refine zO (pg HM.out u1 (HX.out.below H.O) (HY.out.below H.O)) ?_;clear H;intro w2 A1 c1 u2 H;refine zO ((show Calls prog 328 #[_,_] u2 (bD (ct a b) u2) from Hf (by omega) HV.out u2 (RM.aB (H.o 0)))) ?_;clear H;intro w3 A2 c2 u3 H
 refine zS_ ?_;clear H;intro u4 H
 exact⟨A2,c2,rfl,(H.o 0),H.O⟩
theorem Iq {m:Mx} (h:mvB m=true) {c:Int} (hc:side c=true) {x:Value} (w:World) (hx:RM w x m):Calls prog 212 #[x,.int .i64 c] w (bD (rj m c) w):=by
 obtain⟨cs,rfl⟩:∃ cs:Nat,c=cs:=⟨c.toNat,(et hc).symm⟩
 exact lp h (by have:=bI hc;omega) w hx
theorem Io {a b:Mx} (h:dfB a b=true) (ha:a.v.length<=1048576) (hb:b.v.length<=1048576) {x y:Value} (w:World) (hx:RM w x a) (hy:RM w y b):Calls prog 147 #[x,y] w fun e w'=>e= .returned (.bool true)/\Below w.heap.size w w':=by
 obtain⟨A,c,rfl,h1,_⟩:=hx;obtain⟨B,d,rfl,h2,_⟩:=hy;have:=DK a.r a.c b.r b.c a.v b.v A B _ c _ d w h1 h2 ha hb
 rwa [show dfB ⟨a.r,a.c,a.v⟩ ⟨b.r,b.c,b.v⟩=true from h] at this
theorem Ie {a b x:Mx} (ha:mvB a=true) (hb:mvB b=true) (hz:mvB x=true) (hbc:b.c=1) (hbr:b.r=a.r) (hax:a.c=x.r) {va vb vx:Value} (w:World) (ra:RM w va a) (rb:RM w vb b) (rx:RM w vx x):Calls prog 325 #[va,vb,vx] w (bD (G5 a b x) w):=by
 obtain⟨XA,xa,rfl,a0,a1,a2⟩:=ra;obtain⟨YA,ya,rfl,b0,b1,b2⟩:=rb;obtain⟨ZA,za,rfl,x0,x1,x2⟩:=rx;have HX:=Qh (RM.mk a0 a1 a2);have HY:=Qh (RM.mk b0 b1 b2);have HZ:=Qh (RM.mk x0 x1 x2);have hM:=jd ha hz hax;have hs:=(aA hz).2;have HLK:Hid (az (ct a x) (rj b x.c)=true):=(Hb ha hb hz hbr hax).2.2.2;have HDF:Hid (dfB a b=true):=by unfold dfB Hid;rw[ha,hb,hbc,hbr];simp
 have HLA:Hid (a.v.length<=1048576):=by have:=(dy ha).2;unfold Hid;omega
 have HLB:Hid (b.v.length<=1048576):=by have:=(dy hb).2;unfold Hid;omega
 have HM:=Qh hM;have HSC:=Qh hs;have HBV:=Qh hb;have HZV:=Qh hz;have hne:(a.c != x.r)=false:=by rw[hax];simp
 clear a0 a1 a2 b0 b1 b2 x0 x1 x2 hM hs ha hb hz hbc hbr hax;refine zE ?_;intro u1 H;refine zB (Cz HZV.out u1 (HZ.out.below H.O)) ?_;clear H;intro w2 u2 H;refine zB (Io HDF.out HLA.out HLB.out u2 (HX.out.below H.O) (HY.out.below H.O)) ?_;clear H;intro w3 u3 H;refine zX (tg [w.heap.size+2,w.heap.size+1,w.heap.size]) ?_;clear H;intro S w4 hne H;refine zD ((And.intro (H.c 1) (And.intro (H.c 2) (H.c 3)))) ?_;intro G;refine yO (G4 HM.out w4 (HX.out.below H.O) (HZ.out.below H.O)) ?_;clear H;intro w5 A1 c1 H;refine yO (Iq HBV.out HSC.out w5 (HY.out.below H.O)) ?_;clear H;intro w6 A2 c2 H;refine yO (rp HLK.out w6 (RM.aB (H.o 1)) (RM.aB (H.o 0))) ?_;clear H;intro w7 A3 c3 H;refine yS ?_;clear H;intro w8 H;refine yN ?_;clear H G;intro u9 H;refine zS_ ?_;clear H;intro u10 H
 exact⟨A3,c3,rfl,(H.o 0),H.O⟩
theorem Ig {a b x:Mx} (ha:mvB a=true) (hb:mvB b=true) (hz:mvB x=true) (hbc:b.c=1) (hbr:b.r=a.r) (hax:a.c=x.r) {XA YA:Option Addr} {xa ya:Nat} {vx:Value} (w:World) (ra:RM w (MV a.r a.c XA a.v.length xa) a) (rb:RM w (MV b.r b.c YA b.v.length ya) b) (rx:RM w vx x):Calls prog 322 #[.agg #[.int .i64 a.r,.int .i64 a.c,.slice XA a.v.length xa,.int .i64 b.r,.int .i64 b.c,.slice YA b.v.length ya],vx] w (bD (G5 a b x) w):=by
 obtain⟨ZA,za,rfl,x0,x1,x2⟩:=rx;have HX:=Qh ra;have HY:=Qh rb;have HZ:=Qh (RM.mk x0 x1 x2);have HH:=Qh (And.intro ha (And.intro hb (And.intro hz (And.intro hbc (And.intro hbr hax)))));clear ra rb x0 x1 x2 ha hb hz hbc hbr hax;refine zE ?_;intro u1 H;refine zO (Ie HH.out.1 HH.out.2.1 HH.out.2.2.1 HH.out.2.2.2.1 HH.out.2.2.2.2.1 HH.out.2.2.2.2.2 u1 (HX.out.below H.O) (HY.out.below H.O) (HZ.out.below H.O)) ?_;clear H;intro w2 A1 c1 u2 H;refine zS_ ?_;clear H;intro u3 H
 exact⟨A1,c1,rfl,(H.o 0),H.O⟩
theorem Ip {x:Mx} (hz:mvB x=true) {vx:Value} (w:World) (rx:RM w vx x):Calls prog 330 #[.agg #[],vx] w (bD (mapM (fnv 2) x) w):=by
 obtain⟨ZA,za,rfl,x0,x1,x2⟩:=rx;have HZ:=Qh (RM.mk x0 x1 x2);have HV:=Qh hz;clear x0 x1 x2 hz;refine zE ?_;intro u1 H;refine zO (Hf (K:=2) (by omega) HV.out u1 (HZ.out.below H.O)) ?_;clear H;intro w2 A1 c1 u2 H
 refine zS_ ?_;clear H;intro u3 H
 exact⟨A1,c1,rfl,(H.o 0),H.O⟩
def Mc (w:World) (b o:Nat) (m:Mx) (A:Option Addr) (p:Nat):Prop:=w.cell? ⟨b,o,none⟩=some (.int .i64 m.r)/\w.cell? ⟨b,o+1,none⟩=some (.int .i64 m.c)/\w.cell? ⟨b,o+2,none⟩=some (.slice A m.v.length p)
theorem Mc.below {w w':World} {b o:Nat} {m:Mx} {A:Option Addr} {p:Nat} (h:Mc w b o m A p) (hb:b<w.heap.size) (O:Below w.heap.size w w'):Mc w' b o m A p:=⟨(O.cell (p:=⟨b,o,none⟩) hb).trans h.1,(O.cell (p:=⟨b,o+1,none⟩) hb).trans h.2.1,(O.cell (p:=⟨b,o+2,none⟩) hb).trans h.2.2⟩
theorem Hw {w:World} {g off n cap:Nat} {ms:List Mx} {F:List Nat} (h:RI mxE w (some ⟨g,off,none⟩) n cap ms F) {i:Nat} {m:Mx} (hi:ms[i]?=some m) (hn:i<n) {o:Nat} (ho:o=off+i*3):∃ A p,Mc w g o m A p/\RM w (MV m.r m.c A m.v.length p) m:=by
 obtain⟨b,off',cs,F1,e,hbl,hc,_,A,p,rfl,hp⟩:=h.cells (i:=i) (x:=m) hi 3 rfl;injection e with e;injection e with e1 e2;subst e1 e2 ho
 exact⟨A,p,⟨hc 0 (by omega),hc 1 (by omega),hc 2 (by omega)⟩,RM.mk hp.1 hp.2.1 hp.2.2.1⟩
theorem It {a b' c x:Mx} (ha:mvB a=true) (hb:mvB b'=true) (hc:mvB c=true) (hz:mvB x=true) (a1:a.r=a.c) (b1:b'.r=a.c) (b2:b'.c=a.c) (d1:c.r=a.c) (d2:c.c=a.c) (hxa:a.r=x.c) {b off cap:Nat} {F0:List Nat} {vx:Value} (w:World) (hr:RI mxE w (some ⟨b,off,none⟩) 3 cap [a,b',c] F0) (rx:RM w vx x):Calls prog 333 #[.agg #[.slice (some ⟨b,off,none⟩) 3 cap],vx] w (bD (G0 a b' c x) w):=by
 obtain⟨ZA,za,rfl,x0,x1,x2⟩:=rx;have HX:=Qh (RM.mk x0 x1 x2);obtain⟨P0,p0,hc0,hr0⟩:=Hw hr (i:=0) rfl (by omega) (o:=off) (by omega)
 obtain⟨P1,p1,hc1,hr1⟩:=Hw hr (i:=1) rfl (by omega) (o:=off+3) (by omega)
 obtain⟨P2,p2,hc2,hr2⟩:=Hw hr (i:=2) rfl (by omega) (o:=off+6) (by omega)
 have hbl:b<w.heap.size:=by
  obtain⟨b0,off0,_,_,e,hbl,_⟩:=hr.cells (i:=0) (x:=a) rfl 3 rfl;injection e with e;injection e with e1 e2;subst e1
  exact hbl
 have HC0:=Qh hc0;have HC1:=Qh hc1;have HC2:=Qh hc2;have HR0:=Qh hr0;have HR1:=Qh hr1;have HR2:=Qh hr2;have m0:=jd hz ha hxa.symm;have m1:=jd hz hb (by rw[b1,<-a1,hxa])
 have m2:=jd hz hc (by rw[d1,<-a1,hxa])
 obtain⟨Mq,hq⟩:∃ z,z=ct x a:=⟨_,rfl⟩;obtain⟨Mk,hk⟩:∃ z,z=ct x b':=⟨_,rfl⟩;obtain⟨Mv,hv⟩:∃ z,z=ct x c:=⟨_,rfl⟩;have oq:mvB Mq=true/\Mq.r=x.r/\Mq.c=a.c:=by rw[hq];exact ln m0
 have ok:mvB Mk=true/\Mk.r=x.r/\Mk.c=a.c:=by rw[hk];exact⟨(ln m1).1,(ln m1).2.1,(ln m1).2.2.trans b2⟩
 have ov:mvB Mv=true/\Mv.r=x.r/\Mv.c=a.c:=by rw[hv];exact⟨(ln m2).1,(ln m2).2.1,(ln m2).2.2.trans d2⟩
 have ot:=sG ok.1;have m3:=jd oq.1 ot.1 (by rw[oq.2.2,ot.2.1,ok.2.2])
 have ou:=ln m3;obtain⟨Mg,hg⟩:∃ z,z=mapM (fnv 4) (ct Mq (ir Mk)):=⟨_,rfl⟩;have og:mvB Mg=true/\Mg.r=x.r/\Mg.c=x.r:=by rw[hg];exact⟨mapM_ok (pX 4) ou.1,ou.2.1.trans oq.2.1,ou.2.2.trans (ot.2.2.trans ok.2.1)⟩
 have os:=sh og.1;obtain⟨Mm,hm⟩:∃ z,z=mapM (fnv 5) (il Mg):=⟨_,rfl⟩;have om:mvB Mm=true/\Mm.r=Mg.r/\Mm.c=1:=by rw[hm];exact⟨mapM_ok (pX 5) os.1,os.2.1,os.2.2⟩
 obtain⟨Mh,hh⟩:∃ z,z=mapM (fnv 1) (GC Mg Mm):=⟨_,rfl⟩;have oh:mvB Mh=true/\Mh.r=Mg.r/\Mh.c=Mg.c:=by rw[hh];exact⟨mapM_ok (pX 1) (GP Mm og.1),rfl,rfl⟩
 have m4:=jd oh.1 ov.1 (by rw[oh.2.2,og.2.2,ov.2.1])
 have HMM:Hid (G0 a b' c x=ct Mh Mv):=by show G0 a b' c x=_;unfold G0;rw[hh,hm,hg,hq,hk,hv]
 obtain⟨F,hF⟩:∃ F:Nat->Int,F=fun i=>fnv 1 ((Mg.v.getD i 0*Mm.v.getD (i/Mg.c.toNat) 0)%4096).toNat:=⟨_,rfl⟩
 have HHE:Hid (Mh=⟨Mg.r,Mg.c,fl F Mg.v.length⟩):=by
  show Mh=_
  rw[hh,hF];unfold mapM GC
  dsimp only
  rw[aD]
  congr 1
  exact Ib fun k hk=>by rw[Bx _ hk]
 obtain⟨lg,sg1,sg2,_⟩:=cZ og.1;obtain⟨lm,_,_,_⟩:=cZ om.1;have hn1:0<Mg.v.length:=(dy og.1).1;obtain⟨hm1,hm2⟩:=dy om.1;have hn2:Mg.v.length<=1048576:=by have:=(dy og.1).2;omega
 have HN:Hid (Mg.r*Mg.c=((Mg.v.length:Nat):Int)):=lg.symm;obtain⟨cs,hcs⟩:∃ cs:Nat,Mg.c=(cs:Int):=⟨Mg.c.toNat,(et sg2).symm⟩;have hcp:1<=cs:=by have:=bI sg2;omega
 have HLM:Hid (Mg.v.length=Mm.v.length*cs):=by
  rw[om.2.1,om.2.2,Int.mul_one] at lm;rw[<-lm,hcs] at lg
  show _=_
  exact_mod_cast lg
 have HCS:=Qh hcs;have HGV:=Qh og.1;have HMV:=Qh om.1;have HKV:=Qh ok.1;have HUV:=Qh ou.1;have HSV:=Qh os.1;have HM0:=Qh m0;have HM1:=Qh m1;have HM2:=Qh m2;have HM3:=Qh m3;have HM4:=Qh m4;have HQE:=Qh hq;have HKE:=Qh hk;have HVE:=Qh hv;have HGE:=Qh hg;have HME:=Qh hm;have HFN:=Qh hF;clear x0 x1 x2 hr hc0 hc1 hc2 hr0 hr1 hr2 ha hb hc hz a1 b1 b2 d1 d2 hxa m0 m1 m2 m3 m4 oq ok ov ot ou og os om oh hq hk hv hg hm hh hF lg sg1 sg2 lm hcs;refine zE ?_;intro u1 H;have zb:=Nat.lt_of_lt_of_le hbl H.m;have E:=H.el;refine zXF (tgF [w.heap.size+1,w.heap.size,b] 6 5 (.cells #[.int .i64 0,.int .i64 0,.slice none 0 0] 37)) ?_;clear H;intro S w2 hne H;refine zD ((And.intro (H.c 1) (H.c 2))) ?_;intro G;obtain⟨r0,r1,r2⟩:=Mc.below HC0.out hbl H.O;replace r0:=H.row r0;replace r1:=H.row r1;replace r2:=H.row r2;refine fO (fun w3 (hb:Bw w2 w3)=>(show Calls prog 327 #[_,_] w3 (bD Mq w3) from by rw[HQE.out];exact G4 HM0.out w3 (HX.out.below (H.b hb).O) (HR0.out.below (H.b hb).O))) ?_;clear H;intro w4 A0 c0 H
 refine yG ?_;clear H;intro w5 g5 hg5 H;refine yS ?_;clear H;intro w6 H;refine yN ?_;clear H G;intro u7 H;clear zb r0 r1 r2;have zb:=Nat.lt_of_lt_of_le hbl H.m;have E:=H.el;refine zXF (tgF [w.heap.size+1,w.heap.size,b] 6 6 (.cells #[.int .i64 0,.int .i64 0,.slice none 0 0] 37)) ?_;clear H;intro S w8 hne H;refine zD ((And.intro (H.c 3) (H.c 4))) ?_;intro G;obtain⟨r0,r1,r2⟩:=Mc.below HC1.out hbl H.O;replace r0:=H.row r0;replace r1:=H.row r1;replace r2:=H.row r2;refine fO (fun w9 (hb:Bw w8 w9)=>(show Calls prog 327 #[_,_] w9 (bD Mk w9) from by rw[HKE.out];exact G4 HM1.out w9 (HX.out.below (H.b hb).O) (HR1.out.below (H.b hb).O))) ?_;clear H;intro w10 A1 c1 H
 refine yG ?_;clear H;intro w11 g11 hg11 H;refine yS ?_;clear H;intro w12 H;refine yN ?_;clear H G;intro u13 H;clear zb r0 r1 r2;have zb:=Nat.lt_of_lt_of_le hbl H.m;have E:=H.el;refine zXF (tgF [w.heap.size+1,w.heap.size,b] 6 7 (.cells #[.int .i64 0,.int .i64 0,.slice none 0 0] 37)) ?_;clear H;intro S w14 hne H;refine zD ((And.intro (H.c 5) (H.c 6))) ?_;intro G;obtain⟨r0,r1,r2⟩:=Mc.below HC2.out hbl H.O;replace r0:=H.row r0;replace r1:=H.row r1;replace r2:=H.row r2;refine fO (fun w15 (hb:Bw w14 w15)=>(show Calls prog 327 #[_,_] w15 (bD Mv w15) from by rw[HVE.out];exact G4 HM2.out w15 (HX.out.below (H.b hb).O) (HR2.out.below (H.b hb).O))) ?_;clear H;intro w16 A2 c2 H
 refine yG ?_;clear H;intro w17 g17 hg17 H;refine yS ?_;clear H;intro w18 H;refine yN ?_;clear H G;intro u19 H;clear zb r0 r1 r2;replace H:=H.d 8;replace H:=H.d 7;have E:=H.el;refine zXF (tgF [g11,g5] 5 8 (.cells #[.int .i64 0,.int .i64 0,.slice none 0 0] 37)) ?_;clear H;intro S w20 hne H;refine zD ((And.intro (H.c 2) (H.c 4))) ?_;intro G;refine fO (fun w21 (hb:Bw w20 w21)=>iN HKV.out w21 (RM.aB ((H.b hb).o 3))) ?_;clear H;intro w22 AT cT H
 refine fO (fun w23 (hb:Bw w22 w23)=>G4 HM3.out w23 (RM.aB ((H.b hb).o 6)) (RM.aB ((H.b hb).o 0))) ?_;clear H;intro w24 AU cU H
 refine fO (fun w25 (hb:Bw w24 w25)=>(show Calls prog 328 #[_,_] w25 (bD Mg w25) from by rw[HGE.out];exact Hf (by omega) HUV.out w25 (RM.aB ((H.b hb).o 0)))) ?_;clear H;intro w26 A3 c3 H
 refine yG ?_;clear H;intro w27 g27 hg27 H;refine yS ?_;clear H;intro w28 H;refine yN ?_;clear H G;intro u29 H;replace H:=H.d 2;replace H:=H.d 2;replace H:=H.d 4;replace H:=H.d 4;replace H:=H.d 4;replace H:=H.d 4;refine zO (lZ HGV.out u29 (RM.aB (H.o 1))) ?_;clear H;intro w30 AS cS u30 H;refine zO ((show Calls prog 328 #[_,_] u30 (bD Mm u30) from by rw[HME.out];exact Hf (by omega) HSV.out u30 (RM.aB (H.o 0)))) ?_;clear H;intro w31 A4 c4 u31 H
 replace H:=H.d 2;refine zG (di HN.out hn2 u31) ?_;rintro e w32 ⟨A,cG,rfl,hos,hb⟩;replace H:=H.os hb hos
 dsimp only at H ⊢
 rw[List.length_replicate] at H ⊢;obtain⟨gF,rfl,hg0,hg1⟩:=OS.pos (H.o 0) hn1;refine zN ?_;clear H;intro u33 H;obtain⟨gg,rfl,_,_⟩:=OS.pos (H.o 5) hn1;obtain⟨gm,rfl,_,_⟩:=OS.pos (H.o 3) hm1;replace H:=(((((((((H.r 8).r 7).r 6).r 5).r 4).r 8).r 7).r 8).r 8);obtain⟨gT,hgx⟩:∃ x,x=w32.heap.size:=⟨_,rfl⟩;rw[<-hgx] at H ⊢;clear hgx;obtain⟨gM,hgx⟩:∃ x,x=w31.heap.size:=⟨_,rfl⟩;rw[<-hgx] at H ⊢;clear hgx;obtain⟨gG,hgx⟩:∃ x,x=g27:=⟨_,rfl⟩;rw[<-hgx] at H ⊢;clear hgx;obtain⟨gV,hgx⟩:∃ x,x=g17:=⟨_,rfl⟩;rw[<-hgx] at H ⊢;clear hgx;intros
 go_loopw [47] (fun i wr=>∃ j:Nat,j<=Mg.v.length/\i= .int .i64 j/\Hid (Hq w [qO w.heap.size (some ⟨gF,0,none⟩) Mg.v.length cG (fl (fun i=>if i<j then F i else 0) Mg.v.length),qO w.heap.size (some ⟨gg,0,none⟩) Mg.v.length c3 Mg.v,qO w.heap.size (some ⟨gm,0,none⟩) Mm.v.length c4 Mm.v,qO w.heap.size A2 Mv.v.length c2 Mv.v,qB gT 37 [.int .i64 Mg.r,.int .i64 Mg.c,.slice (some ⟨gF,0,none⟩) Mg.v.length cG],qB gM 37 [.int .i64 Mm.r,.int .i64 Mm.c,.slice (some ⟨gm,0,none⟩) Mm.v.length c4],qB gG 37 [.int .i64 Mg.r,.int .i64 Mg.c,.slice (some ⟨gg,0,none⟩) Mg.v.length c3],qB gV 37 [.int .i64 Mv.r,.int .i64 Mv.c,.slice A2 Mv.v.length c2],qB (w.heap.size+2) 37 [.int .i64 0,.int .i64 0,.slice none 0 0]] wr)) (fun i _=>Mg.v.length-(intOf i).toNat)
 case atStart=>exact⟨0,Nat.zero_le _,rfl,by rw[show fl (fun i=>if i<0 then F i else 0) Mg.v.length=List.replicate Mg.v.length 0 from by rw[<-j6];exact dT fun k _=>by simp];exact H⟩
 case round =>
 clear H;obtain⟨j,hj,rfl,H⟩:=hrel;have H:=H.out
 by_cases hlt:j<Mg.v.length
 ·obtain⟨y0,y1⟩:=dE HGV.out j;obtain⟨d,hd⟩:∃ d,d=j/cs:=⟨_,rfl⟩;have hd2:d<Mm.v.length:=by rw[hd];exact Nat.div_lt_of_lt_mul (by rw[Nat.mul_comm,<-HLM.out];exact hlt)
  obtain⟨t0,t1⟩:=dE HMV.out d;obtain⟨gk,hk⟩:∃ z,z=Mg.v.getD j 0:=⟨_,rfl⟩;obtain⟨y,hy⟩:∃ y,y=Mm.v.getD d 0:=⟨_,rfl⟩;rw[<-hk] at y0 y1;rw[<-hy] at t0 t1;obtain⟨p,hp⟩:∃ p:Nat,(p:Int)=(gk*y)%4096:=⟨((gk*y)%4096).toNat,by omega⟩
  have hp4:p<4096:=by omega
  have hct:Mg.c.toNat=cs:=by rw[HCS.out];rfl
  have hFj:F j=fnv 1 p:=by rw[HFN.out];dsimp only;rw[hct,<-hd,<-hk,<-hy,<-hp,Int.toNat_natCast]
  have hdq:(j:Int)/Mg.c=(d:Int):=by rw[HCS.out,hd];exact(Int.natCast_ediv j cs).symm
  have hdq2:Int.tdiv (j:Int) Mg.c=(d:Int):=by rw[Int.tdiv_eq_ediv_of_nonneg (by omega)];exact hdq
  have HST:Hid (fl (fun i=>if i<j+1 then F i else 0) Mg.v.length=(fl (fun i=>if i<j then F i else 0) Mg.v.length).set j (F j)):=pW hlt fun k _=>by
   by_cases h:k=j
   ·subst h;simp
   ·rw[if_neg h]
    by_cases h2:k<j
    ·rw[if_pos (by omega),if_pos h2]
    ·rw[if_neg (by omega),if_neg h2]
  obtain⟨fj,hfj⟩:∃ y,y=F j:=⟨_,rfl⟩;have HPA:Hid (∀ W:World,Calls prog 303 #[.int .i64 gk,.int .i64 y] W fun e w'=>e= .returned (.int .i64 (p:Int))/\W=w'):=by rw[hp];exact fun W=>by have h:=uN gk y W;rwa [show mulR gk y=(gk*y)%4096 from by simp[mulR,aR ⟨y0,y1⟩,aR ⟨t0,t1⟩]] at h
  have HPB:Hid (∀ W:World,Calls prog 297 #[.int .i64 (p:Int)] W fun e w'=>e= .returned (.int .i64 fj)/\W=w'):=by rw[hfj,hFj];exact fun W=>gy p hp4 W
  rw[<-hfj] at HST;have j0:(0:Int)<=(j:Int):=by omega
  have j1:(j:Int)<(Mg.v.length:Int):=by omega
  have e0:(0:Int)<=(d:Int):=by omega
  have e1:(d:Int)<(Mm.v.length:Int):=by omega
  have cs0:¬Mg.c=0:=by rw[HCS.out];omega
  have HGK:=Qh hk;have HYD:=Qh hy;clear hk hy hd hFj hfj hp hct y0 y1 t0 t1;have cx:=(a7 (H.o 1) hlt).2.1;rw[<-HGK.out] at cx;refine zN ?_;clear H;intro u61 H;have ezm:=(a7 (H.o 2) hd2).1;refine zXZ (tg [gT,gM,gG,gm]) ?_;clear H;intro S w62 hne H;refine zD ((And.intro (H.c 4) (And.intro (H.c 5) (H.c 6)))) ?_;intro G;have rm:=(a7 (H.o 2) hd2).2.1;rw[<-HYD.out] at rm;replace rm:=H.row rm;refine yP (HPA.out w62) ?_;refine yP (HPB.out w62) ?_;have D:=a7 (H.o 0) hlt;refine nY ?_;clear H D;intro u62 H;refine zC ?_;intro C;intros;go_wp2
  go_roundw
  case rel=>exact⟨j+1,by omega,by go_num,(by rw[HST.out];exact H)⟩
  case measure=>simp[intOf];omega
 ·obtain rfl:j=Mg.v.length:=by omega
  rw[show fl (fun i=>if i<Mg.v.length then F i else 0) Mg.v.length=fl F Mg.v.length from dT fun i hi=>by rw[if_pos hi]] at H
  refine zN ?_;clear H;intro u81 H;have HF2:OS u81 w.heap.size (some ⟨gF,0,none⟩) Mh.v.length cG Mh.v:=by have:=(H.o 0);rw[HHE.out];dsimp only;rw[aD];exact this
  have hlh:Mg.v.length=Mh.v.length:=by rw[HHE.out];dsimp only;rw[aD]
  have hrh:Mg.r=Mh.r:=by rw[HHE.out]
  have hch:Mg.c=Mh.c:=by rw[HHE.out]
  refine zO ((show Calls prog 327 #[.agg #[.int .i64 Mg.r,.int .i64 Mg.c,.slice (some ⟨gF,0,none⟩) Mg.v.length cG],_] u81 (bD (ct Mh Mv) u81) from by rw[hrh,hch,hlh];exact G4 HM4.out u81 (RM.aB HF2) (RM.aB (H.o 3)))) ?_;clear H;intro w82 A9 c9 u82 H
  refine zS_ ?_;clear H;intro u83 H
  exact(by rw[HMM.out];exact⟨A9,c9,rfl,(H.o 0),H.O⟩)
theorem H7 {net:List PL} (hv:tb net) {A:Option Addr} {cap:Nat} {F:List Nat} (hms:∀ l,l∈net->∀ m,m∈l.2->mS m) {m:Mx} (hm:mvB m=true) (hfit:(bE net (some (m.r,m.c))).isSome=false) {vx:Value} (w:World) (hx:RI (kE mxE) w A net.length cap net F) (rx:RM w vx m) :
  Calls prog 16 #[.slice A net.length cap,vx] w (bD (Gz net m) w):=by
 obtain⟨ZA,za,rfl,x0,x1,x2⟩:=rx;have HX:=Qh (RM.mk x0 x1 x2);have HMV:=Qh hm;have HR:=Qh (aA hm).1;have HC:=Qh (aA hm).2;have HV:=Qh hv;have HNX:=Qh hx;have HMS:=Qh hms;have HFIT:=Qh hfit;clear x0 x1 x2 hm hv hx hms hfit;refine zE ?_;intro u1 H;refine zB (Cz HMV.out u1 (HX.out.below H.O)) ?_;clear H;intro w2 u2 H;refine zG ((show Calls prog 61 #[_,_,_] u2 (NSd false u2) from by rw[<-HFIT.out];exact eo HV.out HR.out HC.out u2 (HNX.out.below H.O) HMS.out)) ?_
 rintro e w3 ⟨x0,y0,rfl,hb⟩;replace H:=H.b hb;refine zS_ ?_;clear H;intro u4 H
 exact(by rw[show Gz net m=Mx.z from by unfold Gz;rw[HFIT.out];rfl];exact⟨none,0,rfl,OS.nil _ _,H.O⟩)
theorem Hg {net:List PL} (hv:tb net) {A:Option Addr} {cap:Nat} {F:List Nat} (hms:∀ l,l∈net->∀ m,m∈l.2->mS m) {m:Mx} (hm:mvB m=true) (hfit:(bE net (some (m.r,m.c))).isSome=true) {vx:Value} (w:World) (hx:RI (kE mxE) w A net.length cap net F) (rx:RM w vx m) :
  Calls prog 16 #[.slice A net.length cap,vx] w (bD (Gz net m) w):=by
 obtain⟨ZA,za,rfl,x0,x1,x2⟩:=rx;have HX:=Qh (RM.mk x0 x1 x2);have HMV:=Qh hm;have HR:=Qh (aA hm).1;have HC:=Qh (aA hm).2;have HV:=Qh hv;have HNX:=Qh hx;have HMS:=Qh hms;have HFIT:=Qh hfit;clear x0 x1 x2 hm hv hx hms hfit;refine zE ?_;intro u1 H;refine zB (Cz HMV.out u1 (HX.out.below H.O)) ?_;clear H;intro w2 u2 H;refine zG ((show Calls prog 61 #[_,_,_] u2 (NSd true u2) from by rw[<-HFIT.out];exact eo HV.out HR.out HC.out u2 (HNX.out.below H.O) HMS.out)) ?_
 rintro e w3 ⟨x0,y0,rfl,hb⟩;replace H:=H.b hb;refine zN ?_;clear H;intro u4 H;refine zG (zq HV.out u4 (HNX.out.below H.O) HMS.out) ?_;rintro e w5 ⟨g,vs,rfl,hvo,hlr,hb⟩;replace H:=H.b hb;have HBL:=Qh hb;clear hb;have cX0:=(H.k 1).cell 0;have cX1:=(H.k 1).cell 1;have cX2:=(H.k 1).cell 2;have zX:=(H.k 1).lt;have HXN:=Qh (HX.out.below H.O);have HZ:=Qh H;obtain⟨n,hn⟩:∃ n,n=net.length:=⟨_,rfl⟩;rw[<-hn] at hvo hlr ⊢;have HVO:=Qh hvo;have HLR:=Qh hlr;have HGL:=Qh (hvo.aj _ rfl).2;have h4:n<=4:=by rw[hn];exact HV.out.1
 have HN:=Qh hn;clear H hvo hlr hn;have H:=Hq.start w5;refine zN ?_;clear H;intro u6 H;refine zO (ep HMV.out u6 (HXN.out.below H.O)) ?_;clear H;intro w7 P0 c0 u7 H;obtain⟨gM,hgM⟩:∃ x,x=w7.heap.size:=⟨_,rfl⟩;rw[<-hgM] at H ⊢;clear hgM;replace H:=(H.r 1);clear cX0 cX1 cX2 zX;intros
 go_loopw [39] (fun i wr=>∃ (j:Nat) (z:Mx) (P:Option Addr) (p:Nat),j<=n/\i= .int .i64 j/\Hid (runM (net.take j) m=z/\bE (net.take j) (some (m.r,m.c))=some (z.r,z.c)/\mvB z=true)/\Hid (Hq w5 [qO w5.heap.size P z.v.length p z.v,qB gM 37 [.int .i64 z.r,.int .i64 z.c,.slice P z.v.length p]] wr)) (fun i _=>n-(intOf i).toNat)
 case atStart=>exact⟨0,m,P0,c0,Nat.zero_le _,rfl,⟨rfl,rfl,HMV.out⟩,H⟩
 case round =>
 clear H;obtain⟨j,z,P,p,hj,rfl,hz,H⟩:=hrel;have H:=H.out
 by_cases hlt:j<n
 ·obtain⟨l,hlj,hmem⟩:=aH (xs:=net) (j:=j) (by have:=HN.out;omega)
  have hlen:=HLR.out.1;obtain⟨v,hvj,_⟩:=aH (xs:=vs) (j:=j) (by omega)
  have hlv:=HLR.out.2 j l v hlt hlj hvj;have hla:=HV.out.2 l hmem;have cv:=(H.O.cell (p:=⟨g,j,none⟩) HGL.out).trans ((HVO.out.cell j (by omega)).trans hvj)
  have zg:=Nat.lt_of_lt_of_le HGL.out H.m;obtain⟨hz1,hz2,hz3⟩:=hz.out;have hq:∃ rc',dr l (z.r,z.c)=some rc':=by
   have h1:=eh hlj (some (m.r,m.c));rw[hz2] at h1
   cases e:dr l (z.r,z.c) with
   | none =>
    have h2:=HFIT.out;rw[gJ (h1.trans e)] at h2
    cases h2
   | some rc=>exact⟨rc,rfl⟩
  obtain⟨rc',hq⟩:=hq;obtain⟨zz,hzz⟩:∃ zz,zz=GL l z:=⟨_,rfl⟩;have hzv:=Hd hla hz3 hq;rw[<-hzz] at hzv;have HZ1:Hid (runM (net.take (j+1)) m=zz/\bE (net.take (j+1)) (some (m.r,m.c))=some (zz.r,zz.c)/\mvB zz=true):=⟨by rw[Hk hlj,hz1,hzz],by rw[eh hlj,hz2,hzv.2.1,hzv.2.2];exact hq,hzv.1⟩
  have HZD:=Qh hzz;have HQ:=Qh hq;have HZV:=Qh hz3;clear hlj hmem hvj hlen hz hz1 hz2 hz3 hq hzz hzv;rcases hlv.cases hla with⟨a,b,A0,p0,A1,p1,rfl,hm,ra,rb,rfl⟩|⟨rfl,rfl⟩|⟨a,b,c',gm,om,cm,Fm,rfl,hm,hri,hgc,rfl⟩
  ·have hax:a.c=z.r:=by have h:=HQ.out;unfold dr at h;rw[if_pos rfl] at h;simp only[List.getD_cons_zero] at h;split at h;(rename_i h1;exact h1);cases h
   have HA:=Qh hax;have HM:=Qh hm;have RA:=Qh ra;have RB:=Qh rb;clear hax hm ra rb hlv hla;refine zN ?_;clear H;intro u41 H;refine zG ((show Calls prog 322 #[_,_] u41 (bD zz u41) from by rw[HZD.out,Hs];exact Ig HM.out.1 HM.out.2.1 HZV.out HM.out.2.2.1 HM.out.2.2.2 HA.out u41 (RA.out.below (HBL.out.trans (H.O.mono HBL.out.size))) (RB.out.below (HBL.out.trans (H.O.mono HBL.out.size))) (RM.aB (H.o 0)))) ?_
   rintro e w42 ⟨P1,p1',rfl,f1,hb⟩;replace H:=H.os hb f1;clear hb;replace H:=H.d 1;refine zC ?_;intro C;intros;go_wp2
   go_roundw
   case rel=>exact⟨j+1,zz,P1,p1',by omega,by go_num,HZ1,(Qh hq)⟩
   case measure=>simp[intOf];omega
  ·clear hlv hla;refine zN ?_;clear H;intro u41 H;refine zG ((show Calls prog 330 #[_,_] u41 (bD zz u41) from by rw[HZD.out,Ht];exact Ip HZV.out u41 (RM.aB (H.o 0)))) ?_
   rintro e w42 ⟨P1,p1',rfl,f1,hb⟩;replace H:=H.os hb f1;clear hb;replace H:=H.d 1;refine zC ?_;intro C;intros;go_wp2
   go_roundw
   case rel=>exact⟨j+1,zz,P1,p1',by omega,by go_num,HZ1,(Qh hq)⟩
   case measure=>simp[intOf];omega
  ·have hax:a.r=z.c:=by have h:=HQ.out;unfold dr at h;rw[if_neg (by simp),if_neg (by simp)] at h;simp only[List.getD_cons_zero] at h;split at h;(rename_i h1;exact h1);cases h
   have HA:=Qh hax;have HM:=Qh hm;have HRI:=Qh hri;clear hax hm hri hgc hlv hla;refine zN ?_;clear H;intro u41 H;refine zG ((show Calls prog 333 #[_,_] u41 (bD zz u41) from by rw[HZD.out,Hu];exact It HM.out.1 HM.out.2.1 HM.out.2.2.1 HZV.out HM.out.2.2.2.1 HM.out.2.2.2.2.1 HM.out.2.2.2.2.2.1 HM.out.2.2.2.2.2.2.1 HM.out.2.2.2.2.2.2.2 HA.out u41 (HRI.out.below (HBL.out.trans (H.O.mono HBL.out.size))) (RM.aB (H.o 0)))) ?_
   rintro e w42 ⟨P1,p1',rfl,f1,hb⟩;replace H:=H.os hb f1;clear hb;replace H:=H.d 1;refine zC ?_;intro C;intros;go_wp2
   go_roundw
   case rel=>exact⟨j+1,zz,P1,p1',by omega,by go_num,HZ1,(Qh hq)⟩
   case measure=>simp[intOf];omega
 ·obtain rfl:j=n:=by omega
  have hz1:=hz.out.1;rw[List.take_of_length_le (by have:=HN.out;omega)] at hz1
  have HZZ:=Qh hz1;replace H:=HZ.out.join H;clear hz hz1;refine zS_ ?_;clear H;intro u81 H
  exact(by rw[show Gz net m=z from by unfold Gz;rw[if_pos HFIT.out];exact HZZ.out];exact⟨P,p,rfl,(H.o 0),H.O⟩)
theorem Is {net:List PL} (hv:tb net) {A:Option Addr} {cap:Nat} {F:List Nat} (hms:∀ l,l∈net->∀ m,m∈l.2->mS m) {m:Mx} (hm:mvB m=true) {vx:Value} (w:World) (hx:RI (kE mxE) w A net.length cap net F) (rx:RM w vx m) :
  Calls prog 16 #[.slice A net.length cap,vx] w (bD (Gz net m) w):=by
 cases h:(bE net (some (m.r,m.c))).isSome
 ·exact H7 hv hms hm h w hx rx
 ·exact Hg hv hms hm h w hx rx
end
end Go.Proofs.YtjciicheoghcdaaGreatDoor

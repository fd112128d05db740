/- Part of the proof that the law FnExactServiceRun of the given program returns true for every input. -/
import Derived.BigQuiet
import Derived.Test.YtjciicheoghcdaaGreatDoorYd
import Derived.Test.YtjciicheoghcdaaGreatDoorYe
import Derived.Test.YtjciicheoghcdaaGreatDoorYg
import Derived.Test.YtjciicheoghcdaaGreatDoorYi
import Derived.Test.YtjciicheoghcdaaGreatDoorYm
import Derived.Test.YtjciicheoghcdaaGreatDoorYp
import Derived.Test.YtjciicheoghcdaaGreatDoorYs
namespace Go.Proofs.YtjciicheoghcdaaGreatDoor
open Go.RowKit
set_option linter.unusedSimpArgs false
set_option linter.unusedVariables false
set_option maxRecDepth 20000
set_option maxHeartbeats 16000000
section
attribute [local go_sem] af ah ae
def SMc (w:World) (b o:Nat) (p:Mx×Mx) (A:Option Addr) (c:Nat) (B:Option Addr) (d:Nat):Prop:=w.cell? ⟨b,o,none⟩=some (.int .i64 p.1.r)/\w.cell? ⟨b,o+1,none⟩=some (.int .i64 p.1.c)/\w.cell? ⟨b,o+2,none⟩=some (.slice A p.1.v.length c)/\w.cell? ⟨b,o+3,none⟩=some (.int .i64 p.2.r)/\w.cell? ⟨b,o+4,none⟩=some (.int .i64 p.2.c)/\w.cell? ⟨b,o+5,none⟩=some (.slice B p.2.v.length d)
theorem SMc.below {w w':World} {b o:Nat} {p:Mx×Mx} {A B:Option Addr} {c d:Nat} (h:SMc w b o p A c B d) (hb:b<w.heap.size) (O:Below w.heap.size w w'):SMc w' b o p A c B d :=
 ⟨(O.cell (p:=⟨b,o,none⟩) hb).trans h.1,(O.cell (p:=⟨b,o+1,none⟩) hb).trans h.2.1,(O.cell (p:=⟨b,o+2,none⟩) hb).trans h.2.2.1,(O.cell (p:=⟨b,o+3,none⟩) hb).trans h.2.2.2.1,(O.cell (p:=⟨b,o+4,none⟩) hb).trans h.2.2.2.2.1,(O.cell (p:=⟨b,o+5,none⟩) hb).trans h.2.2.2.2.2⟩
theorem sm_at {w:World} {A:Option Addr} {n cap:Nat} {xs:List (Mx×Mx)} {F:List Nat} (h:RI smE w A n cap xs F) {i:Nat} {p:Mx×Mx} (hx:xs[i]?=some p) {b off:Nat} (hA:A=some ⟨b,off,none⟩):∃ A1 c1 B1 d1,SMc w b (off+i*6) p A1 c1 B1 d1/\RS w (SMV p.1.r p.1.c A1 p.1.v.length c1 p.2.r p.2.c B1 p.2.v.length d1) p:=by
 obtain ⟨b',off',cs,F',hA',_,hc,_,hp⟩:=h.cells hx 6 rfl;rw [hA'] at hA;injection hA with hA;injection hA with e1 e2;subst e1 e2;obtain ⟨A1,c1,B1,d1,F1,F2,rfl,h1,h2,_⟩:=hp
 exact ⟨A1,c1,B1,d1,⟨hc 0 (by omega),hc 1 (by omega),hc 2 (by omega),hc 3 (by omega),hc 4 (by omega),hc 5 (by omega)⟩,A1,B1,c1,d1,rfl,h1.1,h1.2.1,h1.2.2.1,h2.1,h2.2.1,h2.2.2.1⟩
def R3 (w:World) (b o:Nat) (x y z:Mx×Mx):Prop:=∃ A1 a1 A2 a2 B1 b1 B2 b2 C1 c1 C2 c2,SMc w b o x A1 a1 A2 a2/\SMc w b (o+6) y B1 b1 B2 b2/\SMc w b (o+12) z C1 c1 C2 c2/\RS w (SMV x.1.r x.1.c A1 x.1.v.length a1 x.2.r x.2.c A2 x.2.v.length a2) x/\RS w (SMV y.1.r y.1.c B1 y.1.v.length b1 y.2.r y.2.c B2 y.2.v.length b2) y/\RS w (SMV z.1.r z.1.c C1 z.1.v.length c1 z.2.r z.2.c C2 z.2.v.length c2) z
theorem Dx {w:World} {A:Option Addr} {cap:Nat} {x y z:Mx×Mx} {F:List Nat} (h:RI smE w A 3 cap [x,y,z] F):∃ b o,A=some ⟨b,o,none⟩/\b<w.heap.size/\R3 w b o x y z:=by
 obtain ⟨b,off,cs,F',hA,hb,_⟩:=h.at (i:=0) (x:=x) rfl;obtain ⟨A1,a1,A2,a2,s1,t1⟩:=sm_at h (i:=0) (p:=x) rfl hA;obtain ⟨B1,b1,B2,b2,s2,t2⟩:=sm_at h (i:=1) (p:=y) rfl hA;obtain ⟨C1,c1,C2,c2,s3,t3⟩:=sm_at h (i:=2) (p:=z) rfl hA;rw [Nat.zero_mul,Nat.add_zero] at s1
 exact ⟨b,off,hA,hb,A1,a1,A2,a2,B1,b1,B2,b2,C1,c1,C2,c2,s1,s2,s3,t1,t2,t3⟩
theorem SMc.el {w:World} {b o:Nat} {p:Mx×Mx} {A B:Option Addr} {c d:Nat} (h:SMc w b o p A c B d) (hb:b<w.heap.size):∀ w',Below w.heap.size w w'->SMc w' b o p A c B d:=fun _ O=>h.below hb O
theorem nz {p:Mx×Mx} (hop:okS p=true) {x:Value} (w:World) (hx:RS w x p):Calls Tryz.prog 216 #[x] w (jW (jz p) w):=by
 obtain ⟨A,B,a,b,rfl,q1,q2,q3,q4,q5,q6⟩:=hx;have hX:=RS.mk q1 q2 q3 q4 q5 q6;clear q1 q2 q3 q4 q5 q6;have h1:=(ai hop).1;have h2:=(ai hop).2.1;have HOP:=Lib.hid hop;have HX:=Lib.hid hX;have H1:=Lib.hid h1;have H2:=Lib.hid h2;clear hop hX h1 h2;refine zE ?_;intro u1 H;refine zB (gC HOP.out u1 (RS.below HX.out H.O)) ?_;clear H;intro w2 u2 H;refine zW (mO (q:=jz p) 255 #[] (fun v=>#[v]) (fun _=>rfl) u2 (RS.below HX.out H.O) (fun _ _=>by kernel_rfl) (fun W v _ hv=>iN H1.out W hv) (fun W v _ hv=>iN H2.out W hv)) ?_;clear H;intro w3 P Q c1 d1 u3 H
 refine zS_ ?_;clear H;intro u4 H
 exact ⟨P,Q,c1,d1,rfl,qS.a (H.p 0),qS.b (H.p 0),H.O⟩
theorem ku {ma mb mc px:Mx×Mx} (ho0:okS ma=true) (ho1:okS mb=true) (ho2:okS mc=true) (hox:okS px=true) (ha1:ma.1.r=px.1.c) (ha2:ma.1.c=px.1.c) (hb1:mb.1.r=px.1.c) (hb2:mb.1.c=px.1.c) (hc1:mc.1.r=px.1.c) (hc2:mc.1.c=px.1.c)
  {bb off cap:Nat} {x:Value} (w:World) (hbl:bb<w.heap.size) (hR:R3 w bb off ma mb mc) (hx:RS w x px):Calls Tryz.prog 215 #[.slice (some ⟨bb,off,none⟩) 3 cap,x] w fun e w'=>e= .returned (.bool true)/\Below w.heap.size w w':=by
 obtain ⟨XA,XB,xa,xb,rfl,q1,q2,q3,q4,q5,q6⟩:=hx;have hX:=RS.mk q1 q2 q3 q4 q5 q6;clear q1 q2 q3 q4 q5 q6;obtain ⟨EA1,ea1,EA2,ea2,EB1,eb1,EB2,eb2,EC1,ec1,EC2,ec2,he0,he1,he2,hr0,hr1,hr2⟩:=hR;have n1:(ma.1.r != ma.1.c)=false:=by simp [ha1,ha2]
 have n2:(ma.1.c != px.1.c)=false:=by simp [ha2]
 have n3:(mb.1.r != mb.1.c)=false:=by simp [hb1,hb2]
 have n4:(mb.1.c != px.1.c)=false:=by simp [hb2]
 have n5:(mc.1.r != mc.1.c)=false:=by simp [hc1,hc2]
 have n6:(mc.1.c != px.1.c)=false:=by simp [hc2]
 clear ha1 ha2 hb1 hb2 hc1 hc2;have HO0:=Lib.hid ho0;have HO1:=Lib.hid ho1;have HO2:=Lib.hid ho2;have HOX:=Lib.hid hox;have HX:=Lib.hid hX;have HE0:=Lib.hid he0;have HE1:=Lib.hid he1;have HE2:=Lib.hid he2;have HR0:=Lib.hid hr0;have HR1:=Lib.hid hr1;have HR2:=Lib.hid hr2;clear ho0 ho1 ho2 hox hX he0 he1 he2 hr0 hr1 hr2;refine zE ?_;intro u1 H;refine zB (gC HOX.out u1 (RS.below HX.out H.O)) ?_;clear H;intro w2 u2 H;refine zC ?_;intro C;intros;go_wp2;refine wp_loop_rounds 4 ?_;rw [rounds_succ];clear C;obtain ⟨r0,r1,r2,r3,r4,r5⟩:=SMc.below HE0.out hbl H.O;have zbb:=Nat.lt_of_lt_of_le hbl H.m;refine zN ?_;clear H;intro u3 H;clear r0 r1 r2 r3 r4 r5 zbb;refine zG (gC HO0.out u3 (RS.below HR0.out H.O)) ?_;rintro e w4 ⟨rfl,hb⟩;replace H:=H.b hb;clear hb;refine zC ?_;intro C;intros
 go_wp2_with fail
 rw [rounds_succ];refine zM ?_;clear H C;intro u5 H;obtain ⟨r0,r1,r2,r3,r4,r5⟩:=SMc.below HE1.out hbl H.O;have zbb:=Nat.lt_of_lt_of_le hbl H.m;refine zN ?_;clear H;intro u6 H;clear r0 r1 r2 r3 r4 r5 zbb;refine zG (gC HO1.out u6 (RS.below HR1.out H.O)) ?_;rintro e w7 ⟨rfl,hb⟩;replace H:=H.b hb;clear hb;refine zC ?_;intro C;intros
 go_wp2_with fail
 rw [rounds_succ];refine zM ?_;clear H C;intro u8 H;obtain ⟨r0,r1,r2,r3,r4,r5⟩:=SMc.below HE2.out hbl H.O;have zbb:=Nat.lt_of_lt_of_le hbl H.m;refine zN ?_;clear H;intro u9 H;clear r0 r1 r2 r3 r4 r5 zbb;refine zG (gC HO2.out u9 (RS.below HR2.out H.O)) ?_;rintro e w10 ⟨rfl,hb⟩;replace H:=H.b hb;clear hb;refine zC ?_;intro C;intros
 go_wp2_with fail
 rw [rounds_succ];refine zM ?_;clear H C;intro u11 H;refine zR ?_;clear H;intro u12 H
 exact ⟨rfl,H.O⟩
end
section
attribute [local go_sem] af ah ae
theorem R3.below {w w':World} {b o:Nat} {x y z:Mx×Mx} (h:R3 w b o x y z) (hb:b<w.heap.size) (O:Below w.heap.size w w'):R3 w' b o x y z:=by
 obtain ⟨A1,a1,A2,a2,B1,b1,B2,b2,C1,c1,C2,c2,s1,s2,s3,t1,t2,t3⟩:=h
 exact ⟨A1,a1,A2,a2,B1,b1,B2,b2,C1,c1,C2,c2,s1.below hb O,s2.below hb O,s3.below hb O,t1.below O,t2.below O,t3.below O⟩
theorem oN {ma mb mc px:Mx×Mx} {s:Int} (ho0:okS ma=true) (ho1:okS mb=true) (ho2:okS mc=true) (hox:okS px=true) (ha1:ma.1.r=px.1.c) (ha2:ma.1.c=px.1.c) (hb1:mb.1.r=px.1.c) (hb2:mb.1.c=px.1.c) (hc1:mc.1.r=px.1.c) (hc2:mc.1.c=px.1.c) (hs:sdB s=true)
  {bb off cap:Nat} {x:Value} (w:World) (hbl:bb<w.heap.size) (hR:R3 w bb off ma mb mc) (hx:RS w x px):Calls Tryz.prog 173 #[.slice (some ⟨bb,off,none⟩) 3 cap,x,.int .i64 s] w (bo (nR ma mb mc px s).1 (nR ma mb mc px s).2 500 w):=by
 obtain ⟨XA,XB,xa,xb,rfl,q1,q2,q3,q4,q5,q6⟩:=hx;have hX:=RS.mk q1 q2 q3 q4 q5 q6;clear q1 q2 q3 q4 q5 q6;have hRR:=hR;obtain ⟨EA1,ea1,EA2,ea2,EB1,eb1,EB2,eb2,EC1,ec1,EC2,ec2,he0,he1,he2,hr0,hr1,hr2⟩:=hR;obtain ⟨z,hz⟩:∃ z,z=yc ma mb mc px s:=⟨_,rfl⟩;have R:=AB ma mb mc px s;rw [<- hz] at R;have V:=AD R ho0 ho1 ho2 hox ha1 ha2 hb1 hb2 hc1 hc2 hs;have hZZ:nR ma mb mc px s=z.o:=by rw [hz];rfl
 have tk:=kY V.k.1;have rw_:=n_ V.g.1;have hZq:z.q=eI px ma s:=R.q;have hZk:z.k=eI px mb z.q.2:=R.k;have hZv:z.v=eI px mc z.k.2:=R.v;have hZt:z.t=eI z.q.1 (jz z.k.1) z.v.2:=R.t;have hZg:z.g=dv (fnv 4) z.t.1 z.t.2:=R.g;have hZm:z.m=dv (fnv 5) (mi z.g.1) z.g.2:=R.m;have hZeh:z.h=dv (fnv 1) (c_ z.g.1 z.m.1 z.m.2).1 (c_ z.g.1 z.m.1 z.m.2).2:=by rw [R.h,R.e]
 have hZo:z.o=eI z.h.1 z.v.1 z.h.2:=R.o;have hTK:=tk.1;have hQT:z.q.1.1.c=(jz z.k.1).1.r:=by rw [V.q.2.2.1,tk.2.1,V.k.2.2.1]
 have hRW:=rw_.1;have hMR:z.m.1.1.r=z.g.1.1.r:=by rw [V.m.2.1,V.g.2.1]
 have hHV:z.h.1.1.c=z.v.1.1.r:=by rw [V.h.2.2.1,V.v.2.1]
 have hG1:=(ai V.g.1).1;have hG2:=(ai V.g.1).2.1;have hXY0:px.1.c=ma.1.r:=ha1.symm;have hXY1:px.1.c=mb.1.r:=hb1.symm;have hXY2:px.1.c=mc.1.r:=hc1.symm;have hV:=V;clear hz R V tk rw_;have HO0:=Lib.hid ho0;have HO1:=Lib.hid ho1;have HO2:=Lib.hid ho2;have HOX:=Lib.hid hox;have HX:=Lib.hid hX;have HE0:=Lib.hid he0;have HE1:=Lib.hid he1;have HE2:=Lib.hid he2;have HR0:=Lib.hid hr0;have HR1:=Lib.hid hr1;have HR2:=Lib.hid hr2;have HA1:=Lib.hid ha1;have HA2:=Lib.hid ha2;have HB1:=Lib.hid hb1;have HB2:=Lib.hid hb2;have HC1:=Lib.hid hc1;have HC2:=Lib.hid hc2;have HS:=Lib.hid hs;have HRR:=Lib.hid hRR;have HZZ:=Lib.hid hZZ;have HZq:=Lib.hid hZq;have HZk:=Lib.hid hZk;have HZv:=Lib.hid hZv;have HZt:=Lib.hid hZt;have HZg:=Lib.hid hZg;have HZm:=Lib.hid hZm;have HZeh:=Lib.hid hZeh;have HZo:=Lib.hid hZo;have HTK:=Lib.hid hTK;have HQT:=Lib.hid hQT;have HRW:=Lib.hid hRW;have HMR:=Lib.hid hMR;have HHV:=Lib.hid hHV;have HG1:=Lib.hid hG1;have HG2:=Lib.hid hG2;have HXY0:=Lib.hid hXY0;have HXY1:=Lib.hid hXY1;have HXY2:=Lib.hid hXY2;have HV:=Lib.hid hV;clear ho0 ho1 ho2 hox hX he0 he1 he2 hr0 hr1 hr2 ha1 ha2 hb1 hb2 hc1 hc2 hs hRR hZZ hZq hZk hZv hZt hZg hZm hZeh hZo hTK hQT hRW hMR hHV hG1 hG2 hXY0 hXY1 hXY2 hV;refine zE ?_;intro u1 H;refine zB (ku HO0.out HO1.out HO2.out HOX.out HA1.out HA2.out HB1.out HB2.out HC1.out HC2.out u1 (Nat.lt_of_lt_of_le hbl H.m) (R3.below HRR.out hbl H.O) (RS.below HX.out H.O)) ?_;clear H;intro w2 u2 H;refine zP (aU (dH HS.out) u2) ?_;clear H;intro u3 H;replace H:=H.nil;replace H:=(H.r 1);have zbb:=Nat.lt_of_lt_of_le hbl H.m;have zg:=(H.k 0).lt;have E0:=H.tl.tl.el;intros;refine H.lFG [w.heap.size,bb] noX false (tgF [w.heap.size,bb] 5 10 (.cells #[.int .i64 0,.int .i64 0,.slice none 0 0,.int .i64 0,.int .i64 0,.slice none 0 0] 82)) ?_;clear H;intro S w4 hne H;refine zD (H.c 3) ?_;intro G;obtain ⟨r0,r1,r2,r3,r4,r5⟩:=SMc.below HE0.out hbl H.O;replace r0:=H.row r0;replace r1:=H.row r1;replace r2:=H.row r2;replace r3:=H.row r3;replace r4:=H.row r4;replace r5:=H.row r5;intros;refine fU (fun w5 (hb:Bw w4 w5)=>(show Calls Tryz.prog 210 #[_,_,_] w5 (jC z.q.1 z.q.2 75 (u2.heap.size) none 0 w5) from by rw [HZq.out];exact dO HOX.out HO0.out HXY0.out HS.out w5 ((H.b hb).k 0) (OS.mono ((H.b hb).o 1) (Nat.zero_le _)) (by omega) (RS.below HX.out (H.b hb).O) (RS.below HR0.out (H.b hb).O))) ?_;clear H
 rintro w5 K hK H e w6 ⟨A1,c1,D1,d1,C1,n1,k1,v1,rfl,hn1,hq⟩;have hb:=hq.kb (B:=u3.heap.size) (t':=82) (ds:=#[.int .i64 0,.int .i64 0,.slice none 0 0,.int .i64 0,.int .i64 0,.slice none 0 0]) (H.k 0) (H.o 1);replace H:=H.stp hq (all_cons H.H.nst (all_cons (H.H.nel hbl) (all_nil)));refine fKU ?_;clear hK K hb hq;replace H:=((H.r 2).r 2);have E:=Elq.c (d:=qB (u2.heap.size) 199 [.int .i64 z.q.2,.slice C1 n1 k1]) (fun i (hi:i=u2.heap.size)=>by omega) E0
 refine yG ?_;clear H;intro w7 gZ1 hgZ1 H;refine yS ?_;clear H;intro w8 H;refine yN ?_;clear H G E E0 zg zbb r0 r1 r2 r3 r4 r5;intro u8 H;replace H:=((H.r 1).r 3);have zbb:=Nat.lt_of_lt_of_le hbl H.m;have zg:=(H.k 0).lt;have E0:=H.tl.tl.el;intros;refine H.lFG [w.heap.size,bb] noX false (tgF [w.heap.size,bb] 5 11 (.cells #[.int .i64 0,.int .i64 0,.slice none 0 0,.int .i64 0,.int .i64 0,.slice none 0 0] 82)) ?_;clear H;intro S w9 hne H;refine zD (H.c 5) ?_;intro G;obtain ⟨r0,r1,r2,r3,r4,r5⟩:=SMc.below HE1.out hbl H.O;replace r0:=H.row r0;replace r1:=H.row r1;replace r2:=H.row r2;replace r3:=H.row r3;replace r4:=H.row r4;replace r5:=H.row r5;intros;refine fU (fun w10 (hb:Bw w9 w10)=>(show Calls Tryz.prog 210 #[_,_,_] w10 (jC z.k.1 z.k.2 75 (u2.heap.size) C1 n1 w10) from by rw [HZk.out];exact dO HOX.out HO1.out HXY1.out HV.out.q.2.2.2 w10 ((H.b hb).k 0) (OS.mono ((H.b hb).o 1) (Nat.zero_le _)) (by omega) (RS.below HX.out (H.b hb).O) (RS.below HR1.out (H.b hb).O))) ?_;clear H
 rintro w10 K hK H e w11 ⟨A2,c2,D2,d2,C2,n2,k2,v2,rfl,hn2,hq⟩;have hb:=hq.kb (B:=u8.heap.size) (t':=82) (ds:=#[.int .i64 0,.int .i64 0,.slice none 0 0,.int .i64 0,.int .i64 0,.slice none 0 0]) (H.k 0) (H.o 1);replace H:=H.stp hq (all_cons H.H.nst (all_cons (H.H.nel hbl) (all_nil)));refine fKU ?_;clear hK K hb hq;replace H:=((H.r 2).r 2);have E:=Elq.c (d:=qB (u2.heap.size) 199 [.int .i64 z.k.2,.slice C2 n2 k2]) (fun i (hi:i=u2.heap.size)=>by omega) E0
 refine yG ?_;clear H;intro w12 gZ2 hgZ2 H;refine yS ?_;clear H;intro w13 H;refine yN ?_;clear H G E E0 zg zbb r0 r1 r2 r3 r4 r5;intro u13 H;replace H:=((H.r 1).r 3);have zbb:=Nat.lt_of_lt_of_le hbl H.m;have zg:=(H.k 0).lt;have E0:=H.tl.tl.el;intros;refine H.lFG [w.heap.size,bb] noX false (tgF [w.heap.size,bb] 5 12 (.cells #[.int .i64 0,.int .i64 0,.slice none 0 0,.int .i64 0,.int .i64 0,.slice none 0 0] 82)) ?_;clear H;intro S w14 hne H;refine zD (H.c 7) ?_;intro G;obtain ⟨r0,r1,r2,r3,r4,r5⟩:=SMc.below HE2.out hbl H.O;replace r0:=H.row r0;replace r1:=H.row r1;replace r2:=H.row r2;replace r3:=H.row r3;replace r4:=H.row r4;replace r5:=H.row r5;intros;refine fU (fun w15 (hb:Bw w14 w15)=>(show Calls Tryz.prog 210 #[_,_,_] w15 (jC z.v.1 z.v.2 75 (u2.heap.size) C2 n2 w15) from by rw [HZv.out];exact dO HOX.out HO2.out HXY2.out HV.out.k.2.2.2 w15 ((H.b hb).k 0) (OS.mono ((H.b hb).o 1) (Nat.zero_le _)) (by omega) (RS.below HX.out (H.b hb).O) (RS.below HR2.out (H.b hb).O))) ?_;clear H
 rintro w15 K hK H e w16 ⟨A3,c3,D3,d3,C3,n3,k3,v3,rfl,hn3,hq⟩;have hb:=hq.kb (B:=u13.heap.size) (t':=82) (ds:=#[.int .i64 0,.int .i64 0,.slice none 0 0,.int .i64 0,.int .i64 0,.slice none 0 0]) (H.k 0) (H.o 1);replace H:=H.stp hq (all_cons H.H.nst (all_cons (H.H.nel hbl) (all_nil)));refine fKU ?_;clear hK K hb hq;replace H:=((H.r 2).r 2);have E:=Elq.c (d:=qB (u2.heap.size) 199 [.int .i64 z.v.2,.slice C3 n3 k3]) (fun i (hi:i=u2.heap.size)=>by omega) E0
 refine yG ?_;clear H;intro w17 gZ3 hgZ3 H;refine yS ?_;clear H;intro w18 H;refine yN ?_;clear H G E E0 zg zbb r0 r1 r2 r3 r4 r5;intro u18 H;replace H:=((H.r 1).r 3);have zg:=(H.k 0).lt;have E0:=H.tl.tl.el;intros;refine H.lFG [gZ1,gZ2] noX false (tgF [gZ1,gZ2] 4 13 (.cells #[.int .i64 0,.int .i64 0,.slice none 0 0,.int .i64 0,.int .i64 0,.slice none 0 0] 82)) ?_;clear H;intro S w19 hne H;refine zD (And.intro (H.c 6) (H.c 4)) ?_;intro G;intros;refine f_ (fun w20 (hb:Bw w19 w20)=>nz HV.out.k.1 w20 ((H.b hb).rs 5)) ?_;clear H
 rintro w20 K hK H e w21 ⟨T1,T2,t1,t2,rfl,f1,f2,hb⟩;replace H:=H.ss hb f1 f2;refine fK ?_;clear hK K hb f1 f2;replace H:=((H.r 2).r 2);intros;refine fU (fun w22 (hb:Bw w21 w22)=>(show Calls Tryz.prog 210 #[_,_,_] w22 (jC z.t.1 z.t.2 75 (u2.heap.size) C3 n3 w22) from by rw [HZt.out];exact dO HV.out.q.1 HTK.out HQT.out HV.out.v.2.2.2 w22 ((H.b hb).k 0) (OS.mono ((H.b hb).o 1) (Nat.zero_le _)) (by omega) ((H.b hb).rs 8) ((H.b hb).rs 2))) ?_;clear H
 rintro w22 K hK H e w23 ⟨A4,c4,D4,d4,C4,n4,k4,v4,rfl,hn4,hq⟩;have hb:=hq.kb (B:=u18.heap.size) (t':=82) (ds:=#[.int .i64 0,.int .i64 0,.slice none 0 0,.int .i64 0,.int .i64 0,.slice none 0 0]) (H.k 0) (H.o 1);replace H:=H.stp hq (all_cons H.H.nst (all_cons H.H.nst (all_nil)));refine fKU ?_;clear hK K hb hq;replace H:=H.d 3;replace H:=((H.r 2).r 2);have E:=Elq.c (d:=qB (u2.heap.size) 199 [.int .i64 z.t.2,.slice C4 n4 k4]) (fun i (hi:i=u2.heap.size)=>by omega) E0
 refine yG ?_;clear H;intro w24 gZ4 hgZ4 H;refine yS ?_;clear H;intro w25 H;refine yN ?_;clear H G E E0 zg;intro u25 H;replace H:=H.d 8;replace H:=H.d 6;replace H:=H.d 7;replace H:=H.d 6;replace H:=H.d 7;replace H:=((H.r 1).r 3);refine zG ((show Calls Tryz.prog 172 #[_,_,_] u25 (jC z.g.1 z.g.2 25 (u2.heap.size) C4 n4 u25) from by rw [HZg.out];exact nD (by omega) HV.out.t.1 HV.out.t.2.2.2 u25 (H.k 0) ((H.o 1).mono (Nat.zero_le _)) (by omega) (H.rs 3))) ?_
 rintro e w26 ⟨A5,c5,D5,d5,C5,n5,k5,v5,rfl,hn5,hq⟩;replace H:=H.stp hq;clear hq;replace H:=H.d 4;replace H:=H.d 3;refine zN ?_;clear H;intro u27 H;refine zW (mO (q:=mi z.g.1) 217 #[] (fun v=>#[v]) (fun _=>rfl) u27 (H.rs 3) (fun _ _=>by kernel_rfl) (fun W v _ hv=>lZ HG1.out W hv) (fun W v _ hv=>lZ HG2.out W hv)) ?_;clear H;intro w28 T1 T2 t1 t2 u28 H
 replace H:=((H.r 3).r 3);refine zG ((show Calls Tryz.prog 172 #[_,_,_] u28 (jC z.m.1 z.m.2 25 (u2.heap.size) C5 n5 u28) from by rw [HZm.out];exact nD (by omega) HRW.out HV.out.g.2.2.2 u28 (H.k 0) ((H.o 1).mono (Nat.zero_le _)) (by omega) (H.rs 2))) ?_
 rintro e w29 ⟨A6,c6,D6,d6,C6,n6,k6,v6,rfl,hn6,hq⟩;replace H:=H.stp hq;clear hq;replace H:=H.d 3;refine zN ?_;clear H;intro u30 H;replace H:=((H.r 2).r 2);refine zG ((show Calls Tryz.prog 218 #[_,_,_] u30 (jC z.h.1 z.h.2 75 (u2.heap.size) C6 n6 u30) from by rw [HZeh.out];exact sX HV.out.g.1 HV.out.m.1 HMR.out HV.out.m.2.2.1 HV.out.m.2.2.2 u30 (H.k 0) ((H.o 1).mono (Nat.zero_le _)) (by omega) (H.rs 5) (H.rs 3))) ?_
 rintro e w31 ⟨A7,c7,D7,d7,C7,n7,k7,v7,rfl,hn7,hq⟩;replace H:=H.stp hq;clear hq;replace H:=H.d 6;replace H:=H.d 4;replace H:=H.d 4;replace H:=H.d 3;refine zN ?_;clear H;intro u32 H;replace H:=((H.r 2).r 2);refine zG ((show Calls Tryz.prog 210 #[_,_,_] u32 (jC z.o.1 z.o.2 75 (u2.heap.size) C7 n7 u32) from by rw [HZo.out];exact dO HV.out.h.1 HV.out.v.1 HHV.out HV.out.h.2.2.2 u32 (H.k 0) ((H.o 1).mono (Nat.zero_le _)) (by omega) (H.rs 3) (H.rs 5))) ?_
 rintro e w33 ⟨A8,c8,D8,d8,C8,n8,k8,v8,rfl,hn8,hq⟩;replace H:=H.stp hq;clear hq;refine zN ?_;clear H;intro u34 H;refine zX (tg [w33.heap.size,u2.heap.size]) ?_;clear H;intro S w35 hne H;refine zD ((And.intro (H.c 0) (H.c 1))) ?_;intro G;refine yS ?_;clear H;intro w36 H;refine yN ?_;clear H G;intro u37 H;refine zS_ ?_;clear H;intro u38 H
 exact (by rw [HZZ.out];exact ⟨A8,c8,D8,d8,C8,n8,k8,v8,rfl,qS.a (H.p 3),qS.b (H.p 3),(H.o 2),by omega,H.O⟩)
end
section
attribute [local go_sem] af ah ae
theorem Below.drewN {B:Nat} {w0 w:World} (h:Below B w0 w) (n:Nat):Below B w0 (w.drewN n):=⟨h.os,h.tape,h.output,h.size,h.block⟩
theorem jq (a b r c:Int) (x2 x3 x4 x5:Value) (w:World):Calls Tryz.prog 323 #[.agg #[.int .i64 a,.int .i64 b,x2,x3,x4,x5],.int .i64 r,.int .i64 c] w fun e w'=>e= .returned (.tuple #[.int .i64 a,.int .i64 c,.bool (b == r)])/\Below w.heap.size w w':=by
 go_enter Tryz.func323,Tryz.ntmps323
 go_wp2_with fail
 obtain ⟨uw1,hu⟩:∃ u,u=(w.alloc (.cells #[.int .i64 a,.int .i64 b,x2,x3,x4,x5] 178)):=⟨_,rfl⟩;rw [<- hu];have B1:Blk uw1 (w.heap.size) 178 #[.int .i64 a,.int .i64 b,x2,x3,x4,x5]:=Blk.cast hu (Blk.iA (by first | omega | (simp;done) | (simp;omega)))
 have O:Below w.heap.size w uw1:=Below.cast hu ((Below.refl _ _).alloc (by first | omega | (simp;done) | (simp;omega)) _)
 have mw:=O.size;clear hu;obtain ⟨z1,c1_0,f1_0,c1_1,f1_1,c1_2,f1_2,c1_3,f1_3,c1_4,f1_4,c1_5,f1_5⟩:=B1.f6
 go_quiet (fail)
 go_wp2
 exact bodyPost_ret (v:= .tuple #[.int .i64 a,.int .i64 c,.bool (b == r)]) (by simp [results,Tryz.results323,go_sem,z1,c1_0,f1_0,c1_1,f1_1,c1_2,f1_2,c1_3,f1_3,c1_4,f1_4,c1_5,f1_5]) rfl ⟨rfl,Below.drewN O nq⟩
theorem kj (r c:Int) (w:World):Calls Tryz.prog 331 #[.agg #[],.int .i64 r,.int .i64 c] w fun e w'=>e= .returned (.tuple #[.int .i64 r,.int .i64 c,.bool true])/\Below w.heap.size w w':=by
 go_enter Tryz.func331,Tryz.ntmps331
 go_wp2
 exact bodyPost_ret (v:= .tuple #[.int .i64 r,.int .i64 c,.bool true]) (by simp [results,Tryz.results331,go_sem,]) rfl ⟨rfl,((Below.refl _ _).alloc (by first | omega | (simp;done) | (simp;omega)) _)⟩
theorem DL {b off cap:Nat} (q r c:Int) (w:World) (hb:b<w.heap.size) (h0:w.cell? ⟨b,off,none⟩=some (.int .i64 q)):Calls Tryz.prog 334 #[.agg #[.slice (some ⟨b,off,none⟩) 3 cap],.int .i64 r,.int .i64 c] w fun e w'=>e= .returned (.tuple #[.int .i64 r,.int .i64 c,.bool (q == c)])/\Below w.heap.size w w':=by
 go_enter Tryz.func334,Tryz.ntmps334
 go_wp2_with fail
 obtain ⟨uw1,hu⟩:∃ u,u=(w.alloc (.cells #[.slice (some ⟨b,off,none⟩) 3 cap] 183)):=⟨_,rfl⟩;rw [<- hu];have B1:Blk uw1 (w.heap.size) 183 #[.slice (some ⟨b,off,none⟩) 3 cap]:=Blk.cast hu (Blk.iA (by first | omega | (simp;done) | (simp;omega)))
 have O:Below w.heap.size w uw1:=Below.cast hu ((Below.refl _ _).alloc (by first | omega | (simp;done) | (simp;omega)) _)
 have mw:=O.size;have d0:=(O.cell (p:=⟨b,off,none⟩) hb).trans h0;have zb:=Nat.lt_of_lt_of_le hb O.size;clear hu;obtain ⟨z1,c1_0,f1_0⟩:=B1.f1
 go_quiet (fail)
 go_wp2
 exact bodyPost_ret (v:= .tuple #[.int .i64 r,.int .i64 c,.bool (q == c)]) (by simp [results,Tryz.results334,go_sem,z1,c1_0,f1_0]) rfl ⟨rfl,Below.drewN O nq⟩
end
abbrev PL:=Int×List Mx
abbrev SL:=Int×List (Mx×Mx)
def dr (l:PL) (rc:Int×Int):Option (Int×Int):=if l.1=1 then (if (l.2.getD 0 Mx.z).c=rc.1 then some ((l.2.getD 0 Mx.z).r,rc.2) else none) else if l.1=2 then some rc else if (l.2.getD 0 Mx.z).r=rc.2 then some rc else none
def bE (net:List PL) (o:Option (Int×Int)):Option (Int×Int):=net.foldl (fun o l=>o.bind (dr l)) o
theorem lP:∀ net,bE net none=none
 | []=>rfl
 | _::ls=>lP ls
theorem eh {net:List PL} {j:Nat} {l:PL} (h:net[j]?=some l) (o:Option (Int×Int)):bE (net.take (j+1)) o=(bE (net.take j) o).bind (dr l):=by
 rw [aW h]
 simp [bE,List.foldl_append]
theorem gJ {net:List PL} {j:Nat} {o:Option (Int×Int)} (h:bE (net.take j) o=none):bE net o=none:=by
 rw [<- List.take_append_drop j net];unfold bE at h ⊢;rw [List.foldl_append,h]
 exact lP _
def tb (net:List PL):Prop:=net.length<=4/\∀ l,l∈net->aL l.1 l.2=true
theorem eM {l:PL} (h:aL l.1 l.2=true):(l.1=1/\∃ a b,l.2=[a,b]/\mvB a=true/\mvB b=true/\b.c=1/\b.r=a.r)\/(l.1=2/\l.2=[])\/(l.1=3/\∃ a b c,l.2=[a,b,c]/\mvB a=true/\mvB b=true/\mvB c=true/\a.r=a.c/\b.r=a.c/\b.c=a.c/\c.r=a.c/\c.c=a.c):=by
 obtain ⟨k,ms⟩:=l;unfold aL at h
 dsimp only at h ⊢
 split at h
 ·rename_i h1
  left
  refine ⟨h1,?_⟩
  match ms,h with
  | [a,b],h =>
   simp only [dfB,Bool.and_eq_true,List.getD_cons_zero,List.getD_cons_succ,decide_eq_true_eq] at h
   exact ⟨a,b,rfl,by simp_all,by simp_all,by simp_all,by simp_all⟩
  | [],h=>simp at h
  | [a],h=>simp at h
  | _::_::_::_,h=>simp at h
 ·split at h
  ·rename_i h1
   right;left
   refine ⟨h1,?_⟩
   match ms,h with
   | [],_=>rfl
   | _::_,h=>simp at h
  ·split at h
   ·rename_i h1
    right;right
    refine ⟨h1,?_⟩
    match ms,h with
    | [a,b,c],h =>
     simp [jN,bS] at h
     refine ⟨a,b,c,rfl,?_⟩
     simp_all
    | [],h=>simp at h
    | [a],h=>simp at h
    | [a,b],h=>simp at h
    | _::_::_::_::_,h=>simp at h
   ·cases h
theorem uy {l:PL} (h:aL l.1 l.2=true) {rc rc':Int×Int} (h1:side rc.1=true) (h2:side rc.2=true) (e:dr l rc=some rc'):side rc'.1=true/\side rc'.2=true:=by
 unfold dr at e;rcases eM h with ⟨k,a,b,hl,va,_⟩ | ⟨k,hl⟩ | ⟨k,a,b,c,hl,va,_⟩
 ·rw [if_pos k,hl] at e
  split at e
  ·injection e with e;subst e
   exact ⟨(aA va).1,h2⟩
  ·cases e
 ·rw [if_neg (by omega),if_pos k] at e
  injection e with e;subst e
  exact ⟨h1,h2⟩
 ·rw [if_neg (by omega),if_neg (by omega)] at e
  split at e
  ·injection e with e;subst e
   exact ⟨h1,h2⟩
  ·cases e
def SMz:Mx×Mx:=(Mx.z,Mx.z)
def jm (l:SL) (z:(Mx×Mx)×Int):(Mx×Mx)×Int:=if l.1=1 then ec (l.2.getD 0 SMz) (l.2.getD 1 SMz) z.1 z.2 else if l.1=2 then dv (fnv 2) z.1 z.2 else nR (l.2.getD 0 SMz) (l.2.getD 1 SMz) (l.2.getD 2 SMz) z.1 z.2
def fD (net:List SL) (z:(Mx×Mx)×Int):(Mx×Mx)×Int:=net.foldl (fun z l=>jm l z) z
theorem pF {net:List SL} {j:Nat} {l:SL} (h:net[j]?=some l) (z:(Mx×Mx)×Int):fD (net.take (j+1)) z=jm l (fD (net.take j) z):=by
 rw [aW h]
 simp [fD,List.foldl_append]
theorem ky {p:Mx×Mx} (h:mvB (aq p)=true):okS p=true:=by
 cases hk:okS p
 ·have e:aq p=Mx.z:=ib hk;rw [e] at h
  exact absurd h (by decide)
 ·rfl
theorem mV {l:SL} (h:aL l.1 (l.2.map aq)=true):(l.1=1/\∃ a b,l.2=[a,b]/\okS a=true/\okS b=true/\b.1.c=1/\b.1.r=a.1.r)\/(l.1=2/\l.2=[])\/(l.1=3/\∃ a b c,l.2=[a,b,c]/\okS a=true/\okS b=true/\okS c=true/\a.1.r=a.1.c/\b.1.r=a.1.c/\b.1.c=a.1.c/\c.1.r=a.1.c/\c.1.c=a.1.c):=by
 obtain ⟨k,ms⟩:=l;rcases eM (l:=(k,ms.map aq)) h with ⟨hk,a,b,hl,va,vb,h1,h2⟩ | ⟨hk,hl⟩ | ⟨hk,a,b,c,hl,va,vb,vc,h1,h2,h3,h4,h5⟩
 ·left
  match ms,hl with
  | [p,q],hl =>
   simp only [List.map_cons,List.map_nil,List.cons.injEq,and_true] at hl;obtain ⟨rfl,rfl⟩:=hl;have a:=ky va;have b:=ky vb
   exact ⟨hk,p,q,rfl,a,b,(aN b).2.2.symm.trans h1,(aN b).2.1.symm.trans (h2.trans (aN a).2.1)⟩
  | [],hl=>cases hl
  | [_],hl=>simp at hl
  | _::_::_::_,hl=>simp at hl
 ·right;left
  exact ⟨hk,List.map_eq_nil_iff.1 hl⟩
 ·right;right
  match ms,hl with
  | [p,q,r],hl =>
   simp only [List.map_cons,List.map_nil,List.cons.injEq,and_true] at hl;obtain ⟨rfl,rfl,rfl⟩:=hl;have a:=ky va;have b:=ky vb;have c:=ky vc;rw [(aN a).2.1,(aN a).2.2] at h1;rw [(aN b).2.1,(aN a).2.2] at h2;rw [(aN b).2.2,(aN a).2.2] at h3;rw [(aN c).2.1,(aN a).2.2] at h4;rw [(aN c).2.2,(aN a).2.2] at h5
   exact ⟨hk,p,q,r,rfl,a,b,c,h1,h2,h3,h4,h5⟩
  | [],hl=>cases hl
  | [_],hl=>simp at hl
  | [_,_],hl=>simp at hl
  | _::_::_::_::_,hl=>simp at hl
theorem qk {l:SL} (h:aL l.1 (l.2.map aq)=true) {z:(Mx×Mx)×Int} {r c:Int} (hz:OKD z r c) {rc':Int×Int} (e:dr (df l) (r,c)=some rc'):OKD (jm l z) rc'.1 rc'.2:=by
 obtain ⟨h1,h2,h3,h4⟩:=hz;unfold dr df at e;unfold jm;rcases mV h with ⟨k,a,b,hl,oa,ob,hb1,hb2⟩ | ⟨k,hl⟩ | ⟨k,p,q,t,hl,oa,ob,oc,x1,x2,x3,x4,x5⟩
 ·rw [if_pos k,hl]
  dsimp only at e
  rw [if_pos k,hl] at e;simp only [List.map_cons,List.getD_cons_zero] at e
  split at e
  ·rename_i hc
   injection e with e;subst e;rw [(aN oa).2.2] at hc;obtain ⟨d1,d2,d3,d4⟩:=uI oa ob h1 (by rw [hc,h2]) hb2 h4
   exact ⟨d1,d2.trans (aN oa).2.1.symm,d3.trans h3,d4⟩
  ·cases e
 ·dsimp only at e
  rw [if_neg (by omega),if_pos k] at e ⊢
  injection e with e;subst e;obtain ⟨d1,d2,d3,d4⟩:=ja (fnv 2) h1 h4
  exact ⟨d1,d2.trans h2,d3.trans h3,d4⟩
 ·dsimp only at e
  rw [if_neg (by omega),if_neg (by omega)] at e ⊢
  rw [hl] at e ⊢;simp only [List.map_cons,List.getD_cons_zero] at e
  split at e
  ·rename_i hc
   injection e with e;subst e;rw [(aN oa).2.1] at hc;have V:=AD (AB p q t z.1 z.2) oa ob oc h1 (by rw [hc,h3]) (by rw [<- x1,hc,h3]) (by rw [x2,<- x1,hc,h3]) (by rw [x3,<- x1,hc,h3]) (by rw [x4,<- x1,hc,h3]) (by rw [x5,<- x1,hc,h3]) h4
   obtain ⟨d1,d2,d3,d4⟩:=V.o
   exact ⟨d1,d2.trans h2,d3.trans h3,d4⟩
  ·cases e
theorem yi {net:List SL}:∀ (h:∀ l,l∈net->aL l.1 (l.2.map aq)=true) {z:(Mx×Mx)×Int} {rc rc':Int×Int} (hz:OKD z rc.1 rc.2) (e:bE (net.map df) (some rc)=some rc'),OKD (fD net z) rc'.1 rc'.2:=by
 induction net with
 | nil=>intro h z rc rc' hz e;injection e with e;subst e;exact hz
 | cons l ls ih =>
  intro h z rc rc' hz e;have e':bE (ls.map df) (dr (df l) rc)=some rc':=e
  cases hs:dr (df l) rc with
  | none=>rw [hs,lP] at e';cases e'
  | some r1 =>
   rw [hs] at e'
   exact ih (fun x hx=>h x (List.mem_cons_of_mem _ hx)) (qk (h l (List.mem_cons_self ..)) hz hs) e'
structure Nd where
 a:Int
 b:Int
 c:Int
 d:Int
def Nd.z:Nd:=⟨0,0,0,0⟩
def Nd.add (x y:Nd):Nd:=⟨x.a+y.a,x.b+y.b,x.c+y.c,x.d+y.d⟩
def lkN (n:Int):Nd:=⟨0,0,n,n⟩
def cpN (r i c:Int):Nd:=⟨0,1,r*c,r*i+i*c+r*c⟩
def ndL (l:PL) (rc:Int×Int):Nd:=if l.1=1 then cpN (l.2.getD 0 Mx.z).r rc.1 rc.2 else if l.1=2 then lkN (rc.1*rc.2) else
 ⟨rc.1*rc.1,5,4*(rc.1*rc.2)+3*(rc.1*rc.1)+rc.1,10*(rc.1*rc.2)+3*(rc.2*rc.2)+6*(rc.1*rc.1)+rc.1⟩
def ndN (net:List PL) (z:Nd×Option (Int×Int)):Nd×Option (Int×Int):=net.foldl (fun z l=>(z.1.add (match z.2 with | some rc=>ndL l rc | none=>Nd.z),z.2.bind (dr l))) z
theorem rW {net:List PL} {j:Nat} {l:PL} (h:net[j]?=some l) (z:Nd×Option (Int×Int)):ndN (net.take (j+1)) z=((ndN (net.take j) z).1.add (match (ndN (net.take j) z).2 with | some rc=>ndL l rc | none=>Nd.z),(ndN (net.take j) z).2.bind (dr l)):=by
 rw [aW h]
 simp [ndN,List.foldl_append]
theorem qo:∀ (net:List PL) (z:Nd×Option (Int×Int)),(ndN net z).2=bE net z.2
 | [],_=>rfl
 | _::ls,z=>qo ls _
section
attribute [local go_sem] af ah ae
def NV (n:Nd):Value:= .agg #[.int .i64 n.a,.int .i64 n.b,.int .i64 n.c,.int .i64 n.d]
structure nB (n:Nd) (K:Int):Prop where
 a0:0<=n.a
 a1:n.a<=K
 b0:0<=n.b
 b1:n.b<=K
 c0:0<=n.c
 c1:n.c<=K
 d0:0<=n.d
 d1:n.d<=K
theorem nB.add {x y:Nd} {K L M:Int} (h:nB x K) (k:nB y L) (hm:K+L<=M):nB (x.add y) M:=by
 obtain ⟨_,_,_,_,_,_,_,_⟩:=h;obtain ⟨_,_,_,_,_,_,_,_⟩:=k
 constructor <;> simp only [Nd.add] <;> omega
theorem nB.le {x:Nd} {K L:Int} (h:nB x K) (hl:K<=L):nB x L:=⟨h.a0,Int.le_trans h.a1 hl,h.b0,Int.le_trans h.b1 hl,h.c0,Int.le_trans h.c1 hl,h.d0,Int.le_trans h.d1 hl⟩
theorem nB.z:nB Nd.z 0:=by constructor <;> simp [Nd.z]
theorem nB.lk {n:Int} (h0:0<=n) (h1:n<=100):nB (lkN n) 100:=by constructor <;> simp only [lkN] <;> omega
def scN (n:Int):Nd:=⟨n,0,n,2*n+n⟩
attribute [local go_sem] NV lkN Nd.add cpN scN
def fb (n:Nd) (w:World) (e:Ending) (w':World):Prop:=e= .returned (NV n)/\Below w.heap.size w w'
theorem dh {r c:Int} (hr:side r=true) (hc:side c=true):1<=r*c/\r*c<=25:=by
 obtain ⟨_,_⟩:=bI hr;obtain ⟨_,_⟩:=bI hc
 constructor
 ·have:=Int.mul_le_mul (show (1:Int)<=r by omega) (show (1:Int)<=c by omega) (by omega) (by omega);omega
 ·have:=Int.mul_le_mul (show r<=5 by omega) (show c<=5 by omega) (by omega) (by omega);omega
theorem nB.cp {r i c:Int} (hr:side r=true) (hi:side i=true) (hc:side c=true):nB (cpN r i c) 75:=by
 have h1:=dh hr hi;have h2:=dh hi hc;have h3:=dh hr hc
 constructor <;> simp only [cpN] <;> omega
theorem jG {x y:Nd} (hx:nB x 1000000) (hy:nB y 1000000) (w:World):Calls Tryz.prog 174 #[NV x,NV y] w (fb (x.add y) w):=by
 unfold NV;obtain ⟨x1,x2,x3,x4,x5,x6,x7,x8⟩:=hx;obtain ⟨y1,y2,y3,y4,y5,y6,y7,y8⟩:=hy;refine zE ?_;intro u1 H;refine zS_ ?_;clear H;intro u2 H
 exact ⟨rfl,H.O⟩
theorem fN (n:Int) (w:World):Calls Tryz.prog 326 #[.int .i64 n] w (fb (lkN n) w):=by
 refine zE ?_;intro u1 H;refine zS_ ?_;clear H;intro u2 H
 exact ⟨rfl,H.O⟩
theorem bO {r i c:Int} (hr:side r=true) (hi:side i=true) (hc:side c=true) (w:World):Calls Tryz.prog 324 #[.int .i64 r,.int .i64 i,.int .i64 c] w (fb (cpN r i c) w):=by
 obtain ⟨p1,p2⟩:=dh hr hi;obtain ⟨q1,q2⟩:=dh hi hc;obtain ⟨t1,t2⟩:=dh hr hc;refine zE ?_;intro u1 H;refine zX (tg [w.heap.size+1]) ?_;clear H;intro S w2 hne H;refine zD (H.c 0) ?_;intro G;refine yB (fN _ w2) ?_;clear H;intro w3 H;refine yB (jG (x:=⟨0,1,0,r*i+i*c⟩) (y:=lkN (r*c)) ⟨by simp,by simp,by simp,by simp,by simp,by simp,by show (0:Int)<=r*i+i*c;omega,by show r*i+i*c<=(1000000:Int);omega⟩ ⟨by simp [lkN],by simp [lkN],by simp [lkN],by simp [lkN],by show (0:Int)<=r*c;omega,by show r*c<=(1000000:Int);omega,by show (0:Int)<=r*c;omega,by show r*c<=(1000000:Int);omega⟩ w3) ?_;clear H;intro w4 H
 refine yS ?_;clear H;intro w5 H;refine yN ?_;clear H G;intro u6 H;refine zS_ ?_;clear H;intro u7 H
 exact ⟨by simp [NV,cpN,lkN,Nd.add],H.O⟩
theorem mB {n:Int} (h0:0<=n) (h1:n<=100) (w:World):Calls Tryz.prog 335 #[.int .i64 n] w (fb (scN n) w):=by
 refine zE ?_;intro u1 H;refine zB (fN _ u1) ?_;clear H;intro w2 u2 H;refine zB (jG (x:=⟨n,0,0,2*n⟩) (y:=lkN n) ⟨h0,by show n<=(1000000:Int);omega,by simp,by simp,by simp,by simp,by show (0:Int)<=2*n;omega,by show 2*n<=(1000000:Int);omega⟩ ((nB.lk h0 h1).le (by omega)) u2) ?_;clear H;intro w3 u3 H
 refine zS_ ?_;clear H;intro u4 H
 exact ⟨by simp [NV,scN],H.O⟩
theorem qi {r c:Int} (hr:side r=true) (hc:side c=true) (w:World):Calls Tryz.prog 329 #[.agg #[],.int .i64 r,.int .i64 c] w (fb (lkN (r*c)) w):=by
 obtain ⟨p1,p2⟩:=dh hr hc;refine zE ?_;intro u1 H;refine zB (fN _ u1) ?_;clear H;intro w2 u2 H;refine zS_ ?_;clear H;intro u3 H
 exact ⟨rfl,H.O⟩
theorem oS {a b r c:Int} {x2 x3 x4 x5:Value} (ha:side a=true) (hr:side r=true) (hc:side c=true) (w:World):Calls Tryz.prog 321 #[.agg #[.int .i64 a,.int .i64 b,x2,x3,x4,x5],.int .i64 r,.int .i64 c] w (fb (cpN a r c) w):=by
 refine zE ?_;intro u1 H;refine zB (bO ha hr hc u1) ?_;clear H;intro w2 u2 H;refine zS_ ?_;clear H;intro u3 H
 exact ⟨rfl,H.O⟩
theorem bY {x y z:Nd} {K L:Int} (hz:Hid (z=x.add y)) (hx:nB x K) (hy:nB y L) (hk:K<=1000000) (hl:L<=1000000) (w:World):Calls Tryz.prog 174 #[NV x,NV y] w (fb z w):=by
 rw [hz.out];exact jG (hx.le hk) (hy.le hl) w
theorem nB.of {x y z:Nd} {K L M:Int} (hz:Hid (z=x.add y)) (h:nB x K) (k:nB y L) (hm:K+L<=M):nB z M:=by rw [hz.out];exact h.add k hm
theorem nB.sc {n:Int} (h0:0<=n) (h1:n<=26):nB (scN n) 100:=by constructor <;> simp only [scN] <;> omega
theorem AA {l:PL} (hl:l.1=3) {r c:Int}:(((((((Nd.z.add (cpN r c c)).add (cpN r c c)).add (cpN r c c)).add (cpN r c r)).add (lkN (r*r+r))).add (scN (r*r))).add (cpN r r c))=ndL l (r,c):=by
 unfold ndL;rw [if_neg (by omega),if_neg (by omega)]
 simp only [Nd.add,Nd.z,cpN,lkN,scN,Nd.mk.injEq];rw [Int.mul_comm c r]
 generalize r*c=p
 generalize r*r=q
 generalize c*c=u
 omega
theorem rE {l:PL} (hl:l.1=3) {A:Option Addr} {cap:Nat} {r c:Int} (hr:side r=true) (hc:side c=true) (w:World):Calls Tryz.prog 332 #[.agg #[.slice A 3 cap],.int .i64 r,.int .i64 c] w (fb (ndL l (r,c)) w):=by
 have HL:=Lib.hid hl;clear hl;obtain ⟨p1,p2⟩:=dh hr hr;obtain ⟨p3,p4⟩:=dh hr hc;obtain ⟨q1,q2⟩:=bI hr;have b0:Hid (nB Nd.z 0):=nB.z;have HR:=Lib.hid hr;have HC:=Lib.hid hc;clear hr hc;obtain ⟨N1,h⟩:∃ N,N=Nd.z.add (cpN r c c):=⟨_,rfl⟩;have hN1:=Lib.hid h;clear h;have b1:Hid (nB N1 150):=nB.of hN1 b0.out (nB.cp HR.out HC.out HC.out) (by omega)
 obtain ⟨N2,h⟩:∃ N,N=N1.add (cpN r c c):=⟨_,rfl⟩;have hN2:=Lib.hid h;clear h;have b2:Hid (nB N2 300):=nB.of hN2 b1.out (nB.cp HR.out HC.out HC.out) (by omega)
 obtain ⟨N3,h⟩:∃ N,N=N2.add (cpN r c c):=⟨_,rfl⟩;have hN3:=Lib.hid h;clear h;have b3:Hid (nB N3 450):=nB.of hN3 b2.out (nB.cp HR.out HC.out HC.out) (by omega)
 obtain ⟨N4,h⟩:∃ N,N=N3.add (cpN r c r):=⟨_,rfl⟩;have hN4:=Lib.hid h;clear h;have b4:Hid (nB N4 600):=nB.of hN4 b3.out (nB.cp HR.out HC.out HR.out) (by omega)
 obtain ⟨N5,h⟩:∃ N,N=N4.add (lkN (r*r+r)):=⟨_,rfl⟩;have hN5:=Lib.hid h;clear h;have b5:Hid (nB N5 750):=nB.of hN5 b4.out (nB.lk (n:=r*r+r) (by omega) (by omega)) (by omega)
 obtain ⟨N6,h⟩:∃ N,N=N5.add (scN (r*r)):=⟨_,rfl⟩;have hN6:=Lib.hid h;clear h;have b6:Hid (nB N6 900):=nB.of hN6 b5.out (nB.sc (n:=r*r) (by omega) (by omega)) (by omega)
 obtain ⟨N7,h⟩:∃ N,N=N6.add (cpN r r c):=⟨_,rfl⟩;have hN7:=Lib.hid h;clear h;have b7:Hid (nB N7 1050):=nB.of hN7 b6.out (nB.cp HR.out HR.out HC.out) (by omega)
 go_in;have H:=Hq.start w
 go_wp2;refine wp_loop_rounds 4 ?_;rw [rounds_succ];refine zM ?_;clear H;intro u1 H;refine zN ?_;clear H;intro u2 H;refine zXZ (tg [w.heap.size+2]) ?_;clear H;intro S w3 hne H;refine zD (H.c 0) ?_;intro G;refine yB (bO HR.out HC.out HC.out w3) ?_;clear H;intro w4 H;refine yB (bY hN1 b0.out (nB.cp HR.out HC.out HC.out) (by omega) (by omega) w4) ?_;clear H;intro w5 H
 refine nZ ?_;clear H;intro w6 H;refine zC ?_;intro C;intros
 go_wp2_with fail
 rw [rounds_succ];refine zM ?_;clear H C;intro u7 H;refine zN ?_;clear H;intro u8 H;refine zXZ (tg [w.heap.size+2]) ?_;clear H;intro S w9 hne H;refine zD (H.c 0) ?_;intro G;refine yB (bO HR.out HC.out HC.out w9) ?_;clear H;intro w10 H;refine yB (bY hN2 b1.out (nB.cp HR.out HC.out HC.out) (by omega) (by omega) w10) ?_;clear H;intro w11 H
 refine nZ ?_;clear H;intro w12 H;refine zC ?_;intro C;intros
 go_wp2_with fail
 rw [rounds_succ];refine zM ?_;clear H C;intro u13 H;refine zN ?_;clear H;intro u14 H;refine zXZ (tg [w.heap.size+2]) ?_;clear H;intro S w15 hne H;refine zD (H.c 0) ?_;intro G;refine yB (bO HR.out HC.out HC.out w15) ?_;clear H;intro w16 H;refine yB (bY hN3 b2.out (nB.cp HR.out HC.out HC.out) (by omega) (by omega) w16) ?_;clear H;intro w17 H
 refine nZ ?_;clear H;intro w18 H;refine zC ?_;intro C;intros
 go_wp2_with fail
 rw [rounds_succ];refine zM ?_;clear H C;intro u19 H;refine zN ?_;clear H;intro u20 H;refine zXZ (tg [w.heap.size+2]) ?_;clear H;intro S w21 hne H;refine zD (H.c 0) ?_;intro G;refine yB (bO HR.out HC.out HR.out w21) ?_;clear H;intro w22 H;refine yB (bY hN4 b3.out (nB.cp HR.out HC.out HR.out) (by omega) (by omega) w22) ?_;clear H;intro w23 H
 refine yZ ?_;clear H G;intro w24 u24 H;refine zXZ (tg [w.heap.size+2]) ?_;clear H;intro S w25 hne H;refine zD (H.c 0) ?_;intro G;refine yB (fN _ w25) ?_;clear H;intro w26 H;refine yB (bY hN5 b4.out (nB.lk (n:=r*r+r) (by omega) (by omega)) (by omega) (by omega) w26) ?_;clear H;intro w27 H
 refine yZ ?_;clear H G;intro w28 u28 H;refine zXZ (tg [w.heap.size+2]) ?_;clear H;intro S w29 hne H;refine zD (H.c 0) ?_;intro G;refine yB (mB (n:=r*r) (by omega) (by omega) w29) ?_;clear H;intro w30 H
 refine yB (bY hN6 b5.out (nB.sc (n:=r*r) (by omega) (by omega)) (by omega) (by omega) w30) ?_;clear H;intro w31 H
 refine yZ ?_;clear H G;intro w32 u32 H;refine zXZ (tg [w.heap.size+2]) ?_;clear H;intro S w33 hne H;refine zD (H.c 0) ?_;intro G;refine yB (bO HR.out HR.out HC.out w33) ?_;clear H;intro w34 H;refine yB (bY hN7 b6.out (nB.cp HR.out HR.out HC.out) (by omega) (by omega) w34) ?_;clear H;intro w35 H
 refine yZ ?_;clear H G;intro w36 u36 H;refine zS_ ?_;clear H;intro u37 H
 exact ⟨by rw [<- AA HL.out,<- hN1.out,<- hN2.out,<- hN3.out,<- hN4.out,<- hN5.out,<- hN6.out,<- hN7.out];rfl,H.O⟩
end
end Go.Proofs.YtjciicheoghcdaaGreatDoor

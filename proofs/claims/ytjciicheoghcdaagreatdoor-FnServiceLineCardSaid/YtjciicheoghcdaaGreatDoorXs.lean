/- Part of the proof that the law FnServiceLine of the given program returns true for every input. -/
import Derived.BigQuiet
import Derived.Test.YtjciicheoghcdaaGreatDoorXd
import Derived.Test.YtjciicheoghcdaaGreatDoorXg
import Derived.Test.YtjciicheoghcdaaGreatDoorXi
import Derived.Test.YtjciicheoghcdaaGreatDoorXp
import Derived.Test.YtjciicheoghcdaaGreatDoorXq
import Derived.Test.YtjciicheoghcdaaGreatDoorXr
namespace Go.Proofs.YtjciicheoghcdaaGreatDoor
open Go.RowKit
set_option linter.unusedSimpArgs false
set_option linter.unusedVariables false
set_option maxRecDepth 20000
set_option maxHeartbeats 16000000
section
attribute [local go_sem] af ah ae
theorem nI {g:Nat} {s s':Int} {C D:Option Addr} {n k m d:Nat} {v y:List Int} {r c r' c':Int} {A B:Option Addr} {n1 p1 n2 p2:Nat} (w:World) (HB:Blk w g 199 #[.int .i64 s,.slice C n k]) (HO:OS w 0 C n k v) (hD:SI w D m y) (hm:0<m) (hn:n+m<=1000000) :
  Calls Tryz.prog 170 #[.pointer (some ⟨g,0,none⟩),SMV r c A n1 p1 r' c' B n2 p2,.slice D m d,.int .i64 s'] w fun e w'=>e= .returned (SMV r c A n1 p1 r' c' B n2 p2)/\∃ C' k',Hq (fI w) [qB g 199 [.int .i64 s',.slice C' (n+m) k'],qO (fI w).heap.size C' (n+m) k' (v++y),qW w g C] w':=by
 have HD:=Lib.hid hD;have HZ:=Lib.hid (Hq.st0 HB HO);clear hD
 go_in;have H:=Hq.start w
 have cst:=HB.cell 1;have zg:=HB.lt;refine zC ?_;intro C0;intros
 go_wp2_with (at_builtin;refine zM ?_)
 clear H C0 cst zg;intro u2 H;have hd:=SI.below HD.out H.O;replace H:=HZ.out.join H (by repeat constructor)
 clear HZ HD HB HO;replace H:=H.r 3;refine zA hd True.intro ?_;clear H;intro C1 k1 w3 H;refine zS_ ?_;clear H;intro u2 H
 exact ⟨rfl,C1,k1,(((((H.d 1).d 1).r 2).r 1).r 2)⟩
theorem nD {kd:Int} (hK:1<=kd/\kd<=5) {p:Mx×Mx} (hok:okS p=true) {s:Int} {g:Nat} {C:Option Addr} {n k:Nat} {v:List Int} (hsd:sdB s=true) (w:World) (HB:Blk w g 199 #[.int .i64 s,.slice C n k]) (HO:OS w 0 C n k v) (hnN:n+25<=1000000) {x:Value} (hx:RS w x p) :
  Calls Tryz.prog 172 #[.pointer (some ⟨g,0,none⟩),.int .i64 kd,x] w (jC (dv (fnv kd) p s).1 (dv (fnv kd) p s).2 25 g C n w):=by
 obtain ⟨XA,XB,xa,xb,rfl,q1,q2,q3,q4,q5,q6⟩:=hx;have hX:=RS.mk q1 q2 q3 q4 q5 q6;clear q1 q2 q3 q4 q5 q6;obtain ⟨P,hP⟩:∃ P,P=dv (fnv kd) p s:=⟨_,rfl⟩;have HZ:=Lib.hid (Hq.st0 HB HO);have HP:=Lib.hid hP;have HX:=Lib.hid hX;have HK:=Lib.hid hK;have HOK:=Lib.hid hok;have HSD:=Lib.hid hsd;clear hP hX hK hok hsd;have zg:=HB.lt;refine zE ?_;intro u1 H;intros;refine H.BM [w.heap.size] (fun t=>t == 3) true ?_;clear H;intro S w2 hne H
 refine zD (H.c 1) ?_;intro G;have hx:=RS.below HX.out H.O;replace H:=Hr.join HZ.out H (by repeat constructor)
 have cg:w2.cell? ⟨g,0,none⟩=some (.int .i64 s):=(H.k 2).cell 0;refine yL ?_;refine yL ?_;intros;refine y_ ((show Calls Tryz.prog 214 #[_,_,_] w2 (bo P.1 P.2 25 w2) from by rw [HP.out];exact oK HK.out HOK.out HSD.out w2 hx)) ?_
 rintro K hK e w3 ⟨A,c,B,d,D,m,e',y',rfl,h1,h2,h3,hmN,hb⟩;replace H:=H.so hb h1 h2 h3;clear cg hx h1 h2 h3;refine yK ?_;clear hK K;replace H:=((H.r 4).r 4);intros;refine y_ (nI w3 (H.k 0) ((H.o 1).mono (Nat.zero_le _)) (OS.si (Ow.P2 (H.p 2))) (by omega) (by omega)) ?_
 rintro K hK e w4 ⟨rfl,C1,k1,hq⟩;replace H:=H.stp hq (all_cons H.H.nst (all_nil));refine yK ?_;clear hK K hq;replace H:=(H.r 2).pP;refine yZ ?_;clear H G;intro w5 u5 H;refine zS_ ?_;clear H;intro u6 H
 exact (by rw [<- HP.out];exact ⟨A,c,B,d,C1,n+m,k1,_,rfl,by omega,((((((H.d 3).d 3).r 3).r 1).r 3).r 3)⟩)
theorem dO {x y:Mx×Mx} (hox:okS x=true) (hoy:okS y=true) (hxy:x.1.c=y.1.r) {s:Int} {g:Nat} {C:Option Addr} {n k:Nat} {v:List Int} (hsd:sdB s=true) (w:World) (HB:Blk w g 199 #[.int .i64 s,.slice C n k]) (HO:OS w 0 C n k v) (hnN:n+75<=1000000) {u z:Value} (hx:RS w u x) (hy:RS w z y) :
  Calls Tryz.prog 210 #[.pointer (some ⟨g,0,none⟩),u,z] w (jC (dv (fnv 1) (dG x y s).1 (dG x y s).2).1 (dv (fnv 1) (dG x y s).1 (dG x y s).2).2 75 g C n w):=by
 obtain ⟨XA,XB,xa,xb,rfl,q1,q2,q3,q4,q5,q6⟩:=hx;have hX:=RS.mk q1 q2 q3 q4 q5 q6;clear q1 q2 q3 q4 q5 q6;obtain ⟨YA,YB,ya,yb,rfl,q1,q2,q3,q4,q5,q6⟩:=hy;have hY:=RS.mk q1 q2 q3 q4 q5 q6;clear q1 q2 q3 q4 q5 q6;obtain ⟨hop,_,_,hsp⟩:=kI hox hoy hxy hsd;obtain ⟨P,hP⟩:∃ P,P=dG x y s:=⟨_,rfl⟩;rw [<- hP] at hop hsp;obtain ⟨Q,hQ⟩:∃ Q,Q=dv (fnv 1) P.1 P.2:=⟨_,rfl⟩;have hQQ:Q=dv (fnv 1) (dG x y s).1 (dG x y s).2:=by rw [hQ,hP]
 have HZ:=Lib.hid (Hq.st0 HB HO);have HP:=Lib.hid hP;have HQ:=Lib.hid hQ;have HQQ:=Lib.hid hQQ;have HOP:=Lib.hid hop;have HSP:=Lib.hid hsp;have HX:=Lib.hid hX;have HY:=Lib.hid hY;have HOX:=Lib.hid hox;have HOY:=Lib.hid hoy;have HSD:=Lib.hid hsd;have HXY:=Lib.hid hxy;clear hP hQ hQQ hop hsp hX hY hox hoy hsd hxy;have zg:=HB.lt;refine zE ?_;intro u1 H;have E:=H.el;have mwu:=H.O.size;intros;refine H.lFG [w.heap.size,w.heap.size+1] (fun t=>t == 3) false (tgF [w.heap.size,w.heap.size+1] 12 7 (.cells #[.int .i64 0,.int .i64 0,.slice none 0 0,.int .i64 0,.int .i64 0,.slice none 0 0] 82)) ?_;clear H;intro S w2 hne H
 refine zD (And.intro (H.c 2) (H.c 1)) ?_;intro G;have hx:=RS.below HX.out H.O;have hy:=RS.below HY.out H.O;replace H:=Hr.join HZ.out H (by repeat constructor)
 intros
 repeat (first | (refine lE ?_;intro K hK;go_big_quiet_op;go_big_quiet_on) | refine lG ?_)
 refine oU fun w3 hb K hK=> ?_
 replace H:=H.b hb;have hx:=RS.below hx hb;have hy:=RS.below hy hb;unfold Oper.gives
 go_simp
 refine E4 H (Below.refl _ _) hK ?_;clear hK K hb;intros
 repeat (first | (refine lE ?_;intro K hK;go_big_quiet_op;go_big_quiet_on) | refine lG ?_)
 refine oU fun w4 hb K hK=> ?_
 replace H:=H.b hb;have hx:=RS.below hx hb;have hy:=RS.below hy hb;have cg:w4.cell? ⟨g,0,none⟩=some (.int .i64 s):=(H.k 3).cell 0;unfold Oper.gives
 go_simp
 refine E4 H (Below.refl _ _) hK ?_;clear hK K hb cg;intros;refine f_ (fun w5 (hb:Bw w4 w5)=>(show Calls Tryz.prog 247 #[_,_,_] w5 (bo P.1 P.2 50 w5) from by rw [HP.out];exact ka HOX.out HOY.out HXY.out HSD.out w5 (RS.below hx hb) (RS.below hy hb))) ?_;clear H hx hy
 rintro w5 K hK H e w6 ⟨A,c,B,d,D,m,e',y',rfl,h1,h2,h3,hmN,hb⟩;replace H:=H.so hb h1 h2 h3;refine fK ?_;clear hK K hb h1 h2 h3;replace H:=((H.r 5).r 5);intros;refine fU (fun w7 (hb:Bw w6 w7)=>nI w7 ((H.b hb).k 0) (((H.b hb).o 1).mono (Nat.zero_le _)) (OS.si (Ow.P2 ((H.b hb).p 2))) (by omega) (by omega)) ?_;clear H
 rintro w7 K hK H e w8 ⟨rfl,C1,k1,hq⟩;have hb:=hq.kb (B:=u1.heap.size) (t':=82) (ds:=#[.int .i64 0,.int .i64 0,.slice none 0 0,.int .i64 0,.int .i64 0,.slice none 0 0]) (H.k 0) (H.o 1);replace H:=H.stp hq (all_cons H.H.nst (all_cons H.H.nst all_nil));refine fKU ?_;clear hK K hb hq;replace H:=(H.r 2).pP;replace H:=(((((((H.r 5).r 5).r 5).r 6).r 5).r 5).r 6);have E:=Elq.c (d:=qB g 199 [.int .i64 P.2,.slice C1 (n+m) k1]) (fun i (hi:i=g)=>by omega) (Elq.c (d:=qW w g C) (fun i hi=>Nat.lt_of_lt_of_le hi.1 mwu) (E.nil w))
 refine yG ?_;clear H;intro w9 gZ hgZ H;refine yS ?_;clear H;intro w10 H;refine yN ?_;clear H G E;intro u40 H;replace H:=H;replace H:=(((H.r 2).r 2).r 3);refine zG ((show Calls Tryz.prog 172 #[_,_,_] u40 (jC Q.1 Q.2 25 g C1 (n+m) u40) from by rw [HQ.out];exact nD (by omega) HOP.out HSP.out u40 (H.k 0) ((H.o 1).mono (Nat.zero_le _)) (by omega) (H.rs 2))) ?_
 rintro e w41 ⟨A2,c2,B2,d2,C2,n2,k2,v2,rfl,hn2,hq⟩;replace H:=H.stp hq;clear hq;refine zS_ ?_;clear H;intro u11 H
 exact (by rw [<- HQQ.out];exact ⟨A2,c2,B2,d2,C2,n2,k2,v2,rfl,by omega,(((((((((H.d 3).d 3).d 4).d 4).d 4).r 3).r 3).r 3).r 3)⟩)
theorem sX {x y:Mx×Mx} (hox:okS x=true) (hoy:okS y=true) (hr:y.1.r=x.1.r) (hc1:y.1.c=1) {s:Int} {g:Nat} {C:Option Addr} {n k:Nat} {v:List Int} (hsd:sdB s=true) (w:World) (HB:Blk w g 199 #[.int .i64 s,.slice C n k]) (HO:OS w 0 C n k v) (hnN:n+75<=1000000) {u z:Value} (hx:RS w u x) (hy:RS w z y) :
  Calls Tryz.prog 218 #[.pointer (some ⟨g,0,none⟩),u,z] w (jC (dv (fnv 1) (c_ x y s).1 (c_ x y s).2).1 (dv (fnv 1) (c_ x y s).1 (c_ x y s).2).2 75 g C n w):=by
 obtain ⟨XA,XB,xa,xb,rfl,q1,q2,q3,q4,q5,q6⟩:=hx;have hX:=RS.mk q1 q2 q3 q4 q5 q6;clear q1 q2 q3 q4 q5 q6;obtain ⟨YA,YB,ya,yb,rfl,q1,q2,q3,q4,q5,q6⟩:=hy;have hY:=RS.mk q1 q2 q3 q4 q5 q6;clear q1 q2 q3 q4 q5 q6;obtain ⟨hop,_,_,hsp⟩:=pK (q:=y) hox hsd;obtain ⟨P,hP⟩:∃ P,P=c_ x y s:=⟨_,rfl⟩;rw [<- hP] at hop hsp;obtain ⟨Q,hQ⟩:∃ Q,Q=dv (fnv 1) P.1 P.2:=⟨_,rfl⟩;have hQQ:Q=dv (fnv 1) (c_ x y s).1 (c_ x y s).2:=by rw [hQ,hP]
 have HZ:=Lib.hid (Hq.st0 HB HO);have HP:=Lib.hid hP;have HQ:=Lib.hid hQ;have HQQ:=Lib.hid hQQ;have HOP:=Lib.hid hop;have HSP:=Lib.hid hsp;have HX:=Lib.hid hX;have HY:=Lib.hid hY;have HOX:=Lib.hid hox;have HOY:=Lib.hid hoy;have HSD:=Lib.hid hsd;have HR:=Lib.hid hr;have HC1:=Lib.hid hc1;clear hP hQ hQQ hop hsp hX hY hox hoy hsd hr hc1;have zg:=HB.lt;refine zE ?_;intro u1 H;have E:=H.el;have mwu:=H.O.size;intros;refine H.lFG [w.heap.size,w.heap.size+1] (fun t=>t == 3) false (tgF [w.heap.size,w.heap.size+1] 12 7 (.cells #[.int .i64 0,.int .i64 0,.slice none 0 0,.int .i64 0,.int .i64 0,.slice none 0 0] 82)) ?_;clear H;intro S w2 hne H
 refine zD (And.intro (H.c 2) (H.c 1)) ?_;intro G;have hx:=RS.below HX.out H.O;have hy:=RS.below HY.out H.O;replace H:=Hr.join HZ.out H (by repeat constructor)
 intros
 repeat (first | (refine lE ?_;intro K hK;go_big_quiet_op;go_big_quiet_on) | refine lG ?_)
 refine oU fun w3 hb K hK=> ?_
 replace H:=H.b hb;have hx:=RS.below hx hb;have hy:=RS.below hy hb;unfold Oper.gives
 go_simp
 refine E4 H (Below.refl _ _) hK ?_;clear hK K hb;intros
 repeat (first | (refine lE ?_;intro K hK;go_big_quiet_op;go_big_quiet_on) | refine lG ?_)
 refine oU fun w4 hb K hK=> ?_
 replace H:=H.b hb;have hx:=RS.below hx hb;have hy:=RS.below hy hb;have cg:w4.cell? ⟨g,0,none⟩=some (.int .i64 s):=(H.k 3).cell 0;unfold Oper.gives
 go_simp
 refine E4 H (Below.refl _ _) hK ?_;clear hK K hb cg;intros;refine f_ (fun w5 (hb:Bw w4 w5)=>(show Calls Tryz.prog 256 #[_,_,_] w5 (bo P.1 P.2 50 w5) from by rw [HP.out];exact my HOX.out HOY.out HR.out HC1.out HSD.out w5 (RS.below hx hb) (RS.below hy hb))) ?_;clear H hx hy
 rintro w5 K hK H e w6 ⟨A,c,B,d,D,m,e',y',rfl,h1,h2,h3,hmN,hb⟩;replace H:=H.so hb h1 h2 h3;refine fK ?_;clear hK K hb h1 h2 h3;replace H:=((H.r 5).r 5);intros;refine fU (fun w7 (hb:Bw w6 w7)=>nI w7 ((H.b hb).k 0) (((H.b hb).o 1).mono (Nat.zero_le _)) (OS.si (Ow.P2 ((H.b hb).p 2))) (by omega) (by omega)) ?_;clear H
 rintro w7 K hK H e w8 ⟨rfl,C1,k1,hq⟩;have hb:=hq.kb (B:=u1.heap.size) (t':=82) (ds:=#[.int .i64 0,.int .i64 0,.slice none 0 0,.int .i64 0,.int .i64 0,.slice none 0 0]) (H.k 0) (H.o 1);replace H:=H.stp hq (all_cons H.H.nst (all_cons H.H.nst all_nil));refine fKU ?_;clear hK K hb hq;replace H:=(H.r 2).pP;replace H:=(((((((H.r 5).r 5).r 5).r 6).r 5).r 5).r 6);have E:=Elq.c (d:=qB g 199 [.int .i64 P.2,.slice C1 (n+m) k1]) (fun i (hi:i=g)=>by omega) (Elq.c (d:=qW w g C) (fun i hi=>Nat.lt_of_lt_of_le hi.1 mwu) (E.nil w))
 refine yG ?_;clear H;intro w9 gZ hgZ H;refine yS ?_;clear H;intro w10 H;refine yN ?_;clear H G E;intro u40 H;replace H:=H;replace H:=(((H.r 2).r 2).r 3);refine zG ((show Calls Tryz.prog 172 #[_,_,_] u40 (jC Q.1 Q.2 25 g C1 (n+m) u40) from by rw [HQ.out];exact nD (by omega) HOP.out HSP.out u40 (H.k 0) ((H.o 1).mono (Nat.zero_le _)) (by omega) (H.rs 2))) ?_
 rintro e w41 ⟨A2,c2,B2,d2,C2,n2,k2,v2,rfl,hn2,hq⟩;replace H:=H.stp hq;clear hq;refine zS_ ?_;clear H;intro u11 H
 exact (by rw [<- HQQ.out];exact ⟨A2,c2,B2,d2,C2,n2,k2,v2,rfl,by omega,(((((((((H.d 3).d 3).d 4).d 4).d 4).r 3).r 3).r 3).r 3)⟩)
end
section
attribute [local go_sem] af ah ae
theorem mO {p q:Mx×Mx} (f:FuncId) (caps:Array Value) (av:Value->Array Value) (has:∀ v,av v=#[v]++caps) {x:Value} (w:World) (hx:RS w x p) (hrun:∀ (W:World) (args:Array Value),(callFunc f args).run Tryz.prog W= .ok (.enter f args) W)
  (h1:∀ W v,Below w.heap.size w W->RM W v p.1->Calls Tryz.prog f (av v) W (bD q.1 W)) (h2:∀ W v,Below w.heap.size w W->RM W v p.2->Calls Tryz.prog f (av v) W (bD q.2 W)) :
  Calls Tryz.prog 82 #[x,.func (.func f) #[] caps] w (jW q w):=Ak w hx hrun ⟨fun W v a b=>has v ▸ h1 W v a b,fun W v a b=>has v ▸ h2 W v a b⟩
theorem ua {m:Mx} (h:mvB m=true) {cs:Nat} (hcs:1<=cs/\cs<=5) {gX:Nat} {x0:Int} {x2 x3 x4 x5:Value} (w:World) {v:Value} (hv:RM w v m) (B0:Blk w gX 82 #[.int .i64 x0,.int .i64 (cs:Int),x2,x3,x4,x5]) :
  Calls Tryz.prog 211 #[v,.pointer (some ⟨gX,0,none⟩)] w (bD (jA m (cs:Int)) w):=by
 obtain ⟨A,c,rfl,h1,h2,h3⟩:=hv;have HX:=Lib.hid (RM.mk h1 h2 h3);have HM:=Lib.hid h;clear h h1 h2 h3;have zg:=B0.lt;have cst:=B0.cell 1;refine zE ?_;intro u1 H;refine zG (lp HM.out hcs u1 (RM.below HX.out H.O)) ?_;rintro e w2 ⟨P,cP,rfl,hos,hb⟩;replace H:=H.os hb hos
 dsimp only at H ⊢
 refine zS_ ?_;clear H;intro u3 H
 exact ⟨P,cP,rfl,(H.o 0),H.O⟩
theorem mA {pw pb px:Mx×Mx} {s:Int} (how:okS pw=true) (hob:okS pb=true) (hox:okS px=true) (hwx:pw.1.c=px.1.r) (hbr:pb.1.r=pw.1.r) (hbc:pb.1.c=1) (hs:sdB s=true) {u v z:Value} (w:World) (hw:RS w u pw) (hb:RS w v pb) (hx:RS w z px) :
  Calls Tryz.prog 171 #[u,v,z,.int .i64 s] w (bo (ec pw pb px s).1 (ec pw pb px s).2 75 w):=by
 obtain ⟨WA,WB,wa,wb,rfl,q1,q2,q3,q4,q5,q6⟩:=hw;have hW:=RS.mk q1 q2 q3 q4 q5 q6;have hW1:=q1;clear q1 q2 q3 q4 q5 q6;obtain ⟨BA,BB,ba,bb,rfl,q1,q2,q3,q4,q5,q6⟩:=hb;have hB:=RS.mk q1 q2 q3 q4 q5 q6;have hB1:=q1;clear q1 q2 q3 q4 q5 q6;obtain ⟨XA,XB,xa,xb,rfl,q1,q2,q3,q4,q5,q6⟩:=hx;have hX:=RS.mk q1 q2 q3 q4 q5 q6;clear q1 q2 q3 q4 q5 q6;have l1:=(fs how).1;have l2:=(fs hob).1;obtain ⟨hP1,hP2,hP3,hP4⟩:=gV how hox hwx hs;obtain ⟨cs,hcs'⟩:∃ cs:Nat,cs=px.1.c.toNat:=⟨_,rfl⟩;obtain ⟨_,sc⟩:=aA (ai hox).1;have hCS:px.1.c=(cs:Int):=by rw [hcs'];exact (et sc).symm
 have hcs:1<=cs/\cs<=5:=by have:=bI sc;omega
 have hsc:side (cs:Int)=true:=by rw [<- hCS];exact sc
 have hwi:=oF hob hsc;have hdf:dfB ⟨pw.1.r,pw.1.c,pw.1.v⟩ ⟨pb.1.r,pb.1.c,pb.1.v⟩=true:=by
  show dfB pw.1 pb.1=true
  unfold dfB;rw [(ai how).1,(ai hob).1,hbc,hbr]
  simp
 obtain ⟨P,hP⟩:∃ P,P=eI pw px s:=⟨_,rfl⟩;rw [<- hP] at hP1 hP2 hP3 hP4;have hPD:ec pw pb px s=(jX P.1 (iu pb (cs:Int)),P.2):=by unfold ec;rw [<- hP,hCS]
 have hOB1:=(ai hob).1;have hOB2:=(ai hob).2.1;have hL1:az P.1.1 P.1.2=true:=hP1;have hL2:az (iu pb (cs:Int)).1 (iu pb (cs:Int)).2=true:=hwi;have hL3:az P.1.1 (iu pb (cs:Int)).1=true:=aY (ai hP1).1 (ai hwi).1 (hP2.trans hbr.symm) (hP3.trans hCS);have hne:(pw.1.c != px.1.r)=false:=by simp [hwx]
 rw [hCS];clear hcs' sc hsc hwi hbr hbc hP1 hP2 hP3 hP4;have HOW:=Lib.hid how;have HOB:=Lib.hid hob;have HOX:=Lib.hid hox;have HWX:=Lib.hid hwx;have HS:=Lib.hid hs;have HW:=Lib.hid hW;have HB:=Lib.hid hB;have HX:=Lib.hid hX;have HW1:=Lib.hid hW1;have HB1:=Lib.hid hB1;have HCS:=Lib.hid hCS;have HDF:=Lib.hid hdf;have HP:=Lib.hid hP;have HPD:=Lib.hid hPD;have HOB1:=Lib.hid hOB1;have HOB2:=Lib.hid hOB2;have HL1:=Lib.hid hL1;have HL2:=Lib.hid hL2;have HL3:=Lib.hid hL3;clear how hob hox hwx hs hW hB hX hW1 hB1 hCS hdf hP hPD hOB1 hOB2 hL1 hL2 hL3;refine zE ?_;intro u1 H;refine zB (gC HOW.out u1 (RS.below HW.out H.O)) ?_;clear H;intro w2 u2 H;refine zB (gC HOB.out u2 (RS.below HB.out H.O)) ?_;clear H;intro w3 u3 H;refine zB (gC HOX.out u3 (Eq.mp (congrArg (fun c=>RS _ (SMV px.1.r c XA px.1.v.length xa px.2.r px.2.c XB px.2.v.length xb) px) HCS.out) (RS.below HX.out H.O))) ?_;clear H;intro w4 u4 H
 refine zP (aU (dH HS.out) u4) ?_;clear H;intro u5 H;refine zB ((show Calls Tryz.prog 147 #[_,_] u5 (fun e w'=>e= .returned (.bool true)/\Below u5.heap.size u5 w') from HDF.out ▸ DK _ _ _ _ _ _ WA BA _ wa _ ba u5 (SI.below HW1.out H.O) (SI.below HB1.out H.O) (by omega) (by omega))) ?_;clear H;intro w6 u6 H
 replace H:=H.nil;replace H:=(H.r 1);refine zG ((show Calls Tryz.prog 210 #[_,_,_] u6 (jC P.1 P.2 75 (w6.heap.size) none 0 u6) from by rw [HP.out];exact dO HOW.out HOX.out HWX.out HS.out u6 (H.k 0) ((H.o 1).mono (Nat.zero_le _)) (by omega) (RS.below HW.out H.O) (Eq.mp (congrArg (fun c=>RS _ (SMV px.1.r c XA px.1.v.length xa px.2.r px.2.c XB px.2.v.length xb) px) HCS.out) (RS.below HX.out H.O)))) ?_
 rintro e w7 ⟨A1,c1,D1,d1,C1,n1,k1,v1,rfl,hn1,hq⟩;replace H:=H.stp hq;clear hq;refine zN ?_;clear H;intro u8 H;have HB3:=Lib.hid (H.k 5);refine zG (mO (q:=iu pb (cs:Int)) 211 #[.pointer (some ⟨w.heap.size+2,0,none⟩)] (fun v=>#[v,.pointer (some ⟨w.heap.size+2,0,none⟩)]) (fun _=>rfl) u8 (RS.below HB.out H.O) (fun _ _=>by kernel_rfl) (fun W v hW hv=>ua HOB1.out hcs W hv (HB3.out.aa hW)) (fun W v hW hv=>ua HOB2.out hcs W hv (HB3.out.aa hW))) ?_
 rintro e w9 ⟨Q1,Q2,e1,e2,rfl,f1,f2,hb⟩;replace H:=H.ss hb f1 f2;clear HB3;refine zN ?_;clear H;intro u10 H;refine zX (tg [w9.heap.size,w7.heap.size,w6.heap.size]) ?_;clear H;intro S w11 hne H;refine zD ((And.intro (H.c 0) (And.intro (H.c 2) (H.c 3)))) ?_;intro G;refine yW (iv HL1.out HL2.out HL3.out A1 D1 Q1 Q2 c1 d1 e1 e2 w11 (OS.si (qS.a (H.p 5))) (OS.si (qS.b (H.p 5))) (OS.si (qS.a (H.p 1))) (OS.si (qS.b (H.p 1)))) ?_;clear H;intro w12 R1 R2 r1 r2 H;refine yS ?_;clear H;intro w13 H;refine yN ?_;clear H G;intro u14 H;refine zS_ ?_;clear H;intro u15 H
 exact (by rw [HPD.out];exact ⟨R1,r1,R2,r2,C1,n1,k1,v1,rfl,qS.a (H.p 0),qS.b (H.p 0),(H.o 5),by omega,H.O⟩)
end
section
attribute [local go_sem] af ah ae
def SMc (w:World) (b o:Nat) (p:Mx×Mx) (A:Option Addr) (c:Nat) (B:Option Addr) (d:Nat):Prop:=w.cell? ⟨b,o,none⟩=some (.int .i64 p.1.r)/\w.cell? ⟨b,o+1,none⟩=some (.int .i64 p.1.c)/\w.cell? ⟨b,o+2,none⟩=some (.slice A p.1.v.length c)/\w.cell? ⟨b,o+3,none⟩=some (.int .i64 p.2.r)/\w.cell? ⟨b,o+4,none⟩=some (.int .i64 p.2.c)/\w.cell? ⟨b,o+5,none⟩=some (.slice B p.2.v.length d)
theorem SMc.below {w w':World} {b o:Nat} {p:Mx×Mx} {A B:Option Addr} {c d:Nat} (h:SMc w b o p A c B d) (hb:b<w.heap.size) (O:Below w.heap.size w w'):SMc w' b o p A c B d :=
 ⟨(O.cell (p:=⟨b,o,none⟩) hb).trans h.1,(O.cell (p:=⟨b,o+1,none⟩) hb).trans h.2.1,(O.cell (p:=⟨b,o+2,none⟩) hb).trans h.2.2.1,(O.cell (p:=⟨b,o+3,none⟩) hb).trans h.2.2.2.1,(O.cell (p:=⟨b,o+4,none⟩) hb).trans h.2.2.2.2.1,(O.cell (p:=⟨b,o+5,none⟩) hb).trans h.2.2.2.2.2⟩
theorem sm_at {w:World} {A:Option Addr} {n cap:Nat} {xs:List (Mx×Mx)} {F:List Nat} (h:RI smE w A n cap xs F) {i:Nat} {p:Mx×Mx} (hx:xs[i]?=some p) {b off:Nat} (hA:A=some ⟨b,off,none⟩):∃ A1 c1 B1 d1,SMc w b (off+i*6) p A1 c1 B1 d1/\RS w (SMV p.1.r p.1.c A1 p.1.v.length c1 p.2.r p.2.c B1 p.2.v.length d1) p:=by
 obtain ⟨b',off',cs,F',hA',_,hc,_,hp⟩:=h.cells hx 6 rfl;rw [hA'] at hA;injection hA with hA;injection hA with e1 e2;subst e1 e2;obtain ⟨A1,c1,B1,d1,F1,F2,rfl,h1,h2,_⟩:=hp
 exact ⟨A1,c1,B1,d1,⟨hc 0 (by omega),hc 1 (by omega),hc 2 (by omega),hc 3 (by omega),hc 4 (by omega),hc 5 (by omega)⟩,A1,B1,c1,d1,rfl,h1.1,h1.2.1,h1.2.2.1,h2.1,h2.2.1,h2.2.2.1⟩
def R3 (w:World) (b o:Nat) (x y z:Mx×Mx):Prop:=∃ A1 a1 A2 a2 B1 b1 B2 b2 C1 c1 C2 c2,SMc w b o x A1 a1 A2 a2/\SMc w b (o+6) y B1 b1 B2 b2/\SMc w b (o+12) z C1 c1 C2 c2/\RS w (SMV x.1.r x.1.c A1 x.1.v.length a1 x.2.r x.2.c A2 x.2.v.length a2) x/\RS w (SMV y.1.r y.1.c B1 y.1.v.length b1 y.2.r y.2.c B2 y.2.v.length b2) y/\RS w (SMV z.1.r z.1.c C1 z.1.v.length c1 z.2.r z.2.c C2 z.2.v.length c2) z
theorem Dx {w:World} {A:Option Addr} {cap:Nat} {x y z:Mx×Mx} {F:List Nat} (h:RI smE w A 3 cap [x,y,z] F):∃ b o,A=some ⟨b,o,none⟩/\b<w.heap.size/\R3 w b o x y z:=by
 obtain ⟨b,off,cs,F',hA,hb,_⟩:=h.at (i:=0) (x:=x) rfl;obtain ⟨A1,a1,A2,a2,s1,t1⟩:=sm_at h (i:=0) (p:=x) rfl hA;obtain ⟨B1,b1,B2,b2,s2,t2⟩:=sm_at h (i:=1) (p:=y) rfl hA;obtain ⟨C1,c1,C2,c2,s3,t3⟩:=sm_at h (i:=2) (p:=z) rfl hA;rw [Nat.zero_mul,Nat.add_zero] at s1
 exact ⟨b,off,hA,hb,A1,a1,A2,a2,B1,b1,B2,b2,C1,c1,C2,c2,s1,s2,s3,t1,t2,t3⟩
theorem SMc.el {w:World} {b o:Nat} {p:Mx×Mx} {A B:Option Addr} {c d:Nat} (h:SMc w b o p A c B d) (hb:b<w.heap.size):∀ w',Below w.heap.size w w'->SMc w' b o p A c B d:=fun _ O=>h.below hb O
theorem nz {p:Mx×Mx} (hop:okS p=true) {x:Value} (w:World) (hx:RS w x p):Calls Tryz.prog 216 #[x] w (jW (jz p) w):=by
 obtain ⟨A,B,a,b,rfl,q1,q2,q3,q4,q5,q6⟩:=hx;have hX:=RS.mk q1 q2 q3 q4 q5 q6;clear q1 q2 q3 q4 q5 q6;have h1:=(ai hop).1;have h2:=(ai hop).2.1;have HOP:=Lib.hid hop;have HX:=Lib.hid hX;have H1:=Lib.hid h1;have H2:=Lib.hid h2;clear hop hX h1 h2;refine zE ?_;intro u1 H;refine zB (gC HOP.out u1 (RS.below HX.out H.O)) ?_;clear H;intro w2 u2 H;refine zW (mO (q:=jz p) 255 #[] (fun v=>#[v]) (fun _=>rfl) u2 (RS.below HX.out H.O) (fun _ _=>by kernel_rfl) (fun W v _ hv=>iN H1.out W hv) (fun W v _ hv=>iN H2.out W hv)) ?_;clear H;intro w3 P Q c1 d1 u3 H
 refine zS_ ?_;clear H;intro u4 H
 exact ⟨P,Q,c1,d1,rfl,qS.a (H.p 0),qS.b (H.p 0),H.O⟩
theorem ku {ma mb mc px:Mx×Mx} (ho0:okS ma=true) (ho1:okS mb=true) (ho2:okS mc=true) (hox:okS px=true) (ha1:ma.1.r=px.1.c) (ha2:ma.1.c=px.1.c) (hb1:mb.1.r=px.1.c) (hb2:mb.1.c=px.1.c) (hc1:mc.1.r=px.1.c) (hc2:mc.1.c=px.1.c)
  {bb off cap:Nat} {x:Value} (w:World) (hbl:bb<w.heap.size) (hR:R3 w bb off ma mb mc) (hx:RS w x px):Calls Tryz.prog 215 #[.slice (some ⟨bb,off,none⟩) 3 cap,x] w fun e w'=>e= .returned (.bool true)/\Below w.heap.size w w':=by
 obtain ⟨XA,XB,xa,xb,rfl,q1,q2,q3,q4,q5,q6⟩:=hx;have hX:=RS.mk q1 q2 q3 q4 q5 q6;clear q1 q2 q3 q4 q5 q6;obtain ⟨EA1,ea1,EA2,ea2,EB1,eb1,EB2,eb2,EC1,ec1,EC2,ec2,he0,he1,he2,hr0,hr1,hr2⟩:=hR;have n1:(ma.1.r != ma.1.c)=false:=by simp [ha1,ha2]
 have n2:(ma.1.c != px.1.c)=false:=by simp [ha2]
 have n3:(mb.1.r != mb.1.c)=false:=by simp [hb1,hb2]
 have n4:(mb.1.c != px.1.c)=false:=by simp [hb2]
 have n5:(mc.1.r != mc.1.c)=false:=by simp [hc1,hc2]
 have n6:(mc.1.c != px.1.c)=false:=by simp [hc2]
 clear ha1 ha2 hb1 hb2 hc1 hc2;have HO0:=Lib.hid ho0;have HO1:=Lib.hid ho1;have HO2:=Lib.hid ho2;have HOX:=Lib.hid hox;have HX:=Lib.hid hX;have HE0:=Lib.hid he0;have HE1:=Lib.hid he1;have HE2:=Lib.hid he2;have HR0:=Lib.hid hr0;have HR1:=Lib.hid hr1;have HR2:=Lib.hid hr2;clear ho0 ho1 ho2 hox hX he0 he1 he2 hr0 hr1 hr2;refine zE ?_;intro u1 H;refine zB (gC HOX.out u1 (RS.below HX.out H.O)) ?_;clear H;intro w2 u2 H;refine zC ?_;intro C;intros;go_wp2;refine wp_loop_rounds 4 ?_;rw [rounds_succ];clear C;obtain ⟨r0,r1,r2,r3,r4,r5⟩:=SMc.below HE0.out hbl H.O;have zbb:=Nat.lt_of_lt_of_le hbl H.m;refine zN ?_;clear H;intro u3 H;clear r0 r1 r2 r3 r4 r5 zbb;refine zG (gC HO0.out u3 (RS.below HR0.out H.O)) ?_;rintro e w4 ⟨rfl,hb⟩;replace H:=H.b hb;clear hb;refine zC ?_;intro C;intros
 go_wp2_with fail
 rw [rounds_succ];refine zM ?_;clear H C;intro u5 H;obtain ⟨r0,r1,r2,r3,r4,r5⟩:=SMc.below HE1.out hbl H.O;have zbb:=Nat.lt_of_lt_of_le hbl H.m;refine zN ?_;clear H;intro u6 H;clear r0 r1 r2 r3 r4 r5 zbb;refine zG (gC HO1.out u6 (RS.below HR1.out H.O)) ?_;rintro e w7 ⟨rfl,hb⟩;replace H:=H.b hb;clear hb;refine zC ?_;intro C;intros
 go_wp2_with fail
 rw [rounds_succ];refine zM ?_;clear H C;intro u8 H;obtain ⟨r0,r1,r2,r3,r4,r5⟩:=SMc.below HE2.out hbl H.O;have zbb:=Nat.lt_of_lt_of_le hbl H.m;refine zN ?_;clear H;intro u9 H;clear r0 r1 r2 r3 r4 r5 zbb;refine zG (gC HO2.out u9 (RS.below HR2.out H.O)) ?_;rintro e w10 ⟨rfl,hb⟩;replace H:=H.b hb;clear hb;refine zC ?_;intro C;intros
 go_wp2_with fail
 rw [rounds_succ];refine zM ?_;clear H C;intro u11 H;refine zR ?_;clear H;intro u12 H
 exact ⟨rfl,H.O⟩
end
section
attribute [local go_sem] af ah ae
theorem R3.below {w w':World} {b o:Nat} {x y z:Mx×Mx} (h:R3 w b o x y z) (hb:b<w.heap.size) (O:Below w.heap.size w w'):R3 w' b o x y z:=by
 obtain ⟨A1,a1,A2,a2,B1,b1,B2,b2,C1,c1,C2,c2,s1,s2,s3,t1,t2,t3⟩:=h
 exact ⟨A1,a1,A2,a2,B1,b1,B2,b2,C1,c1,C2,c2,s1.below hb O,s2.below hb O,s3.below hb O,t1.below O,t2.below O,t3.below O⟩
theorem oN {ma mb mc px:Mx×Mx} {s:Int} (ho0:okS ma=true) (ho1:okS mb=true) (ho2:okS mc=true) (hox:okS px=true) (ha1:ma.1.r=px.1.c) (ha2:ma.1.c=px.1.c) (hb1:mb.1.r=px.1.c) (hb2:mb.1.c=px.1.c) (hc1:mc.1.r=px.1.c) (hc2:mc.1.c=px.1.c) (hs:sdB s=true)
  {bb off cap:Nat} {x:Value} (w:World) (hbl:bb<w.heap.size) (hR:R3 w bb off ma mb mc) (hx:RS w x px):Calls Tryz.prog 173 #[.slice (some ⟨bb,off,none⟩) 3 cap,x,.int .i64 s] w (bo (nR ma mb mc px s).1 (nR ma mb mc px s).2 500 w):=by
 obtain ⟨XA,XB,xa,xb,rfl,q1,q2,q3,q4,q5,q6⟩:=hx;have hX:=RS.mk q1 q2 q3 q4 q5 q6;clear q1 q2 q3 q4 q5 q6;have hRR:=hR;obtain ⟨EA1,ea1,EA2,ea2,EB1,eb1,EB2,eb2,EC1,ec1,EC2,ec2,he0,he1,he2,hr0,hr1,hr2⟩:=hR;obtain ⟨z,hz⟩:∃ z,z=yc ma mb mc px s:=⟨_,rfl⟩;have R:=AB ma mb mc px s;rw [<- hz] at R;have V:=AD R ho0 ho1 ho2 hox ha1 ha2 hb1 hb2 hc1 hc2 hs;have hZZ:nR ma mb mc px s=z.o:=by rw [hz];rfl
 have tk:=kY V.k.1;have rw_:=n_ V.g.1;have hZq:z.q=eI px ma s:=R.q;have hZk:z.k=eI px mb z.q.2:=R.k;have hZv:z.v=eI px mc z.k.2:=R.v;have hZt:z.t=eI z.q.1 (jz z.k.1) z.v.2:=R.t;have hZg:z.g=dv (fnv 4) z.t.1 z.t.2:=R.g;have hZm:z.m=dv (fnv 5) (mi z.g.1) z.g.2:=R.m;have hZeh:z.h=dv (fnv 1) (c_ z.g.1 z.m.1 z.m.2).1 (c_ z.g.1 z.m.1 z.m.2).2:=by rw [R.h,R.e]
 have hZo:z.o=eI z.h.1 z.v.1 z.h.2:=R.o;have hTK:=tk.1;have hQT:z.q.1.1.c=(jz z.k.1).1.r:=by rw [V.q.2.2.1,tk.2.1,V.k.2.2.1]
 have hRW:=rw_.1;have hMR:z.m.1.1.r=z.g.1.1.r:=by rw [V.m.2.1,V.g.2.1]
 have hHV:z.h.1.1.c=z.v.1.1.r:=by rw [V.h.2.2.1,V.v.2.1]
 have hG1:=(ai V.g.1).1;have hG2:=(ai V.g.1).2.1;have hXY0:px.1.c=ma.1.r:=ha1.symm;have hXY1:px.1.c=mb.1.r:=hb1.symm;have hXY2:px.1.c=mc.1.r:=hc1.symm;have hV:=V;clear hz R V tk rw_;have HO0:=Lib.hid ho0;have HO1:=Lib.hid ho1;have HO2:=Lib.hid ho2;have HOX:=Lib.hid hox;have HX:=Lib.hid hX;have HE0:=Lib.hid he0;have HE1:=Lib.hid he1;have HE2:=Lib.hid he2;have HR0:=Lib.hid hr0;have HR1:=Lib.hid hr1;have HR2:=Lib.hid hr2;have HA1:=Lib.hid ha1;have HA2:=Lib.hid ha2;have HB1:=Lib.hid hb1;have HB2:=Lib.hid hb2;have HC1:=Lib.hid hc1;have HC2:=Lib.hid hc2;have HS:=Lib.hid hs;have HRR:=Lib.hid hRR;have HZZ:=Lib.hid hZZ;have HZq:=Lib.hid hZq;have HZk:=Lib.hid hZk;have HZv:=Lib.hid hZv;have HZt:=Lib.hid hZt;have HZg:=Lib.hid hZg;have HZm:=Lib.hid hZm;have HZeh:=Lib.hid hZeh;have HZo:=Lib.hid hZo;have HTK:=Lib.hid hTK;have HQT:=Lib.hid hQT;have HRW:=Lib.hid hRW;have HMR:=Lib.hid hMR;have HHV:=Lib.hid hHV;have HG1:=Lib.hid hG1;have HG2:=Lib.hid hG2;have HXY0:=Lib.hid hXY0;have HXY1:=Lib.hid hXY1;have HXY2:=Lib.hid hXY2;have HV:=Lib.hid hV;clear ho0 ho1 ho2 hox hX he0 he1 he2 hr0 hr1 hr2 ha1 ha2 hb1 hb2 hc1 hc2 hs hRR hZZ hZq hZk hZv hZt hZg hZm hZeh hZo hTK hQT hRW hMR hHV hG1 hG2 hXY0 hXY1 hXY2 hV;refine zE ?_;intro u1 H;refine zB (ku HO0.out HO1.out HO2.out HOX.out HA1.out HA2.out HB1.out HB2.out HC1.out HC2.out u1 (Nat.lt_of_lt_of_le hbl H.m) (R3.below HRR.out hbl H.O) (RS.below HX.out H.O)) ?_;clear H;intro w2 u2 H;refine zP (aU (dH HS.out) u2) ?_;clear H;intro u3 H;replace H:=H.nil;replace H:=(H.r 1);have zbb:=Nat.lt_of_lt_of_le hbl H.m;have zg:=(H.k 0).lt;have E0:=H.tl.tl.el;intros;refine H.lFG [w.heap.size,bb] noX false (tgF [w.heap.size,bb] 5 10 (.cells #[.int .i64 0,.int .i64 0,.slice none 0 0,.int .i64 0,.int .i64 0,.slice none 0 0] 82)) ?_;clear H;intro S w4 hne H;refine zD (H.c 3) ?_;intro G;obtain ⟨r0,r1,r2,r3,r4,r5⟩:=SMc.below HE0.out hbl H.O;replace r0:=H.row r0;replace r1:=H.row r1;replace r2:=H.row r2;replace r3:=H.row r3;replace r4:=H.row r4;replace r5:=H.row r5;intros;refine fU (fun w5 (hb:Bw w4 w5)=>(show Calls Tryz.prog 210 #[_,_,_] w5 (jC z.q.1 z.q.2 75 (u2.heap.size) none 0 w5) from by rw [HZq.out];exact dO HOX.out HO0.out HXY0.out HS.out w5 ((H.b hb).k 0) (OS.mono ((H.b hb).o 1) (Nat.zero_le _)) (by omega) (RS.below HX.out (H.b hb).O) (RS.below HR0.out (H.b hb).O))) ?_;clear H
 rintro w5 K hK H e w6 ⟨A1,c1,D1,d1,C1,n1,k1,v1,rfl,hn1,hq⟩;have hb:=hq.kb (B:=u3.heap.size) (t':=82) (ds:=#[.int .i64 0,.int .i64 0,.slice none 0 0,.int .i64 0,.int .i64 0,.slice none 0 0]) (H.k 0) (H.o 1);replace H:=H.stp hq (all_cons H.H.nst (all_cons (H.H.nel hbl) (all_nil)));refine fKU ?_;clear hK K hb hq;replace H:=((H.r 2).r 2);have E:=Elq.c (d:=qB (u2.heap.size) 199 [.int .i64 z.q.2,.slice C1 n1 k1]) (fun i (hi:i=u2.heap.size)=>by omega) E0
 refine yG ?_;clear H;intro w7 gZ1 hgZ1 H;refine yS ?_;clear H;intro w8 H;refine yN ?_;clear H G E E0 zg zbb r0 r1 r2 r3 r4 r5;intro u8 H;replace H:=((H.r 1).r 3);have zbb:=Nat.lt_of_lt_of_le hbl H.m;have zg:=(H.k 0).lt;have E0:=H.tl.tl.el;intros;refine H.lFG [w.heap.size,bb] noX false (tgF [w.heap.size,bb] 5 11 (.cells #[.int .i64 0,.int .i64 0,.slice none 0 0,.int .i64 0,.int .i64 0,.slice none 0 0] 82)) ?_;clear H;intro S w9 hne H;refine zD (H.c 5) ?_;intro G;obtain ⟨r0,r1,r2,r3,r4,r5⟩:=SMc.below HE1.out hbl H.O;replace r0:=H.row r0;replace r1:=H.row r1;replace r2:=H.row r2;replace r3:=H.row r3;replace r4:=H.row r4;replace r5:=H.row r5;intros;refine fU (fun w10 (hb:Bw w9 w10)=>(show Calls Tryz.prog 210 #[_,_,_] w10 (jC z.k.1 z.k.2 75 (u2.heap.size) C1 n1 w10) from by rw [HZk.out];exact dO HOX.out HO1.out HXY1.out HV.out.q.2.2.2 w10 ((H.b hb).k 0) (OS.mono ((H.b hb).o 1) (Nat.zero_le _)) (by omega) (RS.below HX.out (H.b hb).O) (RS.below HR1.out (H.b hb).O))) ?_;clear H
 rintro w10 K hK H e w11 ⟨A2,c2,D2,d2,C2,n2,k2,v2,rfl,hn2,hq⟩;have hb:=hq.kb (B:=u8.heap.size) (t':=82) (ds:=#[.int .i64 0,.int .i64 0,.slice none 0 0,.int .i64 0,.int .i64 0,.slice none 0 0]) (H.k 0) (H.o 1);replace H:=H.stp hq (all_cons H.H.nst (all_cons (H.H.nel hbl) (all_nil)));refine fKU ?_;clear hK K hb hq;replace H:=((H.r 2).r 2);have E:=Elq.c (d:=qB (u2.heap.size) 199 [.int .i64 z.k.2,.slice C2 n2 k2]) (fun i (hi:i=u2.heap.size)=>by omega) E0
 refine yG ?_;clear H;intro w12 gZ2 hgZ2 H;refine yS ?_;clear H;intro w13 H;refine yN ?_;clear H G E E0 zg zbb r0 r1 r2 r3 r4 r5;intro u13 H;replace H:=((H.r 1).r 3);have zbb:=Nat.lt_of_lt_of_le hbl H.m;have zg:=(H.k 0).lt;have E0:=H.tl.tl.el;intros;refine H.lFG [w.heap.size,bb] noX false (tgF [w.heap.size,bb] 5 12 (.cells #[.int .i64 0,.int .i64 0,.slice none 0 0,.int .i64 0,.int .i64 0,.slice none 0 0] 82)) ?_;clear H;intro S w14 hne H;refine zD (H.c 7) ?_;intro G;obtain ⟨r0,r1,r2,r3,r4,r5⟩:=SMc.below HE2.out hbl H.O;replace r0:=H.row r0;replace r1:=H.row r1;replace r2:=H.row r2;replace r3:=H.row r3;replace r4:=H.row r4;replace r5:=H.row r5;intros;refine fU (fun w15 (hb:Bw w14 w15)=>(show Calls Tryz.prog 210 #[_,_,_] w15 (jC z.v.1 z.v.2 75 (u2.heap.size) C2 n2 w15) from by rw [HZv.out];exact dO HOX.out HO2.out HXY2.out HV.out.k.2.2.2 w15 ((H.b hb).k 0) (OS.mono ((H.b hb).o 1) (Nat.zero_le _)) (by omega) (RS.below HX.out (H.b hb).O) (RS.below HR2.out (H.b hb).O))) ?_;clear H
 rintro w15 K hK H e w16 ⟨A3,c3,D3,d3,C3,n3,k3,v3,rfl,hn3,hq⟩;have hb:=hq.kb (B:=u13.heap.size) (t':=82) (ds:=#[.int .i64 0,.int .i64 0,.slice none 0 0,.int .i64 0,.int .i64 0,.slice none 0 0]) (H.k 0) (H.o 1);replace H:=H.stp hq (all_cons H.H.nst (all_cons (H.H.nel hbl) (all_nil)));refine fKU ?_;clear hK K hb hq;replace H:=((H.r 2).r 2);have E:=Elq.c (d:=qB (u2.heap.size) 199 [.int .i64 z.v.2,.slice C3 n3 k3]) (fun i (hi:i=u2.heap.size)=>by omega) E0
 refine yG ?_;clear H;intro w17 gZ3 hgZ3 H;refine yS ?_;clear H;intro w18 H;refine yN ?_;clear H G E E0 zg zbb r0 r1 r2 r3 r4 r5;intro u18 H;replace H:=((H.r 1).r 3);have zg:=(H.k 0).lt;have E0:=H.tl.tl.el;intros;refine H.lFG [gZ1,gZ2] noX false (tgF [gZ1,gZ2] 4 13 (.cells #[.int .i64 0,.int .i64 0,.slice none 0 0,.int .i64 0,.int .i64 0,.slice none 0 0] 82)) ?_;clear H;intro S w19 hne H;refine zD (And.intro (H.c 6) (H.c 4)) ?_;intro G;intros;refine f_ (fun w20 (hb:Bw w19 w20)=>nz HV.out.k.1 w20 ((H.b hb).rs 5)) ?_;clear H
 rintro w20 K hK H e w21 ⟨T1,T2,t1,t2,rfl,f1,f2,hb⟩;replace H:=H.ss hb f1 f2;refine fK ?_;clear hK K hb f1 f2;replace H:=((H.r 2).r 2);intros;refine fU (fun w22 (hb:Bw w21 w22)=>(show Calls Tryz.prog 210 #[_,_,_] w22 (jC z.t.1 z.t.2 75 (u2.heap.size) C3 n3 w22) from by rw [HZt.out];exact dO HV.out.q.1 HTK.out HQT.out HV.out.v.2.2.2 w22 ((H.b hb).k 0) (OS.mono ((H.b hb).o 1) (Nat.zero_le _)) (by omega) ((H.b hb).rs 8) ((H.b hb).rs 2))) ?_;clear H
 rintro w22 K hK H e w23 ⟨A4,c4,D4,d4,C4,n4,k4,v4,rfl,hn4,hq⟩;have hb:=hq.kb (B:=u18.heap.size) (t':=82) (ds:=#[.int .i64 0,.int .i64 0,.slice none 0 0,.int .i64 0,.int .i64 0,.slice none 0 0]) (H.k 0) (H.o 1);replace H:=H.stp hq (all_cons H.H.nst (all_cons H.H.nst (all_nil)));refine fKU ?_;clear hK K hb hq;replace H:=H.d 3;replace H:=((H.r 2).r 2);have E:=Elq.c (d:=qB (u2.heap.size) 199 [.int .i64 z.t.2,.slice C4 n4 k4]) (fun i (hi:i=u2.heap.size)=>by omega) E0
 refine yG ?_;clear H;intro w24 gZ4 hgZ4 H;refine yS ?_;clear H;intro w25 H;refine yN ?_;clear H G E E0 zg;intro u25 H;replace H:=H.d 8;replace H:=H.d 6;replace H:=H.d 7;replace H:=H.d 6;replace H:=H.d 7;replace H:=((H.r 1).r 3);refine zG ((show Calls Tryz.prog 172 #[_,_,_] u25 (jC z.g.1 z.g.2 25 (u2.heap.size) C4 n4 u25) from by rw [HZg.out];exact nD (by omega) HV.out.t.1 HV.out.t.2.2.2 u25 (H.k 0) ((H.o 1).mono (Nat.zero_le _)) (by omega) (H.rs 3))) ?_
 rintro e w26 ⟨A5,c5,D5,d5,C5,n5,k5,v5,rfl,hn5,hq⟩;replace H:=H.stp hq;clear hq;replace H:=H.d 4;replace H:=H.d 3;refine zN ?_;clear H;intro u27 H;refine zW (mO (q:=mi z.g.1) 217 #[] (fun v=>#[v]) (fun _=>rfl) u27 (H.rs 3) (fun _ _=>by kernel_rfl) (fun W v _ hv=>lZ HG1.out W hv) (fun W v _ hv=>lZ HG2.out W hv)) ?_;clear H;intro w28 T1 T2 t1 t2 u28 H
 replace H:=((H.r 3).r 3);refine zG ((show Calls Tryz.prog 172 #[_,_,_] u28 (jC z.m.1 z.m.2 25 (u2.heap.size) C5 n5 u28) from by rw [HZm.out];exact nD (by omega) HRW.out HV.out.g.2.2.2 u28 (H.k 0) ((H.o 1).mono (Nat.zero_le _)) (by omega) (H.rs 2))) ?_
 rintro e w29 ⟨A6,c6,D6,d6,C6,n6,k6,v6,rfl,hn6,hq⟩;replace H:=H.stp hq;clear hq;replace H:=H.d 3;refine zN ?_;clear H;intro u30 H;replace H:=((H.r 2).r 2);refine zG ((show Calls Tryz.prog 218 #[_,_,_] u30 (jC z.h.1 z.h.2 75 (u2.heap.size) C6 n6 u30) from by rw [HZeh.out];exact sX HV.out.g.1 HV.out.m.1 HMR.out HV.out.m.2.2.1 HV.out.m.2.2.2 u30 (H.k 0) ((H.o 1).mono (Nat.zero_le _)) (by omega) (H.rs 5) (H.rs 3))) ?_
 rintro e w31 ⟨A7,c7,D7,d7,C7,n7,k7,v7,rfl,hn7,hq⟩;replace H:=H.stp hq;clear hq;replace H:=H.d 6;replace H:=H.d 4;replace H:=H.d 4;replace H:=H.d 3;refine zN ?_;clear H;intro u32 H;replace H:=((H.r 2).r 2);refine zG ((show Calls Tryz.prog 210 #[_,_,_] u32 (jC z.o.1 z.o.2 75 (u2.heap.size) C7 n7 u32) from by rw [HZo.out];exact dO HV.out.h.1 HV.out.v.1 HHV.out HV.out.h.2.2.2 u32 (H.k 0) ((H.o 1).mono (Nat.zero_le _)) (by omega) (H.rs 3) (H.rs 5))) ?_
 rintro e w33 ⟨A8,c8,D8,d8,C8,n8,k8,v8,rfl,hn8,hq⟩;replace H:=H.stp hq;clear hq;refine zN ?_;clear H;intro u34 H;refine zX (tg [w33.heap.size,u2.heap.size]) ?_;clear H;intro S w35 hne H;refine zD ((And.intro (H.c 0) (H.c 1))) ?_;intro G;refine yS ?_;clear H;intro w36 H;refine yN ?_;clear H G;intro u37 H;refine zS_ ?_;clear H;intro u38 H
 exact (by rw [HZZ.out];exact ⟨A8,c8,D8,d8,C8,n8,k8,v8,rfl,qS.a (H.p 3),qS.b (H.p 3),(H.o 2),by omega,H.O⟩)
end
section
attribute [local go_sem] af ah ae
theorem Below.drewN {B:Nat} {w0 w:World} (h:Below B w0 w) (n:Nat):Below B w0 (w.drewN n):=⟨h.os,h.tape,h.output,h.size,h.block⟩
theorem jq (a b r c:Int) (x2 x3 x4 x5:Value) (w:World):Calls Tryz.prog 323 #[.agg #[.int .i64 a,.int .i64 b,x2,x3,x4,x5],.int .i64 r,.int .i64 c] w fun e w'=>e= .returned (.tuple #[.int .i64 a,.int .i64 c,.bool (b == r)])/\Below w.heap.size w w':=by
 go_enter Tryz.func323,Tryz.ntmps323
 go_wp2_with fail
 obtain ⟨uw1,hu⟩:∃ u,u=(w.alloc (.cells #[.int .i64 a,.int .i64 b,x2,x3,x4,x5] 178)):=⟨_,rfl⟩;rw [<- hu];have B1:Blk uw1 (w.heap.size) 178 #[.int .i64 a,.int .i64 b,x2,x3,x4,x5]:=Blk.cast hu (Blk.iA (by first | omega | (simp;done) | (simp;omega)))
 have O:Below w.heap.size w uw1:=Below.cast hu ((Below.refl _ _).alloc (by first | omega | (simp;done) | (simp;omega)) _)
 have mw:=O.size;clear hu;obtain ⟨z1,c1_0,f1_0,c1_1,f1_1,c1_2,f1_2,c1_3,f1_3,c1_4,f1_4,c1_5,f1_5⟩:=B1.f6
 go_quiet (fail)
 go_wp2
 exact bodyPost_ret (v:= .tuple #[.int .i64 a,.int .i64 c,.bool (b == r)]) (by simp [results,Tryz.results323,go_sem,z1,c1_0,f1_0,c1_1,f1_1,c1_2,f1_2,c1_3,f1_3,c1_4,f1_4,c1_5,f1_5]) rfl ⟨rfl,Below.drewN O nq⟩
theorem kj (r c:Int) (w:World):Calls Tryz.prog 331 #[.agg #[],.int .i64 r,.int .i64 c] w fun e w'=>e= .returned (.tuple #[.int .i64 r,.int .i64 c,.bool true])/\Below w.heap.size w w':=by
 go_enter Tryz.func331,Tryz.ntmps331
 go_wp2
 exact bodyPost_ret (v:= .tuple #[.int .i64 r,.int .i64 c,.bool true]) (by simp [results,Tryz.results331,go_sem,]) rfl ⟨rfl,((Below.refl _ _).alloc (by first | omega | (simp;done) | (simp;omega)) _)⟩
theorem DL {b off cap:Nat} (q r c:Int) (w:World) (hb:b<w.heap.size) (h0:w.cell? ⟨b,off,none⟩=some (.int .i64 q)):Calls Tryz.prog 334 #[.agg #[.slice (some ⟨b,off,none⟩) 3 cap],.int .i64 r,.int .i64 c] w fun e w'=>e= .returned (.tuple #[.int .i64 r,.int .i64 c,.bool (q == c)])/\Below w.heap.size w w':=by
 go_enter Tryz.func334,Tryz.ntmps334
 go_wp2_with fail
 obtain ⟨uw1,hu⟩:∃ u,u=(w.alloc (.cells #[.slice (some ⟨b,off,none⟩) 3 cap] 183)):=⟨_,rfl⟩;rw [<- hu];have B1:Blk uw1 (w.heap.size) 183 #[.slice (some ⟨b,off,none⟩) 3 cap]:=Blk.cast hu (Blk.iA (by first | omega | (simp;done) | (simp;omega)))
 have O:Below w.heap.size w uw1:=Below.cast hu ((Below.refl _ _).alloc (by first | omega | (simp;done) | (simp;omega)) _)
 have mw:=O.size;have d0:=(O.cell (p:=⟨b,off,none⟩) hb).trans h0;have zb:=Nat.lt_of_lt_of_le hb O.size;clear hu;obtain ⟨z1,c1_0,f1_0⟩:=B1.f1
 go_quiet (fail)
 go_wp2
 exact bodyPost_ret (v:= .tuple #[.int .i64 r,.int .i64 c,.bool (q == c)]) (by simp [results,Tryz.results334,go_sem,z1,c1_0,f1_0]) rfl ⟨rfl,Below.drewN O nq⟩
end
end Go.Proofs.YtjciicheoghcdaaGreatDoor

/- Part of the proof that the law FnExactServiceRun of the given program returns true for every input. -/
import Derived.Test.YtjciicheoghcdaaGreatDoorYo
import Derived.Test.YtjciicheoghcdaaGreatDoorYp
import Derived.Test.YtjciicheoghcdaaGreatDoorYq
import Derived.Test.YtjciicheoghcdaaGreatDoorYr
namespace Go.Proofs.YtjciicheoghcdaaGreatDoor
open Go.RowKit
set_option linter.unusedSimpArgs false
set_option linter.unusedVariables false
set_option maxRecDepth 20000
set_option maxHeartbeats 16000000
section
attribute [local go_sem] af ah ae
theorem Hq.spl {w0 w:World} {L:List Ow} {c d:Ow} (H:Hq w0 (c.and d::L) w) (hn:∀ i,c.F i->¬ d.F i):Hq w0 (c::d::L) w:=by
 refine ⟨⟨H.S.1.1,fun i hi e he=> ?_,H.S.1.2,fun i hi e he=>H.S.2.1 i (.inr hi) e he,H.S.2.2⟩,fun e he i hi=> ?_,H.O⟩
 ·rcases List.mem_cons.1 he with rfl | he
  ·exact hn i hi
  ·exact H.S.2.1 i (.inl hi) e he
 ·rcases List.mem_cons.1 he with rfl | he
  ·exact H.B (e.and d) (List.mem_cons_self ..) i (.inl hi)
  ·rcases List.mem_cons.1 he with rfl | he
   ·exact H.B (c.and e) (List.mem_cons_self ..) i (.inr hi)
   ·exact H.tl.B e he i hi
def Fi (r c:Int) (n:Nat) (w:World) (e:Ending) (w':World):Prop:=∃ gP gQ cP cQ:Nat,e= .returned (SMV r c (some ⟨gP,0,none⟩) n cP r c (some ⟨gQ,0,none⟩) n cQ)/\OS w' w.heap.size (some ⟨gP,0,none⟩) n cP (List.replicate n 0)/\OS w' w.heap.size (some ⟨gQ,0,none⟩) n cQ (List.replicate n 0)/\gP≠gQ/\Below w.heap.size w w'
theorem jr {r c:Int} {n:Nat} (hN:r*c=(n:Int)) (hn1:0<n) (hn2:n<=1048576) (w:World):Calls Tryz.prog 250 #[.int .i64 r,.int .i64 c] w (Fi r c n w):=by
 have HN:=Lib.hid hN;clear hN;refine zE ?_;intro u1 H;refine zO (di HN.out hn2 u1) ?_;clear H;intro w2 P cP u2 H;refine zO (di HN.out hn2 u2) ?_;clear H;intro w3 Q cQ u3 H
 (try dsimp only at H ⊢)
 rw [List.length_replicate] at H;obtain ⟨gP,rfl,-,-⟩:=OS.pos (H.o 1) hn1;obtain ⟨gQ,rfl,-,-⟩:=OS.pos (H.o 0) hn1;refine zS_ ?_;clear H;intro u4 H
 exact ⟨gP,gQ,cP,cQ,rfl,(H.o 1),(H.o 0),fun e=>H.noo 0 1 gQ rfl (congrArg some e),H.O⟩
theorem jI {r c r' c':Int} {n p q i:Nat} {A B:Option Addr} {u v:List Int} (hi:i<n) (w:World) (hx:SI w A n u) (hy:SI w B n v) :
  Calls Tryz.prog 253 #[SMV r c A n p r' c' B n q,.int .i64 (i:Int)] w fun e w'=>e= .returned (T2 (u.getD i 0) (v.getD i 0))/\Below w.heap.size w w':=by
 obtain ⟨a,o,rfl,ha,hc⟩:=hx.2 (by omega)
 obtain ⟨b,o',rfl,hb',hc'⟩:=hy.2 (by omega)
 have cx:=hc i hi;have cy:=hc' i hi;have j0:(0:Int)<=(i:Int):=by omega
 have j1:(i:Int)<(n:Int):=by omega
 clear hc hc' hx hy;refine zE ?_;intro u1 H;have la:=Nat.lt_of_lt_of_le ha H.m;have lb:=Nat.lt_of_lt_of_le hb' H.m;refine zX (tg [w.heap.size,a,b]) ?_;clear H;intro S w2 hne H;refine zD (H.c 1) ?_;intro G;have rx:=H.row ((H.O.cell (p:=⟨a,o+i,none⟩) ha).trans cx);have ry:=H.row ((H.O.cell (p:=⟨b,o'+i,none⟩) hb').trans cy);refine yS ?_;clear H;intro w3 H;refine yN ?_;clear H G;intro u4 H;refine zS_ ?_;clear H;intro u5 H
 exact ⟨rfl,H.O⟩
theorem BE {r c r' c' x y:Int} {n p q i g h:Nat} {v1 v2:Value} (hi:i<n) (hne:g≠h) (w:World) (hg:g<w.heap.size) (hh:h<w.heap.size) (hc1:w.cell? ⟨g,i,none⟩=some v1) (hf1:w.frozen? ⟨g,i,none⟩=false) (hc2:w.cell? ⟨h,i,none⟩=some v2) (hf2:w.frozen? ⟨h,i,none⟩=false) :
  Calls Tryz.prog 254 #[SMV r c (some ⟨g,0,none⟩) n p r' c' (some ⟨h,0,none⟩) n q,.int .i64 (i:Int),T2 x y] w fun e w'=>e= .returned undef/\Below ((w.setCell ⟨g,i,none⟩ (.int .i64 x)).setCell ⟨h,i,none⟩ (.int .i64 y)).heap.size ((w.setCell ⟨g,i,none⟩ (.int .i64 x)).setCell ⟨h,i,none⟩ (.int .i64 y)) w':=by
 have j0:(0:Int)<=(i:Int):=by omega
 have j1:(i:Int)<(n:Int):=by omega
 have n1:¬ g=w.heap.size:=by omega
 have n2:¬ g=w.heap.size+1:=by omega
 have n3:¬ h=w.heap.size:=by omega
 have n4:¬ h=w.heap.size+1:=by omega
 have n5:¬ w.heap.size=g:=by omega
 have n6:¬ w.heap.size+1=g:=by omega
 have n7:¬ h=g:=fun e=>hne e.symm
 go_enter Tryz.func254,Tryz.ntmps254
 go_wp2
 go_end0
 exact ⟨rfl,((Below.refl _ _).alloc (Nat.le_refl _) _).alloc (by simp) _⟩
theorem vW {w0 w:World} {L:List Ow} {b g h n p n' i:Nat} {xs ys:List Int} {r c r' c' x y:Int} (H:Hq w0 (qO b (some ⟨g,0,none⟩) n p xs::qO b (some ⟨h,0,none⟩) n n' ys::L) w) (hi:i<n) :
  Calls Tryz.prog 254 #[SMV r c (some ⟨g,0,none⟩) n p r' c' (some ⟨h,0,none⟩) n n',.int .i64 (i:Int),T2 x y] w fun e w'=>e= .returned undef/\Hq w0 (qO b (some ⟨g,0,none⟩) n p (xs.set i x)::qO b (some ⟨h,0,none⟩) n n' (ys.set i y)::L) w':=by
 obtain ⟨z1,c1,f1⟩:=a7 (H.o 0) hi;obtain ⟨z2,c2,f2⟩:=a7 (H.o 1) hi;refine (BE hi (fun e=>H.noo 0 1 g rfl (congrArg some e.symm)) w z1 z2 c1 f1 c2 f2).mono ?_
 rintro e w' ⟨rfl,hb⟩
 exact ⟨rfl,Hq.b ((H.st Upd.o0).st (Upd.t0 Upd.o0)) hb⟩
def zJ (p:Mx×Mx) (w:World) (e:Ending) (w':World):Prop:=∃ (A B:Option Addr) (c d:Nat),e= .returned (SMV p.1.r p.1.c A p.1.v.length c p.2.r p.2.c B p.2.v.length d)/\OS w' w.heap.size A p.1.v.length c p.1.v/\OS w' w.heap.size B p.2.v.length d p.2.v/\eJ A B/\Below w.heap.size w w'
theorem tZ {p q:Mx×Mx} {f:FuncId} {caps:Array Value} {x:Value} (w:World) (hx:RS w x p) (hrun:∀ (W:World) (args:Array Value),(callFunc f args).run Tryz.prog W= .ok (.enter f args) W)
  (hS:(∀ W v,Below w.heap.size w W->RM W v p.1->Calls Tryz.prog f (#[v]++caps) W (bD q.1 W))/\(∀ W v,Below w.heap.size w W->RM W v p.2->Calls Tryz.prog f (#[v]++caps) W (bD q.2 W))) :
  Calls Tryz.prog 82 #[x,.func (.func f) #[] caps] w (zJ q w):=by
 obtain ⟨A,B,a,b,rfl,h1,h2,h3,h4,h5,h6⟩:=hx;have HX:=Lib.hid (RM.mk h1 h2 h3);have HY:=Lib.hid (RM.mk h4 h5 h6);have HS:=Lib.hid hS;clear h1 h2 h3 h4 h5 h6 hS;refine zE ?_;intro u1 H;refine zX (tg [w.heap.size]) ?_;clear H;intro S w2 hne H;refine zD (H.c 1) ?_;intro G;refine yO (HS.out.1 _ _ H.O (RM.below HX.out H.O)) ?_;clear H;intro w3 P cP H;refine yO (HS.out.2 _ _ H.O (RM.below HY.out H.O)) ?_;clear H;intro w4 Q cQ H;refine yS ?_;clear H;intro w5 H;refine yN ?_;clear H G;intro u6 H;refine zS_ ?_;clear H;intro u7 H
 exact ⟨P,Q,cP,cQ,rfl,(H.o 1),(H.o 0),fun i hi hi'=>H.noo 0 1 i hi' hi,H.O⟩
theorem Ak {p q:Mx×Mx} {f:FuncId} {caps:Array Value} {x:Value} (w:World) (hx:RS w x p) (hrun:∀ (W:World) (args:Array Value),(callFunc f args).run Tryz.prog W= .ok (.enter f args) W)
  (hS:(∀ W v,Below w.heap.size w W->RM W v p.1->Calls Tryz.prog f (#[v]++caps) W (bD q.1 W))/\(∀ W v,Below w.heap.size w W->RM W v p.2->Calls Tryz.prog f (#[v]++caps) W (bD q.2 W))) :
  Calls Tryz.prog 82 #[x,.func (.func f) #[] caps] w (jW q w):=by
 refine (tZ w hx hrun hS).mono ?_;rintro e w' ⟨A,B,c,d,h1,h2,h3,_,h5⟩
 exact ⟨A,B,c,d,h1,h2,h3,h5⟩
end
section
attribute [local go_sem] af ah ae
theorem oK {kd:Int} (hK:1<=kd/\kd<=5) {p:Mx×Mx} {s:Int} (hop:okS p=true) (hs:sdB s=true) {x:Value} (w:World) (hx:RS w x p):Calls Tryz.prog 214 #[.int .i64 kd,x,.int .i64 s] w (bo (dv (fnv kd) p s).1 (dv (fnv kd) p s).2 25 w):=by
 obtain ⟨A,B,a,b,rfl,q1,q2,q3,q4,q5,q6⟩:=hx;have hX:=RS.mk q1 q2 q3 q4 q5 q6;have hlen:=bt (show az p.1 p.2=true from hop)
 obtain ⟨l1,s1,s2,_⟩:=cZ (ai hop).1;obtain ⟨n,hnn⟩:∃ n,n=p.1.v.length:=⟨_,rfl⟩;have hX1:SI w A n p.1.v:=by rw [hnn];exact q1
 have hX2:SI w B n p.2.v:=by rw [hnn,hlen.1];exact q4
 have hN:p.1.r*p.1.c=(n:Int):=by rw [hnn];exact l1.symm
 have hn1:0<n:=by omega
 have hn25:n<=25:=by omega
 have hn2:n<=1048576:=by omega
 have hMP:dv (fnv kd) p s=((⟨p.1.r,p.1.c,fl (mp1 p s) n⟩,⟨p.1.r,p.1.c,fl (mp2 (fnv kd) p s) n⟩),mpS s n):=by rw [hnn];rfl
 rw [<- hlen.1,<- hnn] at hX ⊢;have hmk:∀ W:World,(Instr.makeSlice 35 (.int .i64 (n:Int)) (.int .i64 (n:Int))).run Tryz.prog W= .ok (.slice (some ⟨W.heap.size,0,none⟩) n n) (W.alloc (ZB n)):=fun W=>jc n (by omega) W
 clear q1 q2 q3 q4 q5 q6 hlen l1 s1 s2 hnn;have HK:=Lib.hid hK;have HOP:=Lib.hid hop;have HS:=Lib.hid hs;have HX:=Lib.hid hX;have HX1:=Lib.hid hX1;have HX2:=Lib.hid hX2;have HN:=Lib.hid hN;have HMP:=Lib.hid hMP;clear hK hop hs hX hX1 hX2 hN hMP;refine zE ?_;intro u1 H;refine zP (aC HK.out u1) ?_;clear H;intro u2 H;refine zB (gC HOP.out u2 (RS.below HX.out H.O)) ?_;clear H;intro w3 u3 H;refine zP (aU (dH HS.out) u3) ?_;clear H;intro u4 H;refine zO (lh HK.out u4) ?_;clear H;intro w5 FA cV u5 H;refine zG (jr HN.out hn1 hn2 u5) ?_;rintro e w6 ⟨gP,gQ,cP,cQ,rfl,f1,f2,hne,hb⟩;replace H:=H.oo hb f1 f2;clear f1 f2 hb;replace H:=H.spl (fun i hi hi'=>hne (Option.some.inj (hi.trans hi'.symm)))
 refine zC ?_;intro C;intros;go_wp2;refine nqW (Hq.os (Hq.al (t:=82) (cs:=[.int .i64 p.1.r,.int .i64 p.1.c,.slice (some ⟨gP,0,none⟩) n cP,.int .i64 p.1.r,.int .i64 p.1.c,.slice (some ⟨gQ,0,none⟩) n cQ]) H rfl) ((Below.refl _ _).alloc (Nat.le_refl _) _) (OS.sN _ n (by omega))) ?_
 clear H C;intro u7 H;simp only [World.size_alloc] at H;obtain ⟨gO,hgO⟩:∃ g,g=w6.heap.size+1:=⟨_,rfl⟩;rw [<- hgO] at H ⊢;obtain ⟨gM,hgM⟩:∃ g,g=w6.heap.size:=⟨_,rfl⟩;rw [<- hgM] at H ⊢;clear hgO hgM hne;replace H:=(((((((H.r 5).r 6).r 3).r 6).r 4).r 6).r 6);intros
 go_loopw [2,47] (fun vs i wr=>∃ (j:Nat) (v:List Int),j<=n/\i= .int .i64 j/\vs= .int .i64 (mpS s j)/\Hid (Hq w [qO w.heap.size (some ⟨gP,0,none⟩) n cP (fl (mp1 p s) j++List.replicate (n-j) 0),qO w.heap.size (some ⟨gQ,0,none⟩) n cQ (fl (mp2 (fnv kd) p s) j++List.replicate (n-j) 0),qO w.heap.size (some ⟨gO,0,none⟩) n n v,qO w.heap.size FA 4096 cV (fl (fnv kd) 4096),qB gM 82 [.int .i64 p.1.r,.int .i64 p.1.c,.slice (some ⟨gP,0,none⟩) n cP,.int .i64 p.1.r,.int .i64 p.1.c,.slice (some ⟨gQ,0,none⟩) n cQ],qB w.heap.size 82 [.int .i64 p.1.r,.int .i64 p.1.c,.slice A n a,.int .i64 p.2.r,.int .i64 p.2.c,.slice B n b],qB (w.heap.size+1) 82 [.int .i64 0,.int .i64 0,.slice none 0 0,.int .i64 0,.int .i64 0,.slice none 0 0]] wr)) (fun _ i _=>n-(intOf i).toNat)
 case atStart=>exact ⟨0,_,Nat.zero_le _,rfl,rfl,(by rw [Nat.sub_zero];exact H)⟩
 case round =>
 clear H;obtain ⟨j,v,hj,rfl,rfl,H⟩:=hrel;have H:=H.out
 by_cases hlt:j<n
 ·obtain ⟨σ,hσ⟩:∃ x,x=mpS s j:=⟨_,rfl⟩;obtain ⟨a1,ha1⟩:∃ x,x=p.1.v.getD j 0:=⟨_,rfl⟩;obtain ⟨a2,ha2⟩:∃ x,x=p.2.v.getD j 0:=⟨_,rfl⟩;have hsv:sv a1 a2=true:=by rw [ha1,ha2];exact fX (dE (ai HOP.out).1 j) (dE (ai HOP.out).2.1 j)
  obtain ⟨jj,hjj⟩:∃ x,x=shJ p j:=⟨_,rfl⟩;have hsh:(a1+a2)%4096=jj:=by rw [hjj,ha1,ha2];rfl
  have hso:sdB σ=true:=by rw [hσ];exact qn HS.out j
  have hnx:mpS s (j+1)=sds (sds σ 2) 4096:=by rw [hσ];rfl
  obtain ⟨d1,hd1⟩:∃ x,x=lk1 σ jj:=⟨_,rfl⟩;obtain ⟨d2,hd2⟩:∃ x,x=lk2 (fnv kd) σ jj:=⟨_,rfl⟩;obtain ⟨d3,hd3⟩:∃ x,x=(jj+shf σ)%4096:=⟨_,rfl⟩;have HS1:Hid ((fl (mp1 p s) j++List.replicate (n-j) 0).set j d1=(fl (mp1 p s) (j+1)++List.replicate (n-(j+1)) 0)):=by have h:=jF (mp1 p s) n j hlt;rw [show mp1 p s j=d1 from by rw [hd1,hσ,hjj];unfold mp1;rfl] at h;exact h
  have HS2:Hid ((fl (mp2 (fnv kd) p s) j++List.replicate (n-j) 0).set j d2=(fl (mp2 (fnv kd) p s) (j+1)++List.replicate (n-(j+1)) 0)):=by have h:=jF (mp2 (fnv kd) p s) n j hlt;rw [show mp2 (fnv kd) p s j=d2 from by rw [hd2,hσ,hjj];unfold mp2;rfl] at h;exact h
  rw [<- hσ];have HSV:=Lib.hid hsv;have HSH:=Lib.hid hsh;have HSO:=Lib.hid hso;have HNX:=Lib.hid hnx;have HA1:=Lib.hid ha1;have HA2:=Lib.hid ha2;have HD1:=Lib.hid hd1;have HD2:=Lib.hid hd2;have HD3:=Lib.hid hd3;clear hsv hsh hso hnx ha1 ha2 hd1 hd2 hd3 hσ hjj;refine zN ?_;clear H;intro u21 H;refine zOO (rq (fnv kd) (fun j _=>pX kd j) (dH HSO.out) FA cV u21 (OS.si (H.o 4))) ?_;clear H;intro w22 TA TB tc td u22 H
  have E:=H.el;refine zXF (tgF [wr.heap.size,w.heap.size] 9 14 (.cells #[.int .i64 0,.int .i64 0] 213)) ?_;clear H;intro S w23 hne H;refine zD ((And.intro (H.c 1) (H.c 7))) ?_;intro G;intros;refine f_ (fun w24 (hb:Bw w23 w24)=>jI (p:=a) (q:=b) hlt w24 (SI.below HX1.out (H.b hb).O) (SI.below HX2.out (H.b hb).O)) ?_;clear H
  rintro w24 K hK H e w25 ⟨rfl,hb⟩;replace H:=H.b hb;rw [<- HA1.out,<- HA2.out];refine fK ?_;clear hK K hb;intros;refine f_ (fun w26 (hb:Bw w25 w26)=>Aj (f:=fnv kd) (fun j _=>pX kd j) HSV.out HSH.out TA TB tc td w26 (OS.si (Ow.P1 ((H.b hb).p 0))) (OS.si (Ow.P2 ((H.b hb).p 0)))) ?_;clear H
  rintro w26 K hK H e w27 ⟨rfl,hb⟩;replace H:=H.b hb;rw [<- HD1.out,<- HD2.out,<- HD3.out];refine fK ?_;clear hK K hb;refine yG ?_;clear H;intro w28 g28 hg28 H;refine yS ?_;clear H;intro w29 H;refine yN ?_;clear H G;intro u30 H;replace H:=(((H.d 0).d 0).d 0);refine zG (vW H hlt) ?_;rintro e wp ⟨rfl,hq⟩;replace H:=hq;clear hq;obtain ⟨z4,c4,f4⟩:=a7 (H.o 2) hlt;have i0:(0:Int)<=(j:Int):=by omega
  have i1:(j:Int)<(n:Int):=by omega
  refine zC ?_;intro C;intros;go_wp2
  go_roundw
  case rel=>exact ⟨j+1,_,by omega,by go_num,by rw [HNX.out],by rw [<- HS1.out,<- HS2.out];exact Lib.hid hq⟩
  case measure=>simp [intOf];omega
 ·obtain rfl:j=n:=by omega
  rw [Nat.sub_self,List.replicate_zero,List.append_nil,List.append_nil] at H;refine zS_ ?_;clear H;intro u61 H
  exact (by rw [HMP.out];exact ⟨_,cP,_,cQ,_,_,_,v,by dsimp only;rw [aD,aD];rfl,by dsimp only;rw [aD];exact (H.o 0),by dsimp only;rw [aD];exact (H.o 1),(H.o 2),by omega,H.O⟩)
end
section
attribute [local go_sem] af ah ae
theorem my {p yq:Mx×Mx} {s:Int} (hop:okS p=true) (hoq:okS yq=true) (hr:yq.1.r=p.1.r) (hc1:yq.1.c=1) (hs:sdB s=true) {x y:Value} (w:World) (hx:RS w x p) (hy:RS w y yq) :
  Calls Tryz.prog 256 #[x,y,.int .i64 s] w (bo (c_ p yq s).1 (c_ p yq s).2 50 w):=by
 obtain ⟨A,B,a,b,rfl,q1,q2,q3,q4,q5,q6⟩:=hx;obtain ⟨E,F,e1,f1,rfl,r1,r2,r3,r4,r5,r6⟩:=hy;have hX:=RS.mk q1 q2 q3 q4 q5 q6;have hY:=RS.mk r1 r2 r3 r4 r5 r6;have hlen:=bt (show az p.1 p.2=true from hop)
 have hlem:=bt (show az yq.1 yq.2=true from hoq)
 obtain ⟨l1,s1,s2,_⟩:=cZ (ai hop).1;obtain ⟨l2,_,_,_⟩:=cZ (ai hoq).1;obtain ⟨n,hnn⟩:∃ n,n=p.1.v.length:=⟨_,rfl⟩;obtain ⟨m,hmm⟩:∃ m,m=yq.1.v.length:=⟨_,rfl⟩;obtain ⟨c,hcc⟩:∃ c,c=p.1.c.toNat:=⟨_,rfl⟩;have hX1:SI w A n p.1.v:=by rw [hnn];exact q1
 have hX2:SI w B n p.2.v:=by rw [hnn,hlen.1];exact q4
 have hY1:SI w E m yq.1.v:=by rw [hmm];exact r1
 have hY2:SI w F m yq.2.v:=by rw [hmm,hlem.1];exact r4
 have hN:p.1.r*p.1.c=(n:Int):=by rw [hnn];exact l1.symm
 have hn1:0<n:=by omega
 have hn25:n<=25:=by omega
 have hn2:n<=1048576:=by omega
 have hCC:p.1.c=(c:Int):=by rw [hcc];exact (et s2).symm
 have hc0:1<=c:=by have:=bI s2;omega
 have cs0:¬ p.1.c=0:=by omega
 have hMR:(m:Int)=p.1.r:=by rw [hmm,l2,hc1,hr];omega
 have hNC:n=m*c:=by have h:(n:Int)=(m:Int)*(c:Int):=(by rw [<- hN,hMR,hCC]);exact_mod_cast h
 have hm25:m<=25:=by rw [hmm];omega
 have hMP:c_ p yq s=((⟨p.1.r,p.1.c,fl (sc1 p yq s) n⟩,⟨p.1.r,p.1.c,fl (sc2 p yq s) n⟩),scS s n):=by rw [hnn];rfl
 rw [<- hlen.1,<- hnn] at hX ⊢;rw [<- hlem.1,<- hmm] at hY ⊢;have hq1:(yq.1.c != 1)=false:=by simp [hc1]
 have hq2:(yq.1.r != p.1.r)=false:=by simp [hr]
 clear q1 q2 q3 q4 q5 q6 r1 r2 r3 r4 r5 r6 hlen hlem l1 l2 s1 s2 hnn hmm hcc hc1 hr hMR;have HOP:=Lib.hid hop;have HOQ:=Lib.hid hoq;have HS:=Lib.hid hs;have HX:=Lib.hid hX;have HY:=Lib.hid hY;have HX1:=Lib.hid hX1;have HX2:=Lib.hid hX2;have HY1:=Lib.hid hY1;have HY2:=Lib.hid hY2;have HN:=Lib.hid hN;have HNC:=Lib.hid hNC;have HCC:=Lib.hid hCC;have HMP:=Lib.hid hMP;clear hop hoq hs hX hY hX1 hX2 hY1 hY2 hN hNC hCC hMP;refine zE ?_;intro u1 H;refine zB (gC HOP.out u1 (RS.below HX.out H.O)) ?_;clear H;intro w2 u2 H;refine zB (gC HOQ.out u2 (RS.below HY.out H.O)) ?_;clear H;intro w3 u3 H;refine zP (aU (dH HS.out) u3) ?_;clear H;intro u4 H;refine zG (jr HN.out hn1 hn2 u4) ?_;rintro e w5 ⟨gP,gQ,cP,cQ,rfl,f1',f2,hne,hb⟩;replace H:=H.oo hb f1' f2;clear f1' f2 hb;replace H:=H.spl (fun i hi hi'=>hne (Option.some.inj (hi.trans hi'.symm)))
 refine zN ?_;clear H;intro u6 H;obtain ⟨gM,hgM⟩:∃ g,g=w5.heap.size:=⟨_,rfl⟩;rw [<- hgM] at H ⊢;clear hgM hne;replace H:=H.nil;replace H:=(((((((H.r 4).r 5).r 6).r 4).r 4).r 6).r 6);intros
 go_loopw [2,10,56] (fun vs vo i wr=>∃ (j k0:Nat) (Ca:Option Addr) (v:List Int),j<=n/\i= .int .i64 j/\vs= .int .i64 (scS s j)/\vo= .slice Ca (2*j) k0/\Hid (Hq w [qO w.heap.size (some ⟨gP,0,none⟩) n cP (fl (sc1 p yq s) j++List.replicate (n-j) 0),qO w.heap.size (some ⟨gQ,0,none⟩) n cQ (fl (sc2 p yq s) j++List.replicate (n-j) 0),qO w.heap.size Ca (2*j) k0 v,qB gM 82 [.int .i64 p.1.r,.int .i64 p.1.c,.slice (some ⟨gP,0,none⟩) n cP,.int .i64 p.1.r,.int .i64 p.1.c,.slice (some ⟨gQ,0,none⟩) n cQ],qB w.heap.size 82 [.int .i64 p.1.r,.int .i64 p.1.c,.slice A n a,.int .i64 p.2.r,.int .i64 p.2.c,.slice B n b],qB (w.heap.size+1) 82 [.int .i64 yq.1.r,.int .i64 yq.1.c,.slice E m e1,.int .i64 yq.2.r,.int .i64 yq.2.c,.slice F m f1],qB (w.heap.size+2) 82 [.int .i64 0,.int .i64 0,.slice none 0 0,.int .i64 0,.int .i64 0,.slice none 0 0]] wr)) (fun _ _ i _=>n-(intOf i).toNat)
 case atStart=>exact ⟨0,0,none,_,Nat.zero_le _,rfl,rfl,rfl,(by rw [Nat.sub_zero];exact H)⟩
 case round =>
 clear H;obtain ⟨j,k0,Ca,v,hj,rfl,rfl,rfl,H⟩:=hrel;have H:=H.out
 by_cases hlt:j<n
 ·obtain ⟨σ,hσ⟩:∃ x,x=scS s j:=⟨_,rfl⟩;obtain ⟨d,hd⟩:∃ x,x=j/c:=⟨_,rfl⟩;have hdm:d<m:=by rw [hd];exact Nat.div_lt_of_lt_mul (by rw [Nat.mul_comm,<- HNC.out];exact hlt)
  have hdq:(j:Int)/p.1.c=(d:Int):=by rw [hd,HCC.out];exact (Int.natCast_ediv j c).symm
  have hdq2:Int.tdiv (j:Int) p.1.c=(d:Int):=by rw [Int.tdiv_eq_ediv_of_nonneg (by omega)];exact hdq
  have hwd:=IntWalk.i64_in (d:Int) (by omega)
  obtain ⟨a1,ha1⟩:∃ x,x=p.1.v.getD j 0:=⟨_,rfl⟩;obtain ⟨a2,ha2⟩:∃ x,x=p.2.v.getD j 0:=⟨_,rfl⟩;obtain ⟨b1,hb1⟩:∃ x,x=yq.1.v.getD d 0:=⟨_,rfl⟩;obtain ⟨b2,hb2⟩:∃ x,x=yq.2.v.getD d 0:=⟨_,rfl⟩;have hsv:sv a1 a2=true:=by rw [ha1,ha2];exact fX (dE (ai HOP.out).1 j) (dE (ai HOP.out).2.1 j)
  have htv:sv b1 b2=true:=by rw [hb1,hb2];exact fX (dE (ai HOQ.out).1 d) (dE (ai HOQ.out).2.1 d)
  have hso:sdB σ=true:=by rw [hσ];exact qH HS.out j
  have hnx:scS s (j+1)=sds σ 5:=by rw [hσ];rfl
  have hct:p.1.c.toNat=c:=by rw [HCC.out];rfl
  obtain ⟨d1,hd1⟩:∃ x,x=mP1 (rn σ 4) (rn σ 2) (rn σ 0) (mD a1 a2 (rn σ 0) (rn σ 1)) (mD b1 b2 (rn σ 2) (rn σ 3)):=⟨_,rfl⟩;obtain ⟨d2,hd2⟩:∃ x,x=mP2 ((tC σ-rn σ 4)%4096) (rn σ 3) (rn σ 1) (mD a1 a2 (rn σ 0) (rn σ 1)) (mD b1 b2 (rn σ 2) (rn σ 3)):=⟨_,rfl⟩;have HS1:Hid ((fl (sc1 p yq s) j++List.replicate (n-j) 0).set j d1=(fl (sc1 p yq s) (j+1)++List.replicate (n-(j+1)) 0)):=by have h:=jF (sc1 p yq s) n j hlt;rw [show sc1 p yq s j=d1 from by rw [hd1];unfold sc1 scD scE;rw [hct,<- hd,<- hσ,ha1,ha2,hb1,hb2]] at h;exact h
  have HS2:Hid ((fl (sc2 p yq s) j++List.replicate (n-j) 0).set j d2=(fl (sc2 p yq s) (j+1)++List.replicate (n-(j+1)) 0)):=by have h:=jF (sc2 p yq s) n j hlt;rw [show sc2 p yq s j=d2 from by rw [hd2];unfold sc2 scD scE;rw [hct,<- hd,<- hσ,ha1,ha2,hb1,hb2]] at h;exact h
  rw [<- hσ];have HSV:=Lib.hid hsv;have HTV:=Lib.hid htv;have HSO:=Lib.hid hso;have HNX:=Lib.hid hnx;have HA1:=Lib.hid ha1;have HA2:=Lib.hid ha2;have HB1:=Lib.hid hb1;have HB2:=Lib.hid hb2;have HD1:=Lib.hid hd1;have HD2:=Lib.hid hd2;clear hsv htv hso hnx ha1 ha2 hb1 hb2 hd1 hd2 hσ hct hd;refine zN ?_;clear H;intro u21 H;refine zB (qd (dH HSO.out) u21) ?_;clear H;intro w22 u22 H;have E:=H.el;refine zXF (tgF [wr.heap.size,w.heap.size,(w.heap.size+1)] 16 13 (.cells #[.int .i64 0,.int .i64 0] 213)) ?_;clear H;intro S w23 hne H;refine zD ((And.intro (H.c 0) (And.intro (H.c 5) (H.c 6)))) ?_;intro G;intros;refine f_ (fun w24 (hb:Bw w23 w24)=>jI (p:=a) (q:=b) hlt w24 (SI.below HX1.out (H.b hb).O) (SI.below HX2.out (H.b hb).O)) ?_;clear H
  rintro w24 K hK H e w25 ⟨rfl,hb⟩;replace H:=H.b hb;rw [<- HA1.out,<- HA2.out];refine fK ?_;clear hK K hb;intros;refine f_ (fun w26 (hb:Bw w25 w26)=>jI (p:=e1) (q:=f1) hdm w26 (SI.below HY1.out (H.b hb).O) (SI.below HY2.out (H.b hb).O)) ?_;clear H
  rintro w26 K hK H e w27 ⟨rfl,hb⟩;replace H:=H.b hb;rw [<- HB1.out,<- HB2.out];refine fK ?_;clear hK K hb;intros;refine f_ (fun w28 (hb:Bw w27 w28)=>ru HSV.out HTV.out (fX (dp σ 0) (dp σ 1)) (fX (dp σ 2) (dp σ 3)) (fX (dp σ 4) (by omega)) (kX σ) w28) ?_;clear H
  rintro w28 K hK H e w29 ⟨D,cd,rfl,hos,hb⟩;replace H:=H.os hb hos;rw [<- HD1.out,<- HD2.out];refine fK ?_;clear hK K hb;refine yG ?_;clear H;intro w30 g30 hg30 H;refine yS ?_;clear H;intro w31 H;refine yN ?_;clear H G;intro u32 H;replace H:=(((((((((H.d 0).d 1).r 7).r 7).r 7).r 7).r 7).r 7).r 7);refine zG (vW H hlt) ?_;rintro e wp ⟨rfl,hq⟩;replace H:=hq;clear hq;refine zC ?_;intro C;intros
  go_wp2_with (at_builtin;refine zM ?_)
  clear H C;intro u33 H;replace H:=H.r 2;refine zA (OS.si (H.o 7)) True.intro ?_;clear H;intro C1 k1 w33 H;rw [HS1.out,HS2.out,show 2*j+2=2*(j+1) from by omega] at H
  rw [show 2*j+2=2*(j+1) from by omega]
  replace H:=((((((((H.d 7).r 6).r 6).r 6).r 6).r 4).r 6).r 6);refine zC ?_;intro C;intros;go_wp2
  go_roundw
  case rel=>exact ⟨j+1,k1,C1,_,by omega,by go_num,by rw [HNX.out],rfl,H⟩
  case measure=>simp [intOf];omega
 ·obtain rfl:j=n:=by omega
  rw [Nat.sub_self,List.replicate_zero,List.append_nil,List.append_nil] at H;refine zS_ ?_;clear H;intro u61 H
  exact (by rw [HMP.out];exact ⟨_,cP,_,cQ,Ca,_,k0,v,by dsimp only;rw [aD,aD];rfl,by dsimp only;rw [aD];exact (H.o 0),by dsimp only;rw [aD];exact (H.o 1),(H.o 2),by omega,H.O⟩)
end
section
attribute [local go_sem] af ah ae
theorem nI {g:Nat} {s s':Int} {C D:Option Addr} {n k m d:Nat} {v y:List Int} {r c r' c':Int} {A B:Option Addr} {n1 p1 n2 p2:Nat} (w:World) (HB:Blk w g 199 #[.int .i64 s,.slice C n k]) (HO:OS w 0 C n k v) (hD:SI w D m y) (hm:0<m) (hn:n+m<=1000000) :
  Calls Tryz.prog 170 #[.pointer (some ⟨g,0,none⟩),SMV r c A n1 p1 r' c' B n2 p2,.slice D m d,.int .i64 s'] w fun e w'=>e= .returned (SMV r c A n1 p1 r' c' B n2 p2)/\∃ C' k',Hq (fI w) [qB g 199 [.int .i64 s',.slice C' (n+m) k'],qO (fI w).heap.size C' (n+m) k' (v++y),qW w g C] w':=by
 have HD:=Lib.hid hD;have HZ:=Lib.hid (Hq.st0 HB HO);clear hD
 go_in;have H:=Hq.start w
 have cst:=HB.cell 1;have zg:=HB.lt;refine zC ?_;intro C0;intros
 go_wp2_with (at_builtin;refine zM ?_)
 clear H C0 cst zg;intro u2 H;have hd:=SI.below HD.out H.O;replace H:=HZ.out.join H (by repeat constructor)
 clear HZ HD HB HO;replace H:=H.r 3;refine zA hd True.intro ?_;clear H;intro C1 k1 w3 H;refine zS_ ?_;clear H;intro u2 H
 exact ⟨rfl,C1,k1,(((((H.d 1).d 1).r 2).r 1).r 2)⟩
theorem nD {kd:Int} (hK:1<=kd/\kd<=5) {p:Mx×Mx} (hok:okS p=true) {s:Int} {g:Nat} {C:Option Addr} {n k:Nat} {v:List Int} (hsd:sdB s=true) (w:World) (HB:Blk w g 199 #[.int .i64 s,.slice C n k]) (HO:OS w 0 C n k v) (hnN:n+25<=1000000) {x:Value} (hx:RS w x p) :
  Calls Tryz.prog 172 #[.pointer (some ⟨g,0,none⟩),.int .i64 kd,x] w (jC (dv (fnv kd) p s).1 (dv (fnv kd) p s).2 25 g C n w):=by
 obtain ⟨XA,XB,xa,xb,rfl,q1,q2,q3,q4,q5,q6⟩:=hx;have hX:=RS.mk q1 q2 q3 q4 q5 q6;clear q1 q2 q3 q4 q5 q6;obtain ⟨P,hP⟩:∃ P,P=dv (fnv kd) p s:=⟨_,rfl⟩;have HZ:=Lib.hid (Hq.st0 HB HO);have HP:=Lib.hid hP;have HX:=Lib.hid hX;have HK:=Lib.hid hK;have HOK:=Lib.hid hok;have HSD:=Lib.hid hsd;clear hP hX hK hok hsd;have zg:=HB.lt;refine zE ?_;intro u1 H;intros;refine H.BM [w.heap.size] (fun t=>t == 3) true ?_;clear H;intro S w2 hne H
 refine zD (H.c 1) ?_;intro G;have hx:=RS.below HX.out H.O;replace H:=Hr.join HZ.out H (by repeat constructor)
 have cg:w2.cell? ⟨g,0,none⟩=some (.int .i64 s):=(H.k 2).cell 0;refine yL ?_;refine yL ?_;intros;refine y_ ((show Calls Tryz.prog 214 #[_,_,_] w2 (bo P.1 P.2 25 w2) from by rw [HP.out];exact oK HK.out HOK.out HSD.out w2 hx)) ?_
 rintro K hK e w3 ⟨A,c,B,d,D,m,e',y',rfl,h1,h2,h3,hmN,hb⟩;replace H:=H.so hb h1 h2 h3;clear cg hx h1 h2 h3;refine yK ?_;clear hK K;replace H:=((H.r 4).r 4);intros;refine y_ (nI w3 (H.k 0) ((H.o 1).mono (Nat.zero_le _)) (OS.si (Ow.P2 (H.p 2))) (by omega) (by omega)) ?_
 rintro K hK e w4 ⟨rfl,C1,k1,hq⟩;replace H:=H.stp hq (all_cons H.H.nst (all_nil));refine yK ?_;clear hK K hq;replace H:=(H.r 2).pP;refine yZ ?_;clear H G;intro w5 u5 H;refine zS_ ?_;clear H;intro u6 H
 exact (by rw [<- HP.out];exact ⟨A,c,B,d,C1,n+m,k1,_,rfl,by omega,((((((H.d 3).d 3).r 3).r 1).r 3).r 3)⟩)
theorem dO {x y:Mx×Mx} (hox:okS x=true) (hoy:okS y=true) (hxy:x.1.c=y.1.r) {s:Int} {g:Nat} {C:Option Addr} {n k:Nat} {v:List Int} (hsd:sdB s=true) (w:World) (HB:Blk w g 199 #[.int .i64 s,.slice C n k]) (HO:OS w 0 C n k v) (hnN:n+75<=1000000) {u z:Value} (hx:RS w u x) (hy:RS w z y) :
  Calls Tryz.prog 210 #[.pointer (some ⟨g,0,none⟩),u,z] w (jC (dv (fnv 1) (dG x y s).1 (dG x y s).2).1 (dv (fnv 1) (dG x y s).1 (dG x y s).2).2 75 g C n w):=by
 obtain ⟨XA,XB,xa,xb,rfl,q1,q2,q3,q4,q5,q6⟩:=hx;have hX:=RS.mk q1 q2 q3 q4 q5 q6;clear q1 q2 q3 q4 q5 q6;obtain ⟨YA,YB,ya,yb,rfl,q1,q2,q3,q4,q5,q6⟩:=hy;have hY:=RS.mk q1 q2 q3 q4 q5 q6;clear q1 q2 q3 q4 q5 q6;obtain ⟨hop,_,_,hsp⟩:=kI hox hoy hxy hsd;obtain ⟨P,hP⟩:∃ P,P=dG x y s:=⟨_,rfl⟩;rw [<- hP] at hop hsp;obtain ⟨Q,hQ⟩:∃ Q,Q=dv (fnv 1) P.1 P.2:=⟨_,rfl⟩;have hQQ:Q=dv (fnv 1) (dG x y s).1 (dG x y s).2:=by rw [hQ,hP]
 have HZ:=Lib.hid (Hq.st0 HB HO);have HP:=Lib.hid hP;have HQ:=Lib.hid hQ;have HQQ:=Lib.hid hQQ;have HOP:=Lib.hid hop;have HSP:=Lib.hid hsp;have HX:=Lib.hid hX;have HY:=Lib.hid hY;have HOX:=Lib.hid hox;have HOY:=Lib.hid hoy;have HSD:=Lib.hid hsd;have HXY:=Lib.hid hxy;clear hP hQ hQQ hop hsp hX hY hox hoy hsd hxy;have zg:=HB.lt;refine zE ?_;intro u1 H;have E:=H.el;have mwu:=H.O.size;intros;refine H.lFG [w.heap.size,w.heap.size+1] (fun t=>t == 3) false (tgF [w.heap.size,w.heap.size+1] 12 7 (.cells #[.int .i64 0,.int .i64 0,.slice none 0 0,.int .i64 0,.int .i64 0,.slice none 0 0] 82)) ?_;clear H;intro S w2 hne H
 refine zD (And.intro (H.c 2) (H.c 1)) ?_;intro G;have hx:=RS.below HX.out H.O;have hy:=RS.below HY.out H.O;replace H:=Hr.join HZ.out H (by repeat constructor)
 intros
 repeat (first | (refine lE ?_;intro K hK;go_big_quiet_op;go_big_quiet_on) | refine lG ?_)
 refine oU fun w3 hb K hK=> ?_
 replace H:=H.b hb;have hx:=RS.below hx hb;have hy:=RS.below hy hb;unfold Oper.gives
 go_simp
 refine E4 H (Below.refl _ _) hK ?_;clear hK K hb;intros
 repeat (first | (refine lE ?_;intro K hK;go_big_quiet_op;go_big_quiet_on) | refine lG ?_)
 refine oU fun w4 hb K hK=> ?_
 replace H:=H.b hb;have hx:=RS.below hx hb;have hy:=RS.below hy hb;have cg:w4.cell? ⟨g,0,none⟩=some (.int .i64 s):=(H.k 3).cell 0;unfold Oper.gives
 go_simp
 refine E4 H (Below.refl _ _) hK ?_;clear hK K hb cg;intros;refine f_ (fun w5 (hb:Bw w4 w5)=>(show Calls Tryz.prog 247 #[_,_,_] w5 (bo P.1 P.2 50 w5) from by rw [HP.out];exact ka HOX.out HOY.out HXY.out HSD.out w5 (RS.below hx hb) (RS.below hy hb))) ?_;clear H hx hy
 rintro w5 K hK H e w6 ⟨A,c,B,d,D,m,e',y',rfl,h1,h2,h3,hmN,hb⟩;replace H:=H.so hb h1 h2 h3;refine fK ?_;clear hK K hb h1 h2 h3;replace H:=((H.r 5).r 5);intros;refine fU (fun w7 (hb:Bw w6 w7)=>nI w7 ((H.b hb).k 0) (((H.b hb).o 1).mono (Nat.zero_le _)) (OS.si (Ow.P2 ((H.b hb).p 2))) (by omega) (by omega)) ?_;clear H
 rintro w7 K hK H e w8 ⟨rfl,C1,k1,hq⟩;have hb:=hq.kb (B:=u1.heap.size) (t':=82) (ds:=#[.int .i64 0,.int .i64 0,.slice none 0 0,.int .i64 0,.int .i64 0,.slice none 0 0]) (H.k 0) (H.o 1);replace H:=H.stp hq (all_cons H.H.nst (all_cons H.H.nst all_nil));refine fKU ?_;clear hK K hb hq;replace H:=(H.r 2).pP;replace H:=(((((((H.r 5).r 5).r 5).r 6).r 5).r 5).r 6);have E:=Elq.c (d:=qB g 199 [.int .i64 P.2,.slice C1 (n+m) k1]) (fun i (hi:i=g)=>by omega) (Elq.c (d:=qW w g C) (fun i hi=>Nat.lt_of_lt_of_le hi.1 mwu) (E.nil w))
 refine yG ?_;clear H;intro w9 gZ hgZ H;refine yS ?_;clear H;intro w10 H;refine yN ?_;clear H G E;intro u40 H;replace H:=H;replace H:=(((H.r 2).r 2).r 3);refine zG ((show Calls Tryz.prog 172 #[_,_,_] u40 (jC Q.1 Q.2 25 g C1 (n+m) u40) from by rw [HQ.out];exact nD (by omega) HOP.out HSP.out u40 (H.k 0) ((H.o 1).mono (Nat.zero_le _)) (by omega) (H.rs 2))) ?_
 rintro e w41 ⟨A2,c2,B2,d2,C2,n2,k2,v2,rfl,hn2,hq⟩;replace H:=H.stp hq;clear hq;refine zS_ ?_;clear H;intro u11 H
 exact (by rw [<- HQQ.out];exact ⟨A2,c2,B2,d2,C2,n2,k2,v2,rfl,by omega,(((((((((H.d 3).d 3).d 4).d 4).d 4).r 3).r 3).r 3).r 3)⟩)
theorem sX {x y:Mx×Mx} (hox:okS x=true) (hoy:okS y=true) (hr:y.1.r=x.1.r) (hc1:y.1.c=1) {s:Int} {g:Nat} {C:Option Addr} {n k:Nat} {v:List Int} (hsd:sdB s=true) (w:World) (HB:Blk w g 199 #[.int .i64 s,.slice C n k]) (HO:OS w 0 C n k v) (hnN:n+75<=1000000) {u z:Value} (hx:RS w u x) (hy:RS w z y) :
  Calls Tryz.prog 218 #[.pointer (some ⟨g,0,none⟩),u,z] w (jC (dv (fnv 1) (c_ x y s).1 (c_ x y s).2).1 (dv (fnv 1) (c_ x y s).1 (c_ x y s).2).2 75 g C n w):=by
 obtain ⟨XA,XB,xa,xb,rfl,q1,q2,q3,q4,q5,q6⟩:=hx;have hX:=RS.mk q1 q2 q3 q4 q5 q6;clear q1 q2 q3 q4 q5 q6;obtain ⟨YA,YB,ya,yb,rfl,q1,q2,q3,q4,q5,q6⟩:=hy;have hY:=RS.mk q1 q2 q3 q4 q5 q6;clear q1 q2 q3 q4 q5 q6;obtain ⟨hop,_,_,hsp⟩:=pK (q:=y) hox hsd;obtain ⟨P,hP⟩:∃ P,P=c_ x y s:=⟨_,rfl⟩;rw [<- hP] at hop hsp;obtain ⟨Q,hQ⟩:∃ Q,Q=dv (fnv 1) P.1 P.2:=⟨_,rfl⟩;have hQQ:Q=dv (fnv 1) (c_ x y s).1 (c_ x y s).2:=by rw [hQ,hP]
 have HZ:=Lib.hid (Hq.st0 HB HO);have HP:=Lib.hid hP;have HQ:=Lib.hid hQ;have HQQ:=Lib.hid hQQ;have HOP:=Lib.hid hop;have HSP:=Lib.hid hsp;have HX:=Lib.hid hX;have HY:=Lib.hid hY;have HOX:=Lib.hid hox;have HOY:=Lib.hid hoy;have HSD:=Lib.hid hsd;have HR:=Lib.hid hr;have HC1:=Lib.hid hc1;clear hP hQ hQQ hop hsp hX hY hox hoy hsd hr hc1;have zg:=HB.lt;refine zE ?_;intro u1 H;have E:=H.el;have mwu:=H.O.size;intros;refine H.lFG [w.heap.size,w.heap.size+1] (fun t=>t == 3) false (tgF [w.heap.size,w.heap.size+1] 12 7 (.cells #[.int .i64 0,.int .i64 0,.slice none 0 0,.int .i64 0,.int .i64 0,.slice none 0 0] 82)) ?_;clear H;intro S w2 hne H
 refine zD (And.intro (H.c 2) (H.c 1)) ?_;intro G;have hx:=RS.below HX.out H.O;have hy:=RS.below HY.out H.O;replace H:=Hr.join HZ.out H (by repeat constructor)
 intros
 repeat (first | (refine lE ?_;intro K hK;go_big_quiet_op;go_big_quiet_on) | refine lG ?_)
 refine oU fun w3 hb K hK=> ?_
 replace H:=H.b hb;have hx:=RS.below hx hb;have hy:=RS.below hy hb;unfold Oper.gives
 go_simp
 refine E4 H (Below.refl _ _) hK ?_;clear hK K hb;intros
 repeat (first | (refine lE ?_;intro K hK;go_big_quiet_op;go_big_quiet_on) | refine lG ?_)
 refine oU fun w4 hb K hK=> ?_
 replace H:=H.b hb;have hx:=RS.below hx hb;have hy:=RS.below hy hb;have cg:w4.cell? ⟨g,0,none⟩=some (.int .i64 s):=(H.k 3).cell 0;unfold Oper.gives
 go_simp
 refine E4 H (Below.refl _ _) hK ?_;clear hK K hb cg;intros;refine f_ (fun w5 (hb:Bw w4 w5)=>(show Calls Tryz.prog 256 #[_,_,_] w5 (bo P.1 P.2 50 w5) from by rw [HP.out];exact my HOX.out HOY.out HR.out HC1.out HSD.out w5 (RS.below hx hb) (RS.below hy hb))) ?_;clear H hx hy
 rintro w5 K hK H e w6 ⟨A,c,B,d,D,m,e',y',rfl,h1,h2,h3,hmN,hb⟩;replace H:=H.so hb h1 h2 h3;refine fK ?_;clear hK K hb h1 h2 h3;replace H:=((H.r 5).r 5);intros;refine fU (fun w7 (hb:Bw w6 w7)=>nI w7 ((H.b hb).k 0) (((H.b hb).o 1).mono (Nat.zero_le _)) (OS.si (Ow.P2 ((H.b hb).p 2))) (by omega) (by omega)) ?_;clear H
 rintro w7 K hK H e w8 ⟨rfl,C1,k1,hq⟩;have hb:=hq.kb (B:=u1.heap.size) (t':=82) (ds:=#[.int .i64 0,.int .i64 0,.slice none 0 0,.int .i64 0,.int .i64 0,.slice none 0 0]) (H.k 0) (H.o 1);replace H:=H.stp hq (all_cons H.H.nst (all_cons H.H.nst all_nil));refine fKU ?_;clear hK K hb hq;replace H:=(H.r 2).pP;replace H:=(((((((H.r 5).r 5).r 5).r 6).r 5).r 5).r 6);have E:=Elq.c (d:=qB g 199 [.int .i64 P.2,.slice C1 (n+m) k1]) (fun i (hi:i=g)=>by omega) (Elq.c (d:=qW w g C) (fun i hi=>Nat.lt_of_lt_of_le hi.1 mwu) (E.nil w))
 refine yG ?_;clear H;intro w9 gZ hgZ H;refine yS ?_;clear H;intro w10 H;refine yN ?_;clear H G E;intro u40 H;replace H:=H;replace H:=(((H.r 2).r 2).r 3);refine zG ((show Calls Tryz.prog 172 #[_,_,_] u40 (jC Q.1 Q.2 25 g C1 (n+m) u40) from by rw [HQ.out];exact nD (by omega) HOP.out HSP.out u40 (H.k 0) ((H.o 1).mono (Nat.zero_le _)) (by omega) (H.rs 2))) ?_
 rintro e w41 ⟨A2,c2,B2,d2,C2,n2,k2,v2,rfl,hn2,hq⟩;replace H:=H.stp hq;clear hq;refine zS_ ?_;clear H;intro u11 H
 exact (by rw [<- HQQ.out];exact ⟨A2,c2,B2,d2,C2,n2,k2,v2,rfl,by omega,(((((((((H.d 3).d 3).d 4).d 4).d 4).r 3).r 3).r 3).r 3)⟩)
end
section
attribute [local go_sem] af ah ae
theorem mO {p q:Mx×Mx} (f:FuncId) (caps:Array Value) (av:Value->Array Value) (has:∀ v,av v=#[v]++caps) {x:Value} (w:World) (hx:RS w x p) (hrun:∀ (W:World) (args:Array Value),(callFunc f args).run Tryz.prog W= .ok (.enter f args) W)
  (h1:∀ W v,Below w.heap.size w W->RM W v p.1->Calls Tryz.prog f (av v) W (bD q.1 W)) (h2:∀ W v,Below w.heap.size w W->RM W v p.2->Calls Tryz.prog f (av v) W (bD q.2 W)) :
  Calls Tryz.prog 82 #[x,.func (.func f) #[] caps] w (jW q w):=Ak w hx hrun ⟨fun W v a b=>has v ▸ h1 W v a b,fun W v a b=>has v ▸ h2 W v a b⟩
theorem ua {m:Mx} (h:mvB m=true) {cs:Nat} (hcs:1<=cs/\cs<=5) {gX:Nat} {x0:Int} {x2 x3 x4 x5:Value} (w:World) {v:Value} (hv:RM w v m) (B0:Blk w gX 82 #[.int .i64 x0,.int .i64 (cs:Int),x2,x3,x4,x5]) :
  Calls Tryz.prog 211 #[v,.pointer (some ⟨gX,0,none⟩)] w (bD (jA m (cs:Int)) w):=by
 obtain ⟨A,c,rfl,h1,h2,h3⟩:=hv;have HX:=Lib.hid (RM.mk h1 h2 h3);have HM:=Lib.hid h;clear h h1 h2 h3;have zg:=B0.lt;have cst:=B0.cell 1;refine zE ?_;intro u1 H;refine zG (lp HM.out hcs u1 (RM.below HX.out H.O)) ?_;rintro e w2 ⟨P,cP,rfl,hos,hb⟩;replace H:=H.os hb hos
 dsimp only at H ⊢
 refine zS_ ?_;clear H;intro u3 H
 exact ⟨P,cP,rfl,(H.o 0),H.O⟩
theorem mA {pw pb px:Mx×Mx} {s:Int} (how:okS pw=true) (hob:okS pb=true) (hox:okS px=true) (hwx:pw.1.c=px.1.r) (hbr:pb.1.r=pw.1.r) (hbc:pb.1.c=1) (hs:sdB s=true) {u v z:Value} (w:World) (hw:RS w u pw) (hb:RS w v pb) (hx:RS w z px) :
  Calls Tryz.prog 171 #[u,v,z,.int .i64 s] w (bo (ec pw pb px s).1 (ec pw pb px s).2 75 w):=by
 obtain ⟨WA,WB,wa,wb,rfl,q1,q2,q3,q4,q5,q6⟩:=hw;have hW:=RS.mk q1 q2 q3 q4 q5 q6;have hW1:=q1;clear q1 q2 q3 q4 q5 q6;obtain ⟨BA,BB,ba,bb,rfl,q1,q2,q3,q4,q5,q6⟩:=hb;have hB:=RS.mk q1 q2 q3 q4 q5 q6;have hB1:=q1;clear q1 q2 q3 q4 q5 q6;obtain ⟨XA,XB,xa,xb,rfl,q1,q2,q3,q4,q5,q6⟩:=hx;have hX:=RS.mk q1 q2 q3 q4 q5 q6;clear q1 q2 q3 q4 q5 q6;have l1:=(fs how).1;have l2:=(fs hob).1;obtain ⟨hP1,hP2,hP3,hP4⟩:=gV how hox hwx hs;obtain ⟨cs,hcs'⟩:∃ cs:Nat,cs=px.1.c.toNat:=⟨_,rfl⟩;obtain ⟨_,sc⟩:=aA (ai hox).1;have hCS:px.1.c=(cs:Int):=by rw [hcs'];exact (et sc).symm
 have hcs:1<=cs/\cs<=5:=by have:=bI sc;omega
 have hsc:side (cs:Int)=true:=by rw [<- hCS];exact sc
 have hwi:=oF hob hsc;have hdf:dfB ⟨pw.1.r,pw.1.c,pw.1.v⟩ ⟨pb.1.r,pb.1.c,pb.1.v⟩=true:=by
  show dfB pw.1 pb.1=true
  unfold dfB;rw [(ai how).1,(ai hob).1,hbc,hbr]
  simp
 obtain ⟨P,hP⟩:∃ P,P=eI pw px s:=⟨_,rfl⟩;rw [<- hP] at hP1 hP2 hP3 hP4;have hPD:ec pw pb px s=(jX P.1 (iu pb (cs:Int)),P.2):=by unfold ec;rw [<- hP,hCS]
 have hOB1:=(ai hob).1;have hOB2:=(ai hob).2.1;have hL1:az P.1.1 P.1.2=true:=hP1;have hL2:az (iu pb (cs:Int)).1 (iu pb (cs:Int)).2=true:=hwi;have hL3:az P.1.1 (iu pb (cs:Int)).1=true:=aY (ai hP1).1 (ai hwi).1 (hP2.trans hbr.symm) (hP3.trans hCS);have hne:(pw.1.c != px.1.r)=false:=by simp [hwx]
 rw [hCS];clear hcs' sc hsc hwi hbr hbc hP1 hP2 hP3 hP4;have HOW:=Lib.hid how;have HOB:=Lib.hid hob;have HOX:=Lib.hid hox;have HWX:=Lib.hid hwx;have HS:=Lib.hid hs;have HW:=Lib.hid hW;have HB:=Lib.hid hB;have HX:=Lib.hid hX;have HW1:=Lib.hid hW1;have HB1:=Lib.hid hB1;have HCS:=Lib.hid hCS;have HDF:=Lib.hid hdf;have HP:=Lib.hid hP;have HPD:=Lib.hid hPD;have HOB1:=Lib.hid hOB1;have HOB2:=Lib.hid hOB2;have HL1:=Lib.hid hL1;have HL2:=Lib.hid hL2;have HL3:=Lib.hid hL3;clear how hob hox hwx hs hW hB hX hW1 hB1 hCS hdf hP hPD hOB1 hOB2 hL1 hL2 hL3;refine zE ?_;intro u1 H;refine zB (gC HOW.out u1 (RS.below HW.out H.O)) ?_;clear H;intro w2 u2 H;refine zB (gC HOB.out u2 (RS.below HB.out H.O)) ?_;clear H;intro w3 u3 H;refine zB (gC HOX.out u3 (Eq.mp (congrArg (fun c=>RS _ (SMV px.1.r c XA px.1.v.length xa px.2.r px.2.c XB px.2.v.length xb) px) HCS.out) (RS.below HX.out H.O))) ?_;clear H;intro w4 u4 H
 refine zP (aU (dH HS.out) u4) ?_;clear H;intro u5 H;refine zB ((show Calls Tryz.prog 147 #[_,_] u5 (fun e w'=>e= .returned (.bool true)/\Below u5.heap.size u5 w') from HDF.out ▸ DK _ _ _ _ _ _ WA BA _ wa _ ba u5 (SI.below HW1.out H.O) (SI.below HB1.out H.O) (by omega) (by omega))) ?_;clear H;intro w6 u6 H
 replace H:=H.nil;replace H:=(H.r 1);refine zG ((show Calls Tryz.prog 210 #[_,_,_] u6 (jC P.1 P.2 75 (w6.heap.size) none 0 u6) from by rw [HP.out];exact dO HOW.out HOX.out HWX.out HS.out u6 (H.k 0) ((H.o 1).mono (Nat.zero_le _)) (by omega) (RS.below HW.out H.O) (Eq.mp (congrArg (fun c=>RS _ (SMV px.1.r c XA px.1.v.length xa px.2.r px.2.c XB px.2.v.length xb) px) HCS.out) (RS.below HX.out H.O)))) ?_
 rintro e w7 ⟨A1,c1,D1,d1,C1,n1,k1,v1,rfl,hn1,hq⟩;replace H:=H.stp hq;clear hq;refine zN ?_;clear H;intro u8 H;have HB3:=Lib.hid (H.k 5);refine zG (mO (q:=iu pb (cs:Int)) 211 #[.pointer (some ⟨w.heap.size+2,0,none⟩)] (fun v=>#[v,.pointer (some ⟨w.heap.size+2,0,none⟩)]) (fun _=>rfl) u8 (RS.below HB.out H.O) (fun _ _=>by kernel_rfl) (fun W v hW hv=>ua HOB1.out hcs W hv (HB3.out.aa hW)) (fun W v hW hv=>ua HOB2.out hcs W hv (HB3.out.aa hW))) ?_
 rintro e w9 ⟨Q1,Q2,e1,e2,rfl,f1,f2,hb⟩;replace H:=H.ss hb f1 f2;clear HB3;refine zN ?_;clear H;intro u10 H;refine zX (tg [w9.heap.size,w7.heap.size,w6.heap.size]) ?_;clear H;intro S w11 hne H;refine zD ((And.intro (H.c 0) (And.intro (H.c 2) (H.c 3)))) ?_;intro G;refine yW (iv HL1.out HL2.out HL3.out A1 D1 Q1 Q2 c1 d1 e1 e2 w11 (OS.si (qS.a (H.p 5))) (OS.si (qS.b (H.p 5))) (OS.si (qS.a (H.p 1))) (OS.si (qS.b (H.p 1)))) ?_;clear H;intro w12 R1 R2 r1 r2 H;refine yS ?_;clear H;intro w13 H;refine yN ?_;clear H G;intro u14 H;refine zS_ ?_;clear H;intro u15 H
 exact (by rw [HPD.out];exact ⟨R1,r1,R2,r2,C1,n1,k1,v1,rfl,qS.a (H.p 0),qS.b (H.p 0),(H.o 5),by omega,H.O⟩)
end
end Go.Proofs.YtjciicheoghcdaaGreatDoor

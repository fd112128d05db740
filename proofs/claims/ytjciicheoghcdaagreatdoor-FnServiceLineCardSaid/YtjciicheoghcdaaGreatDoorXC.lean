/- Part of the proof that the law FnServiceLine of the given program returns true for every input. -/
import Derived.BigQuiet
import Derived.Deep.AppendLies
import Derived.Deep.DeepCutAuto
import Derived.Deep.DrawnRows
import Derived.Deep.QuietTactic
import Derived.Deep.RegionHeld3
import Derived.Deep.RegionLaw
import Derived.IntWalk
import Derived.Laws.MakeOwn
import Derived.Test.YtjciicheoghcdaaGreatDoorXc
import Derived.Test.YtjciicheoghcdaaGreatDoorXd
import Derived.Test.YtjciicheoghcdaaGreatDoorXf
import Derived.Test.YtjciicheoghcdaaGreatDoorXg
import Derived.Test.YtjciicheoghcdaaGreatDoorXl
import Derived.Test.YtjciicheoghcdaaGreatDoorXv
import Derived.Test.YtjciicheoghcdaaGreatDoorXy
namespace Go.Proofs.YtjciicheoghcdaaGreatDoor
open Go.RowKit
set_option linter.unusedSimpArgs false
set_option linter.unusedVariables false
set_option maxRecDepth 20000
set_option maxHeartbeats 16000000
section
attribute [local go_sem] af ah ae
theorem ml {m:Mx} (h:mvB m=true) {x:Value} (w:World) (hx:RM w x m):Calls Tryz.prog 86 #[x] w (bD m w):=by
 obtain ⟨A,c,rfl,h1,_⟩:=hx;have hl:=dy h;have HX:=Lib.hid h1;clear h h1;refine zE ?_;intro u1 H;refine zX (tg [w.heap.size]) ?_;clear H;intro S w2 hne H;refine zD (H.c 1) ?_;intro G;refine yE ?_;clear H;intro w3 H;refine yA (SI.below HX.out H.O) True.intro ?_;clear H;intro C1 k1 w4 H;refine yS ?_;clear H;intro w5 H;refine yN ?_;clear H G;intro u6 H;refine zS_ ?_;clear H;intro u7 H
 exact ⟨C1,k1,rfl,(H.o 0),H.O⟩
theorem ou {net:List SL} (hok:bu net=true) {s:Int} {A:Option Addr} {cap:Nat} {F:List Nat} (w:World) (hx:RI (kE smE) w A net.length cap net F) :
  Calls Tryz.prog 39 #[.agg #[.slice A net.length cap,.int .i64 s]] w (vC net s w):=by
 unfold vC;obtain ⟨n,hn⟩:∃ n,n=net.length:=⟨_,rfl⟩;rw [<- hn] at hx ⊢;have h4:n<=4:=by rw [hn];exact (du hok).1
 have HN:=Lib.hid hn;have HOK:=Lib.hid hok;have HX:=Lib.hid hx;clear hn hok hx;refine zE ?_;intro u1 H;replace H:=H.ye (kE smE) 99;intros
 go_loopw [4] (fun k wr=>∃ (j c':Nat) (A':Option Addr) (css:List (List Value)) (F':List Nat),j<=n/\k= .int .i64 j/\Hid (Hq w [qX (kE smE) w.heap.size 99 A' j c' css (net.take j) F',qB (w.heap.size+2) 25 [.slice A' j c',.int .i64 s],qB (w.heap.size+1) 25 [.slice none 0 0,.int .i64 0],qB w.heap.size 25 [.slice A n cap,.int .i64 s]] wr)) (fun k _=>n-(intOf k).toNat)
 case atStart=>exact ⟨0,0,none,[],[],Nat.zero_le _,rfl,H⟩
 case round =>
 clear H;obtain ⟨j,c',A',css,F',hj,rfl,H⟩:=hrel;have H:=H.out;have mw:=H.m
 by_cases hlt:j<n
 ·obtain ⟨l,hlj,hmem⟩:=aH (xs:=net) (j:=j) (by have:=HN.out;omega)
  obtain ⟨b,off,cs,Fx,rfl,hbl,hc,_,Aw,cw,rfl,hrw⟩:=HX.out.cells hlj 2 rfl;have HD0:=Lib.hid (hc 0 (by omega))
  have HD1:=Lib.hid (hc 1 (by omega))
  have HBL:=Lib.hid hbl;have HLJ:=Lib.hid hlj;have HRW:=Lib.hid hrw;have HSL:=Lib.hid ((du HOK.out).2 l hmem);have j0:(0:Int)<=(j:Int):=by omega
  have j1:(j:Int)<(n:Int):=by omega
  clear hc hrw hlj hmem hbl;have d0:wr.cell? ⟨b,off+j*2,none⟩=some (.int .i64 l.1):=(H.O.cell (p:=⟨b,off+j*2,none⟩) HBL.out).trans HD0.out;have zb:b<wr.heap.size:=Nat.lt_of_lt_of_le HBL.out mw;refine zN ?_;clear H;intro u21 H;replace H:=H.ye smE 82;obtain ⟨gL,hgL⟩:∃ g,g=wr.heap.size:=⟨_,rfl⟩;rw [<- hgL] at H ⊢;clear hgL;clear d0 zb mw;intros
  go_loopw [6] (fun k wr=>∃ (i c2:Nat) (A2:Option Addr) (css2:List (List Value)) (F2:List Nat),i<=l.2.length/\k= .int .i64 i/\Hid (Hq w [qX smE w.heap.size 82 A2 i c2 css2 (l.2.take i) F2,qB gL 99 [.int .i64 l.1,.slice A2 i c2],qX (kE smE) w.heap.size 99 A' j c' css (net.take j) F',qB (w.heap.size+2) 25 [.slice A' j c',.int .i64 s],qB (w.heap.size+1) 25 [.slice none 0 0,.int .i64 0],qB w.heap.size 25 [.slice (some ⟨b,off,none⟩) n cap,.int .i64 s]] wr)) (fun k _=>l.2.length-(intOf k).toNat)
  case atStart=>exact ⟨0,0,none,[],[],Nat.zero_le _,rfl,H⟩
  case round =>
  clear H;obtain ⟨i,c2,A2,css2,F2,hi,rfl,H⟩:=hrel;have H:=H.out;have mw:=H.m;have d1:wr.cell? ⟨b,off+j*2+1,none⟩=some (.slice Aw l.2.length cw):=(H.O.cell (p:=⟨b,off+j*2+1,none⟩) HBL.out).trans HD1.out;have zb:b<wr.heap.size:=Nat.lt_of_lt_of_le HBL.out mw;have h25:l.2.length<=3:=kU HSL.out
  by_cases hli:i<l.2.length
  ·obtain ⟨x,hxi,hxm⟩:=aH (xs:=l.2) (j:=i) hli;have hok:=mW HSL.out x hxm;obtain ⟨b2,o2,cs2,Fy,rfl,hb2,hc2,_,Aa,ca,Ab,cb,Fa,Fb,rfl,hm1,hm2,_⟩:=HRW.out.cells hxi 6 rfl;have HM1:=Lib.hid (ai hok).1;have HM2:=Lib.hid (ai hok).2.1;have HR1:=Lib.hid (RM.mk hm1.1 hm1.2.1 hm1.2.2.1);have HR2:=Lib.hid (RM.mk hm2.1 hm2.2.1 hm2.2.2.1);have HXI:=Lib.hid hxi;have i0:(0:Int)<=(i:Int):=by omega
   have i1:(i:Int)<(l.2.length:Int):=by omega
   have e0:wr.cell? ⟨b2,o2+i*6,none⟩=some (.int .i64 x.1.r):=(H.O.cell (p:=⟨b2,o2+i*6,none⟩) hb2).trans (hc2 0 (by omega))
   have e1:wr.cell? ⟨b2,o2+i*6+1,none⟩=some (.int .i64 x.1.c):=(H.O.cell (p:=⟨b2,o2+i*6+1,none⟩) hb2).trans (hc2 1 (by omega))
   have e2:wr.cell? ⟨b2,o2+i*6+2,none⟩=some (.slice Aa x.1.v.length ca):=(H.O.cell (p:=⟨b2,o2+i*6+2,none⟩) hb2).trans (hc2 2 (by omega))
   have e3:wr.cell? ⟨b2,o2+i*6+3,none⟩=some (.int .i64 x.2.r):=(H.O.cell (p:=⟨b2,o2+i*6+3,none⟩) hb2).trans (hc2 3 (by omega))
   have e4:wr.cell? ⟨b2,o2+i*6+4,none⟩=some (.int .i64 x.2.c):=(H.O.cell (p:=⟨b2,o2+i*6+4,none⟩) hb2).trans (hc2 4 (by omega))
   have e5:wr.cell? ⟨b2,o2+i*6+5,none⟩=some (.slice Ab x.2.v.length cb):=(H.O.cell (p:=⟨b2,o2+i*6+5,none⟩) hb2).trans (hc2 5 (by omega))
   have zb2:=Nat.lt_of_lt_of_le hb2 mw;clear hc2 hm1 hm2 hxi hxm hok;refine zN ?_;clear H;intro u41 H;refine zXZ (tg [wr.heap.size,gL]) ?_;clear H;intro S w42 hne H;refine zD ((And.intro (H.c 0) (H.c 2))) ?_;intro G;refine yO (ml HM1.out w42 (RM.below HR1.out H.O)) ?_;clear H;intro w43 P1 cP1 H;refine yO (ml HM2.out w43 (RM.below HR2.out H.O)) ?_;clear H;intro w44 Q1 cQ1 H;refine yM ?_;clear H;intro w45 H;have hP:=(H.o 2);have hQ:=(H.o 1);have hPQ:=fun g (h1:blk P1=some g) (h2:blk Q1=some g)=>H.H.noo 2 1 g h1 h2
   replace H:=(((H.r 1).r 2)).mrg;have hx:smE.P w45 [.int .i64 x.1.r,.int .i64 x.1.c,.slice P1 x.1.v.length cP1,.int .i64 x.2.r,.int .i64 x.2.c,.slice Q1 x.2.v.length cQ1] x (fpI P1 x.1.v.length++fpI Q1 x.2.v.length):=⟨P1,cP1,Q1,cQ1,_,_,rfl,MF.aB hP,MF.aB hQ,rfl⟩;have hf:=Fr.app (ek hP) (ek hQ) (fun g a b=>hPQ g (bz a).2 (bz b).2)
   have hF:∀ i,i∈fpI P1 x.1.v.length++fpI Q1 x.2.v.length->((qO w.heap.size P1 x.1.v.length cP1 x.1.v).and (qO w.heap.size Q1 x.2.v.length cQ1 x.2.v)).F i:=fun i hi=>(List.mem_append.1 hi).imp (fun h=>(bz h).2) (fun h=>(bz h).2)
   clear hP hQ hPQ;replace H:=(H.r 3);refine yX (an4 Cx hx hf hF) ?_;clear H hx hf hF;intro g1 k1 w46 H;intros;refine zCr ?_;intro C;intros
   repeat (first | (refine lc' ?_;intro K hK;go_big_quiet_op;go_big_quiet_on) | refine lk' ?_)
   refine aV rfl (by rfl) (by rfl) (fun K hK=> ?_)
   unfold Oper.gives
   go_simp
   refine hK _ _ ?_;replace H:=H.H;refine aI ?_;clear C G;rw [<- aW HXI.out] at H;replace H:=((H.d 1).d 1);refine zC ?_;intro C;intros;go_wp2
   go_roundw
   case rel=>exact ⟨i+1,k1,some ⟨g1,0,none⟩,_,_,by omega,by go_num,(Lib.hid hq)⟩
   case measure=>simp [intOf];omega
  ·have HLI:Hid (i=l.2.length):=by unfold Hid;omega
   rw [List.take_of_length_le (by omega)] at H
   refine zC ?_;intro C;intros
   go_wp2_with (at_builtin;refine zM ?_)
   clear H C;intro u61 H;obtain ⟨F3,hri,hf,hF⟩:=OX.rf (H.x 1);have hx:(kE smE).P u61 [.int .i64 l.1,.slice A2 i c2] l F3:=⟨A2,c2,by rw [HLI.out],HLI.out ▸ hri⟩
   replace H:=((H.r 1).r 3);refine zAx (an4 zY hx hf hF) ?_;clear H hri hx hf hF;intro g1 k1 w61 H;rw [<- aW HLJ.out] at H;replace H:=((H.d 1).d 1);refine zC ?_;intro C;intros;go_wp2
   go_roundw
   case rel=>exact ⟨j+1,k1,some ⟨g1,0,none⟩,_,_,by omega,by go_num,(Lib.hid hq)⟩
   case measure=>simp [intOf];omega
 ·obtain rfl:j=n:=by omega
  rw [List.take_of_length_le (by have:=HN.out;omega)] at H
  refine zS_ ?_;clear H;intro u81 H
  exact ⟨A',c',css,F',rfl,(H.x 0),H.O⟩
end
section
attribute [local go_sem] af ah ae
def TyK (u w:World):Prop:=∀ g t cs,Blk u g t cs->∃ ds,Blk w g t ds
theorem TyK.refl (u:World):TyK u u:=fun g t cs h=>⟨cs,h⟩
theorem TyK.trans {u w w':World} (h:TyK u w) (k:TyK w w'):TyK u w':=fun g t cs hb=>by
 obtain ⟨ds,hd⟩:=h g t cs hb
 exact k g t ds hd
theorem TyK.set (w:World) (g i:Nat) (v:Value):TyK w (w.setCell ⟨g,i,none⟩ v):=fun g' t cs hb=>by
 by_cases e:g'=g
 ·subst e
  exact ⟨_,hb.dc i v⟩
 ·exact ⟨cs,hb.far (p:=⟨g,i,none⟩) e v⟩
theorem Fr.ty {w w':World} {b:Nat} {F:List Nat} (h:Fr w b F) (k:TyK w w'):Fr w' b F:=⟨h.1,fun g hg=>by
 obtain ⟨h1,t,cs,h2,h3⟩:=h.2 g hg;obtain ⟨ds,hd⟩:=k g t cs h2
 exact ⟨h1,t,ds,hd,h3⟩⟩
structure Mk (G:Nat->Prop) (u w:World):Prop where
 up:UpL G u w
 ty:TyK u w
theorem Mk.refl {G:Nat->Prop} (u:World):Mk G u u:=⟨UpL.refl,TyK.refl u⟩
theorem Mk.set {G:Nat->Prop} {u w:World} (h:Mk G u w) (g i:Nat) (v:Value) (hg:G g):Mk G u (w.setCell ⟨g,i,none⟩ v):=⟨h.up.Bc _ v fun _=>hg,h.ty.trans (TyK.set w g i v)⟩
theorem Mk.trans {G G':Nat->Prop} {u w w':World} (h:Mk G u w) (k:Mk G' w w') (hg:∀ i,G' i->G i):Mk G u w':=⟨h.up.trans k.up fun i _ e=>hg i e,h.ty.trans k.ty⟩
theorem SI.set {w:World} {b off n j:Nat} {xs:List Int} {t:TypeId} {ds:Array Value} (h:SI w (some ⟨b,off,none⟩) n xs) (hB:Blk w b t ds) (hj:j<n) (v:Int):SI (w.setCell ⟨b,off+j,none⟩ (.int .i64 v)) (some ⟨b,off,none⟩) n (xs.set j v):=by
 refine ⟨by rw [List.length_set];exact h.1,fun h0=> ?_⟩
 obtain ⟨b',off',e,hb,hc⟩:=h.2 h0;injection e with e;injection e with e1 e2;subst e1 e2;refine ⟨b,off,rfl,by simpa [World.setCell] using hb,fun i hi=> ?_⟩
 have hci:=hc i hi;rw [hB.cell] at hci;have hcj:=hc j hj;rw [hB.cell] at hcj;have hl:=(Array.getElem?_eq_some_iff.1 hcj).1;rw [(hB.dc _ _).cell,Array.getElem?_setIfInBounds,List.getD_eq_getElem?_getD,List.getElem?_set]
 by_cases e:i=j
 ·subst e;rw [if_pos rfl,if_pos hl,if_pos rfl,if_pos (by rw [h.1];exact hi)]
  rfl
 ·rw [if_neg (by omega),if_neg (fun h=>e h.symm),hci,List.getD_eq_getElem?_getD]
structure Fg (wr v:World) (b:Nat) (t:TypeId) (D:Array Value) (o:Nat) (K:Int) (A:Option Addr) (n:Nat):Prop where
 bl:Blk v b t ((D.setIfInBounds o (.int .i64 K)).setIfInBounds (o+1) (.int .i64 (K+1)))
 si:SI v A n (marks (K+1+1) n)
 up:Mk (fun i=>i=b\/(0<n/\blk A=some i)) wr v
theorem Fg.of {wr v:World} {b:Nat} {t:TypeId} {D:Array Value} {o:Nat} {K:Int} {A:Option Addr} {n:Nat} (hB:Blk wr b t D) (hA:0<n->blk A≠some b) (hs:SI v A n (marks (K+1+1) n)) (h:Mk (fun i=>0<n/\blk A=some i) ((wr.setCell ⟨b,o,none⟩ (.int .i64 K)).setCell ⟨b,o+1,none⟩ (.int .i64 (K+1))) v):Fg wr v b t D o K A n:=by
 have h1:=(hB.dc o (.int .i64 K)).dc (o+1) (.int .i64 (K+1))
 exact ⟨(h.up.block b h1.lt fun e=>hA e.1 e.2).trans h1,hs,(((Mk.refl wr).set b o _ (.inl rfl)).set b (o+1) _ (.inl rfl)).trans h fun i hi=> .inr hi⟩
theorem MF.far {w w':World} {A:Option Addr} {c b:Nat} {m:Mx} {F:List Nat} (h:MF w A c m F) (hb:b∉F) (hk:∀ g,g≠b->w'.heap[g]?=w.heap[g]?):MF w' A c m F:=h.au fun g hg=>hk g fun e=>hb (e ▸ hg)
theorem TyK.alloc (w:World) (o:Obj):TyK w (w.alloc o):=fun g t cs h=>⟨cs,h.alloc o⟩
end
theorem DH (rb:Nat) (w:World):Calls Tryz.prog 72 #[.pointer (some ⟨rb,0,none⟩),.int .i64 0] w fun e w'=>e= .returned (.bool false)/\w=w':=by
 go_enter Tryz.func72,Tryz.ntmps72
 go_wp2
 go_ret
 exact ⟨rfl,rfl⟩
def Rg0 (w:World) (rb P:Nat) (e:Ending) (w':World):Prop:=∃ v:Int,e= .returned (.int .i64 v)/\0<=v/\v<=4095/\Rd w' rb P/\aZ rb w w'
theorem DV (rb P:Nat) (w:World) (h:Rd w rb P) (hP:P<549755813888):Calls Tryz.prog 162 #[.pointer (some ⟨rb,0,none⟩),.int .i64 0] w (Rg0 w rb (P+6)):=by
 have hrw:=h.lt
 go_enter Tryz.func162,Tryz.ntmps162
 go_wp2_with fail
 refine (ct rb P 256 w h (by omega)).mono ?_
 rintro e w1 ⟨v1,rfl,a1,b1,r1,o1⟩;have c1:v1<=255:=by omega
 clear b1
 go_wp2_with fail
 refine (ct rb (P+1) 256 w1 r1 (by omega)).mono ?_
 rintro e w2 ⟨v2,rfl,a2,b2,r2,o2⟩;have c2:v2<=255:=by omega
 clear b2
 go_wp2_with fail
 refine (bG _ _).mono ?_;rintro e w' ⟨rfl,rfl⟩
 go_wp2_with fail
 refine (ct rb (P+1+1) 256 w2 r2 (by omega)).mono ?_
 rintro e w3 ⟨v3,rfl,a3,b3,r3,o3⟩;have c3:v3<=255:=by omega
 have t3:=r3.lt;clear b3
 go_wp2_with fail
 refine (ct rb (P+1+1+1) 8 _ (r3.alloc _) (by omega)).mono ?_
 rintro e w4 ⟨v4,rfl,a4,b4,r4,o4⟩;have c4:v4<8:=by omega
 clear b4;obtain ⟨x,hx,x0,x1⟩:=rj [v1*16,(v2-128)%4096,v3,0,4095,2048,2047,16] 0 4095 (by simp;omega) v4 a4 (by simp;omega)
 have hcx:w4.cell? ⟨w3.heap.size,v4.toNat,none⟩=some (.int .i64 x):=by
  rw [o4.cell (by simp) (by omega)]
  have:=kr w3 [v1*16,(v2-128)%4096,v3,0,4095,2048,2047,16] 3 v4.toNat;rw [hx] at this
  exact this
 have O4:=Lib.hid ((o1.trans (o2.trans o3)).trans ((aZ.refl rb w3).alloc _ |>.trans o4));clear o1 o2 o3 o4 hx r1 r2 r3
 go_wp2_with fail
 refine (DH rb w4).mono ?_;rintro e w' ⟨rfl,rfl⟩;go_wp2
 go_ret
 exact ⟨x,rfl,x0,x1,r4.mono (by omega),O4.out⟩
section
theorem DQ {q n:Int} (hn:0<n) (h0:0<=q) (h1:q<n+n):∃ d:Int,q.tdiv n=d/\0<=d/\d<2:=by
 refine ⟨q/n,Int.tdiv_eq_ediv_of_nonneg h0,Int.ediv_nonneg h0 (by omega),?_⟩
 exact Int.ediv_lt_of_lt_mul hn (by omega)
theorem D_ (x y:Int) (d:Int) (h0:0<=d) (h1:d<2):∃ v:Int,[Value.int .i64 x,Value.int .i64 y][d.toNat]?=some (.int .i64 v)/\(v=x\/v=y):=by
 have hd:d=0\/d=1:=by omega
 rcases hd with rfl | rfl
 ·exact ⟨x,rfl,.inl rfl⟩
 ·exact ⟨y,rfl,.inr rfl⟩
def Mi (rb:Nat) (r c:Int) (w:World) (P:Nat) (W:World) (j:Nat) (A:Option Addr) (cp:Nat) (xs:List Int):Prop :=
 Blk W w.heap.size 37 #[.int .i64 0,.int .i64 0,.slice none 0 0]/\Blk W (w.heap.size+1) 37 #[.int .i64 r,.int .i64 c,.slice A j cp]/\OS W w.heap.size A j cp xs/\aZ rb w W/\Rd W rb P
section
variable {rb P P':Nat} {r c:Int} {w W W' w1:World} {j cp g cap:Nat} {A:Option Addr} {xs:List Int} {x:Int} {o:Obj}
theorem Mi.start (h:Rd w rb P):Mi rb r c w P ((w.alloc (.cells #[.int .i64 0,.int .i64 0,.slice none 0 0] 37)).alloc (.cells #[.int .i64 r,.int .i64 c,.slice none 0 0] 37)) 0 none 0 []:=by
 refine ⟨(Blk.new _ _ _).alloc _,?_,OS.nil _ _,((aZ.refl rb w).alloc _).alloc _,(h.alloc _).alloc _⟩;have h:=Blk.new (w.alloc (.cells #[.int .i64 0,.int .i64 0,.slice none 0 0] 37)) 37 #[.int .i64 r,.int .i64 c,.slice none 0 0]
 simpa using h
theorem Mi.alloc (h:Mi rb r c w P W j A cp xs) (o:Obj):Mi rb r c w P (W.alloc o) j A cp xs:=⟨h.1.alloc o,h.2.1.alloc o,h.2.2.1.alloc o,h.2.2.2.1.alloc o,h.2.2.2.2.alloc o⟩
theorem Mi.drew (h:Mi rb r c w P W j A cp xs):Mi rb r c w P W.drew j A cp xs:=⟨h.1,h.2.1,h.2.2.1,h.2.2.2.1.drew,h.2.2.2.2⟩
theorem Mi.rd (h:Mi rb r c w P W j A cp xs):Rd W rb P:=h.2.2.2.2
theorem Mi.os (h:Mi rb r c w P W j A cp xs):OS W w.heap.size A j cp xs:=h.2.2.1
theorem Mi.lt (h:Mi rb r c w P W j A cp xs):w.heap.size+1<W.heap.size:=h.2.1.lt
theorem Mi.kx (h:Mi rb r c w P W j A cp xs):W.cell? ⟨w.heap.size+1,2,none⟩=some (.slice A j cp):=h.2.1.cell 2
theorem Mi.DC (h:Mi rb r c w P W j A cp xs):W.frozen? ⟨w.heap.size+1,2,none⟩=false:=h.2.1.frozen 2
theorem Mi.only (h:Mi rb r c w P W j A cp xs) (hr:rb<w.heap.size) (ho:aZ rb W W') (hr':Rd W' rb P'):Mi rb r c w P' W' j A cp xs :=
 ⟨h.1.only ho (by omega),h.2.1.only ho (by omega),h.2.2.1.only ho hr,h.2.2.2.1.trans ho,hr'⟩
def Ma (rb:Nat) (r c:Int) (w:World) (P:Nat) (W:World) (j:Nat) (A:Option Addr) (cp g cap:Nat) (xs:List Int):Prop :=
 Blk W w.heap.size 37 #[.int .i64 0,.int .i64 0,.slice none 0 0]/\Blk W (w.heap.size+1) 37 #[.int .i64 r,.int .i64 c,.slice A j cp]/\OS W w.heap.size (some ⟨g,0,none⟩) (j+1) cap xs/\aZ rb w W/\Rd W rb P
theorem Mi.app (h:Mi rb r c w P W j A cp xs) (hr:rb<w.heap.size)
  (hown:w1.ownsRow w.heap.size 3 1 (.slice (some ⟨g,0,none⟩) (j+1) cap) (j+1) (xs.map (Value.int .i64)++[.int .i64 x])) (hg:(W.alloc o).grownBy w1 (Value.slice A j cp).ownBlock)
  (hat:(Value.slice A j cp).ownBlock=some g\/g=W.heap.size+1):Ma rb r c w P w1 j A cp g cap (xs++[x]):=by
 obtain ⟨h1,h2,h3,h4,h5⟩:=h;obtain ⟨k1,_,k3,_⟩:=fS (wr:=W) h3 (Below.refl w.heap.size W) h4.size hown hg hat;have n1:=bf h3 h1 (by decide)
 have n2:=bf h3 h2 (by decide)
 have hne:∀ i,i<w.heap.size->some i≠blk A:=fun i hi e=>by have:=(h3.aj i e.symm).1;omega
 have hs:=h4.size;refine ⟨h1.bR k3 n1,h2.bR k3 n2,k1,⟨k3.os.trans h4.os,k3.tape.trans h4.tape,k3.output.trans h4.output,Nat.le_trans h4.size k3.size,fun i hi hnr=>(k3.block i (by omega) (hne i hi)).trans (h4.block i hi hnr)⟩,h5.au fun i hi=>k3.block i (by omega) (hne i (by omega))⟩
theorem Ma.next (h:Ma rb r c w P w1 j A cp g cap xs) (hr:rb<w.heap.size):Mi rb r c w P (w1.setCell ⟨w.heap.size+1,2,none⟩ (.slice (some ⟨g,0,none⟩) (j+1) cap)) (j+1) (some ⟨g,0,none⟩) cap xs:=by
 obtain ⟨h1,h2,h3,h4,h5⟩:=h
 exact ⟨h1.far (p:=⟨w.heap.size+1,2,none⟩) (by dsimp only;omega) _,h2.dc 2 _,h3.dk h2 (by decide) _,h4.setCell (.inr (by dsimp only;omega)) _,h5.setCell (by dsimp only;omega) _⟩
theorem Mi.mono (h:Mi rb r c w P W j A cp xs) (hP:P<=P'):Mi rb r c w P' W j A cp xs:=⟨h.1,h.2.1,h.2.2.1,h.2.2.2.1,h.2.2.2.2.mono hP⟩
end
end
section
attribute [local go_sem ↓] Go.wp_at_zero Go.wp_at_succ
section
variable {rb P P':Nat} {r c:Int} {w W W' w1:World} {j cp g cap:Nat} {A:Option Addr} {xs:List Int} {x:Int} {o:Obj}
theorem Mi.Fw (h:Mi rb r c w P W j A cp xs) (hr:rb<w.heap.size) (x:Int):Mi rb x c w P (W.setCell ⟨w.heap.size+1,0,none⟩ (.int .i64 x)) j A cp xs:=by
 obtain ⟨h1,h2,h3,h4,h5⟩:=h
 exact ⟨h1.far (p:=⟨w.heap.size+1,0,none⟩) (by dsimp only;omega) _,h2.dc 0 _,h3.dk h2 (by decide) _,h4.setCell (.inr (by dsimp only;omega)) _,h5.setCell (by dsimp only;omega) _⟩
theorem Mi.Fv (h:Mi rb r c w P W j A cp xs) (hr:rb<w.heap.size) (x:Int):Mi rb r x w P (W.setCell ⟨w.heap.size+1,1,none⟩ (.int .i64 x)) j A cp xs:=by
 obtain ⟨h1,h2,h3,h4,h5⟩:=h
 exact ⟨h1.far (p:=⟨w.heap.size+1,1,none⟩) (by dsimp only;omega) _,h2.dc 1 _,h3.dk h2 (by decide) _,h4.setCell (.inr (by dsimp only;omega)) _,h5.setCell (by dsimp only;omega) _⟩
theorem Mi.ne1 (h:Mi rb r c w P W j (some ⟨g,0,none⟩) cp xs):¬ g=w.heap.size:=fun e=>bf h.2.2.1 h.1 (by decide) (by subst e;rfl)
theorem Mi.ne2 (h:Mi rb r c w P W j (some ⟨g,0,none⟩) cp xs):¬ g=w.heap.size+1:=fun e=>bf h.2.2.1 h.2.1 (by decide) (by subst e;rfl)
theorem Mi.EV (h:Mi rb r c w P W j (some ⟨g,0,none⟩) cp xs) (hr:rb<w.heap.size) (x:Int):Mi rb r c w P (W.setCell ⟨g,0,none⟩ (.int .i64 x)) j (some ⟨g,0,none⟩) cp (xs.set 0 x):=by
 have n1:=h.ne1;have n2:=h.ne2;obtain ⟨h1,h2,h3,h4,h5⟩:=h;have hb:=(h3.aj g rfl).1;refine ⟨h1.far (p:=⟨g,0,none⟩) (by dsimp only;omega) _,h2.far (p:=⟨g,0,none⟩) (by dsimp only;omega) _,?_,h4.setCell (.inr hb) _,h5.setCell (by dsimp only;omega) _⟩
 have h:=(World.ownsRow.stored h3 0 (.int .i64 x)).1;rw [<- List.map_set] at h
 exact h
theorem Mi.Fs (h:Mi rb r c w P W j (some ⟨g,0,none⟩) cp xs) (hj:0<j):(∃ y:Value,W.cell? ⟨g,0,none⟩=some y)/\W.frozen? ⟨g,0,none⟩=false/\g<W.heap.size:=by
 have h3:=h.2.2.1;obtain ⟨b',off',e,_,hc⟩:=h3.si.2 hj;injection e with e;injection e with e1 e2;subst e1 e2
 exact ⟨⟨_,hc 0 hj⟩,h3.frozen 0 g rfl,(h3.aj g rfl).2⟩
def Dm (w:World) (rb P:Nat) (e:Ending) (w':World):Prop:=∃ (r c:Int) (A:Option Addr) (cp:Nat) (v:List Int),e= .returned (.agg #[.int .i64 r,.int .i64 c,.slice A v.length cp])/\OS w' w.heap.size A v.length cp v/\v.length<=26/\Rd w' rb P/\aZ rb w w'
theorem Mi.fin {a b d:Value} (h:Mi rb r c w P W j A cp xs) (hr:rb<w.heap.size) (hj:j<=26) (hP:P<=P') :
  Dm w rb P' (.returned (.agg #[.int .i64 r,.int .i64 c,.slice A j cp])) (((W.setCell ⟨w.heap.size,0,none⟩ a).setCell ⟨w.heap.size,1,none⟩ b).setCell ⟨w.heap.size,2,none⟩ d):=by
 obtain ⟨h1,h2,h3,h4,h5⟩:=h;have hl:=h3.len;subst hl
 exact ⟨r,c,A,cp,xs,rfl,((h3.dk h1 (by decide) _).dk (h1.dc 0 _) (by decide) _).dk ((h1.dc 0 _).dc 1 _) (by decide) _,hj,(((h5.setCell (by dsimp only;omega) _).setCell (by dsimp only;omega) _).setCell (by dsimp only;omega) _).mono hP,
  ((h4.setCell (.inr (Nat.le_refl _)) _).setCell (.inr (Nat.le_refl _)) _).setCell (.inr (Nat.le_refl _)) _⟩
end
theorem zq (w:World) {x y v d:Int} (hv:[Value.int .i64 x,Value.int .i64 y][d.toNat]?=some (.int .i64 v)):(w.alloc (.cells #[.int .i64 x,.int .i64 y] 3)).cell? ⟨w.heap.size,d.toNat,none⟩=some (.int .i64 v) :=
 (cell_of_row _ _ _ _ _ _ (heap_alloc_new w _)).trans (by simpa using hv)
theorem Fq (x y z:Int) (d:Int) (h0:0<=d) (h1:d<3):∃ v:Int,[Value.int .i64 x,Value.int .i64 y,Value.int .i64 z][d.toNat]?=some (.int .i64 v):=by
 have hd:d=0\/d=1\/d=2:=by omega
 rcases hd with rfl | rfl | rfl
 ·exact ⟨x,rfl⟩
 ·exact ⟨y,rfl⟩
 ·exact ⟨z,rfl⟩
theorem EP (w:World) {x y z v d:Int} (hv:[Value.int .i64 x,Value.int .i64 y,Value.int .i64 z][d.toNat]?=some (.int .i64 v)):(w.alloc (.cells #[.int .i64 x,.int .i64 y,.int .i64 z] 3)).cell? ⟨w.heap.size,d.toNat,none⟩=some (.int .i64 v) :=
 (cell_of_row _ _ _ _ _ _ (heap_alloc_new w _)).trans (by simpa using hv)
theorem Et (rb P:Nat) (r c n0:Int) (hr:1<=r/\r<=5) (hc:1<=c/\c<=5) (hn:0<=n0/\n0<=1000000) (w:World) (h:Rd w rb P) (hP:P<1000000):Calls Tryz.prog 121 #[.pointer (some ⟨rb,0,none⟩),.int .i64 r,.int .i64 c,.int .i64 n0] w (Dm w rb (P+220)):=by
 obtain ⟨i0',hi,hz0,hz1,hz2⟩:=info_parts eU;have hrw:=h.lt;have N0:r*c<=5*5:=Int.mul_le_mul hr.2 hc.2 (by omega) (by omega)
 have N1:0<r*c:=Int.mul_pos (by omega) (by omega)
 obtain ⟨N,hN⟩:∃ N:Nat,r*c=(N:Int):=⟨(r*c).toNat,by omega⟩
 have hN1:1<=N:=by omega
 have hN2:N<=25:=by omega
 have hNl:N+1<=26:=by omega
 clear N0 N1;have hwN:IntKind.i64.wrap (r*c)=(N:Int):=by rw [hN];exact IntWalk.i64_in _ (by omega)
 have hNn:(0:Int)<(N:Int):=by omega
 have hM0:=Lib.hid (Mi.start (r:=r) (c:=c) h);have HN:=Lib.hid hN;obtain ⟨c1,c2⟩:=hc;clear h hr hN
 go_enter Tryz.func121,Tryz.ntmps121
 go_wp2
 go_loopw [10] (fun v10 wr=>∃ (j:Nat) (A:Option Addr) (cp:Nat) (xs:List Int),j<=N/\v10= .int .i64 (j:Int)/\Hid (Mi rb r c w (P+8*j) wr j A cp xs)) (fun k _=>((N:Int)-intOf k).toNat)
 case atStart=>exact ⟨0,none,0,[],by omega,by go_num,hM0⟩
 case round =>
  obtain ⟨j,A,cp,xs,hj,rfl,hm⟩:=hrel;clear hM0
  by_cases hk:j<N
  ·have hk':(j:Int)<(N:Int):=by omega
   have MD:=Lib.hid hm.out.drew;have hP2:P+8*j<1000200:=by omega
   have C1:Hid (∀ W:World,Rd W rb (P+8*j)->Calls Tryz.prog 71 #[.pointer (some ⟨rb,0,none⟩),.int .i64 64] W (Pk W rb (P+8*j+1) 64)):=fun W h=>ct rb _ 64 W h (by omega)
   have C2:Hid (∀ (x:Int) (W:World),Calls Tryz.prog 132 #[.int .i64 x] W fun e w'=>∃ y:Int,e= .returned (.int .i64 y)/\W=w'):=fun x W=>(bG x W).mono fun e w' h=>⟨_,h.1,h.2⟩
   have C3:Hid (∀ W:World,Rd W rb (P+8*j+1)->Calls Tryz.prog 162 #[.pointer (some ⟨rb,0,none⟩),.int .i64 0] W (Rg0 W rb (P+8*j+1+6))):=fun W h=>DV rb _ W h (by omega)
   have C4:Hid (∀ W:World,Rd W rb (P+8*j+1+6)->Calls Tryz.prog 71 #[.pointer (some ⟨rb,0,none⟩),.int .i64 4] W (Pk W rb (P+8*j+1+6+1) 4)):=fun W h=>ct rb _ 4 W h (by omega)
   have H2:Hid (j+1<=maxLen):=by unfold maxLen;show j+1<=_;omega
   have H3:Hid ((j+1)*8<=140737488355328):=by show (j+1)*8<=_;omega
   have cM:wr.cell? ⟨w.heap.size+1,2,none⟩=some (.slice A j cp):=hm.out.kx;have zM:=hm.out.lt
   go_upto_region 5 with fail
   go_region_law (first
    | (refine step_append_lies _ (by rfl) _ _ _ (by rfl) w.heap.size 3 i0' (.int .i64 0) 1 8 Tryz.underlying35 hi hz0 hz1 hz2 rfl (by omega) (.slice A j cp) j _ (by rfl) (World.ownsRow.alloc MC.out.os _) ⟨wc.heap.size,0,none⟩ 1 1 [.int .i64 v] (by rfl) rfl (fun jj u h=>HN1.out jj u h) H1.out (by omega) H2.out H3.out H4.out (wc.heap.size+1) H5.out ?_;intro g cap w1 hown hgrow hat hlt1;have HA:=Lib.hid (Mi.app MC.out hrw hown hgrow hat);clear hown hgrow hat;have kT:=HA.out.2.1.cell 2;have fT:=HA.out.2.1.frozen 2;have zT:=HA.out.2.1.lt)
    | (refine step_append_lies _ (by rfl) _ _ _ (by rfl) w.heap.size 3 i0' (.int .i64 0) 1 8 Tryz.underlying35 hi hz0 hz1 hz2 rfl (by omega) (.slice A j cp) j _ (by rfl) (World.ownsRow.alloc (MC.out.alloc (.cells #[.int .i64 xx,.int .i64 yy] 3)).os _) ⟨wc.heap.size+1,0,none⟩ 1 1 [.int .i64 v] (by rfl) rfl (fun jj u h=>HN1.out jj u h) H1.out (by omega) H2.out H3.out H4.out (wc.heap.size+1+1) H5.out ?_;intro g cap w1 hown hgrow hat hlt1;have HA:=Lib.hid (Mi.app (MC.out.alloc (.cells #[.int .i64 xx,.int .i64 yy] 3)) hrw hown hgrow (hat.imp id fun e=>e.trans (by rw [World.size_alloc])));clear hown hgrow hat;have kT:=HA.out.2.1.cell 2;have fT:=HA.out.2.1.frozen 2;have zT:=HA.out.2.1.lt)
    | (go_simp;go_at_call 71;(with_reducible refine (C1.out _ MD.out.rd).mono ?_);rintro e wa ⟨a,rfl,a0,a1,r',o'⟩;have a2:a<=63:=(by omega);have MA:=Lib.hid (MD.out.only hrw o' r');have cA:=MA.out.kx;have fA:=MA.out.DC;have zA:=MA.out.lt;clear a1 r' o')
    | (go_simp;go_at_call 132;refine (C2.out _ _).mono ?_;rintro e w' ⟨xx,rfl,rfl⟩)
    | (go_simp;go_at_call 162;(with_reducible refine (C3.out _ MA.out.rd).mono ?_);rintro e wb ⟨yy,rfl,y0,y1,r',o'⟩;have MB:=Lib.hid (MA.out.only hrw o' r');have cB:=MB.out.kx;have fB:=MB.out.DC;have zB:=MB.out.lt;clear y0 y1 r' o')
    | (go_simp;go_at_call 71;(with_reducible refine (C4.out _ (MB.out.alloc _).rd).mono ?_);rintro e wc ⟨q,rfl,q0,q1,r',o'⟩;have q2:q<6:=(by omega);clear q1;obtain ⟨d,hd,d0,d1⟩:=DQ (q:=q) (n:=3) (by omega) q0 q2;have hwd:=IntWalk.i64_in d (by omega);obtain ⟨v,hv,hvv⟩:=D_ xx yy d d0 d1;have MC:=Lib.hid ((MB.out.alloc (.cells #[.int .i64 xx,.int .i64 yy] 3)).only hrw o' r');have cC:=MC.out.kx;have fC:=MC.out.DC;have zC:=MC.out.lt;have zb:wb.heap.size<wc.heap.size:=(by have:=o'.size;simp at this;omega);have cX:wc.cell? ⟨wb.heap.size,d.toNat,none⟩=some (.int .i64 v):=(o'.cell (by simp) (by omega)).trans (zq wb hv);have HN1:=Lib.hid (cell_one_new wc (.int .i64 v) 3);have H1:Hid (∀ u∈[Value.int .i64 v],u.oneCell'=true):=(by intro u hu;simp at hu;subst hu;rfl);have H4:Hid (w.heap.size<=(wc.alloc (.cells #[.int .i64 v] 3)).heap.size):=(by show w.heap.size<=_;simp;omega);have H5:Hid ((wc.alloc (.cells #[.int .i64 v] 3)).heap.size=wc.heap.size+1):=(by show _=_;simp);have cL:(wc.alloc (.cells #[.int .i64 v] 3)).cell? ⟨w.heap.size+1,2,none⟩=some (.slice A j cp):=(MC.out.alloc (.cells #[.int .i64 v] 3)).kx;clear hvv r' o' hv)
    | (go_simp;go_at_call 71;(with_reducible refine (C4.out _ MB.out.rd).mono ?_);rintro e wc ⟨q,rfl,q0,q1,r',o'⟩;have q2:q<6:=(by omega);clear q1;obtain ⟨d,hd,d0,d1⟩:=DQ (q:=q) (n:=3) (by omega) q0 q2;have hwd:=IntWalk.i64_in d (by omega);obtain ⟨v,hv,hvv⟩:=D_ xx yy d d0 d1;have MC:=Lib.hid (MB.out.only hrw o' r');have cC:=MC.out.kx;have fC:=MC.out.DC;have zC:=MC.out.lt;have cX:(wc.alloc (.cells #[.int .i64 xx,.int .i64 yy] 3)).cell? ⟨wc.heap.size,d.toNat,none⟩=some (.int .i64 v):=zq wc hv;have hv2:=hv;obtain ⟨_,hve⟩:=List.getElem?_eq_some_iff.1 hv2;have HN1:Hid (∀ jj u,[Value.int .i64 v][jj]?=some u->((wc.alloc (.cells #[.int .i64 xx,.int .i64 yy] 3)).alloc (.cells #[.int .i64 v] 3)).cell? ((⟨wc.heap.size+1,0,none⟩:Addr).add jj)=some u):=(by have h:=cell_one_new (wc.alloc (.cells #[.int .i64 xx,.int .i64 yy] 3)) (.int .i64 v) 3;rw [World.size_alloc] at h;exact h);have H1:Hid (∀ u∈[Value.int .i64 v],u.oneCell'=true):=(by intro u hu;simp at hu;subst hu;rfl);have H4:Hid (w.heap.size<=((wc.alloc (.cells #[.int .i64 xx,.int .i64 yy] 3)).alloc (.cells #[.int .i64 v] 3)).heap.size):=(by show w.heap.size<=_;simp;omega);have H5:Hid (((wc.alloc (.cells #[.int .i64 xx,.int .i64 yy] 3)).alloc (.cells #[.int .i64 v] 3)).heap.size=(wc.heap.size+1)+1):=(by show _=_;simp);have cL0:(wc.alloc (.cells #[.int .i64 xx,.int .i64 yy] 3)).cell? ⟨w.heap.size+1,2,none⟩=some (.slice A j cp):=(MC.out.alloc (.cells #[.int .i64 xx,.int .i64 yy] 3)).kx;have cL:((wc.alloc (.cells #[.int .i64 xx,.int .i64 yy] 3)).alloc (.cells #[.int .i64 v] 3)).cell? ⟨w.heap.size+1,2,none⟩=some (.slice A j cp):=((MC.out.alloc (.cells #[.int .i64 xx,.int .i64 yy] 3)).alloc (.cells #[.int .i64 v] 3)).kx;clear hvv r' o'))
   all_goals
    go_wp2
    go_roundw
    case rel=>exact ⟨j+1,some ⟨g,0,none⟩,cap,xs++[v],by omega,by go_num,Lib.hid ((Ma.next HA.out hrw).mono (by omega))⟩
    case measure=>simp [intOf];omega
  ·obtain rfl:j=N:=by omega
   go_wp2_with fail
   refine (EG rb (P+8*j) n0 hn wr hm.out.rd (by omega)).mono ?_
   rintro e w4 ⟨od,rfl,r',o'⟩;have M4:=Lib.hid (hm.out.only hrw o' r');clear r' o' hm
   cases od
   ·have za1:w.heap.size<w4.heap.size:=by have:=M4.out.lt;omega
    have za2:w.heap.size+1<w4.heap.size:=M4.out.lt;have ca00:w4.cell? ⟨w.heap.size,0,none⟩=some (.int .i64 0):=M4.out.1.cell 0;have fa00:w4.frozen? ⟨w.heap.size,0,none⟩=false:=M4.out.1.frozen 0;have ca01:w4.cell? ⟨w.heap.size,1,none⟩=some (.int .i64 0):=M4.out.1.cell 1;have fa01:w4.frozen? ⟨w.heap.size,1,none⟩=false:=M4.out.1.frozen 1;have ca02:w4.cell? ⟨w.heap.size,2,none⟩=some (.slice none 0 0):=M4.out.1.cell 2;have fa02:w4.frozen? ⟨w.heap.size,2,none⟩=false:=M4.out.1.frozen 2;have ca10:w4.cell? ⟨w.heap.size+1,0,none⟩=some (.int .i64 r):=M4.out.2.1.cell 0;have fa10:w4.frozen? ⟨w.heap.size+1,0,none⟩=false:=M4.out.2.1.frozen 0;have ca11:w4.cell? ⟨w.heap.size+1,1,none⟩=some (.int .i64 c):=M4.out.2.1.cell 1;have fa11:w4.frozen? ⟨w.heap.size+1,1,none⟩=false:=M4.out.2.1.frozen 1;have ca12:w4.cell? ⟨w.heap.size+1,2,none⟩=some (.slice A j cp):=M4.out.2.1.cell 2;have fa12:w4.frozen? ⟨w.heap.size+1,2,none⟩=false:=M4.out.2.1.frozen 2;go_wp2
    exact bodyPost_ret (v:= .agg #[.int .i64 r,.int .i64 c,.slice A j cp]) (by simp [results,Tryz.results121,go_sem,za1,za2,ca00,fa00,ca01,fa01,ca02,fa02,ca10,fa10,ca11,fa11,ca12,fa12,(by omega:¬ w.heap.size=w.heap.size+1),(by omega:¬ w.heap.size+1=w.heap.size)]) rfl (Mi.fin (M4.out) hrw (by omega) (by omega))
   ·go_wp2_with fail
    refine (ct rb (P+8*j+1) 4 w4 M4.out.rd (by omega)).mono ?_
    rintro e w5 ⟨v,rfl,v0,v1,r',o'⟩;have M5:=Lib.hid (M4.out.only hrw o' r');clear r' o' M4;have hv:v=0\/v=1\/v=2\/v=3:=by omega
    clear v0 v1;rcases hv with rfl | rfl | rfl | rfl
    ·go_wp2_with fail
     refine (ct rb (P+8*j+1+1) 3 _ (M5.out.alloc _).rd (by omega)).mono ?_
     rintro e w6 ⟨q,rfl,q0,q1,r',o'⟩;have q2:q<3:=by omega
     obtain ⟨x,hx⟩:=Fq 0 6 (-1) q q0 q2;have z5:=M5.out.lt;have cX:w6.cell? ⟨w5.heap.size,q.toNat,none⟩=some (.int .i64 x):=(o'.cell (by simp) (by omega)).trans (EP w5 hx)
     have zX:w5.heap.size<w6.heap.size:=by have:=o'.size;simp at this;omega
     have M6:=Lib.hid ((M5.out.alloc (.cells #[.int .i64 0,.int .i64 6,.int .i64 (-1)] 3)).only hrw o' r');clear r' o' q1 hx M5;have za1:w.heap.size<w6.heap.size:=by have:=M6.out.lt;omega
     have za2:w.heap.size+1<w6.heap.size:=M6.out.lt;have ca00:w6.cell? ⟨w.heap.size,0,none⟩=some (.int .i64 0):=M6.out.1.cell 0;have fa00:w6.frozen? ⟨w.heap.size,0,none⟩=false:=M6.out.1.frozen 0;have ca01:w6.cell? ⟨w.heap.size,1,none⟩=some (.int .i64 0):=M6.out.1.cell 1;have fa01:w6.frozen? ⟨w.heap.size,1,none⟩=false:=M6.out.1.frozen 1;have ca02:w6.cell? ⟨w.heap.size,2,none⟩=some (.slice none 0 0):=M6.out.1.cell 2;have fa02:w6.frozen? ⟨w.heap.size,2,none⟩=false:=M6.out.1.frozen 2;have ca10:w6.cell? ⟨w.heap.size+1,0,none⟩=some (.int .i64 r):=M6.out.2.1.cell 0;have fa10:w6.frozen? ⟨w.heap.size+1,0,none⟩=false:=M6.out.2.1.frozen 0;have ca11:w6.cell? ⟨w.heap.size+1,1,none⟩=some (.int .i64 c):=M6.out.2.1.cell 1;have fa11:w6.frozen? ⟨w.heap.size+1,1,none⟩=false:=M6.out.2.1.frozen 1;have ca12:w6.cell? ⟨w.heap.size+1,2,none⟩=some (.slice A j cp):=M6.out.2.1.cell 2;have fa12:w6.frozen? ⟨w.heap.size+1,2,none⟩=false:=M6.out.2.1.frozen 2;go_wp2
     exact bodyPost_ret (v:= .agg #[.int .i64 x,.int .i64 c,.slice A j cp]) (by simp [results,Tryz.results121,go_sem,za1,za2,ca00,fa00,ca01,fa01,ca02,fa02,ca10,fa10,ca11,fa11,ca12,fa12,cX,zX,q0,q2,(by omega:¬ w.heap.size=w.heap.size+1),(by omega:¬ w.heap.size+1=w.heap.size)]) rfl (Mi.fin (M6.out.Fw hrw x) hrw (by omega) (by omega))
    ·have za1:w.heap.size<w5.heap.size:=by have:=M5.out.lt;omega
     have za2:w.heap.size+1<w5.heap.size:=M5.out.lt;have ca00:w5.cell? ⟨w.heap.size,0,none⟩=some (.int .i64 0):=M5.out.1.cell 0;have fa00:w5.frozen? ⟨w.heap.size,0,none⟩=false:=M5.out.1.frozen 0;have ca01:w5.cell? ⟨w.heap.size,1,none⟩=some (.int .i64 0):=M5.out.1.cell 1;have fa01:w5.frozen? ⟨w.heap.size,1,none⟩=false:=M5.out.1.frozen 1;have ca02:w5.cell? ⟨w.heap.size,2,none⟩=some (.slice none 0 0):=M5.out.1.cell 2;have fa02:w5.frozen? ⟨w.heap.size,2,none⟩=false:=M5.out.1.frozen 2;have ca10:w5.cell? ⟨w.heap.size+1,0,none⟩=some (.int .i64 r):=M5.out.2.1.cell 0;have fa10:w5.frozen? ⟨w.heap.size+1,0,none⟩=false:=M5.out.2.1.frozen 0;have ca11:w5.cell? ⟨w.heap.size+1,1,none⟩=some (.int .i64 c):=M5.out.2.1.cell 1;have fa11:w5.frozen? ⟨w.heap.size+1,1,none⟩=false:=M5.out.2.1.frozen 1;have ca12:w5.cell? ⟨w.heap.size+1,2,none⟩=some (.slice A j cp):=M5.out.2.1.cell 2;have fa12:w5.frozen? ⟨w.heap.size+1,2,none⟩=false:=M5.out.2.1.frozen 2;have qc:=IntWalk.i64_in (c+1) (by omega)
     go_wp2
     exact bodyPost_ret (v:= .agg #[.int .i64 r,.int .i64 (c+1),.slice A j cp]) (by simp [results,Tryz.results121,go_sem,za1,za2,ca00,fa00,ca01,fa01,ca02,fa02,ca10,fa10,ca11,fa11,ca12,fa12,qc,(by omega:¬ w.heap.size=w.heap.size+1),(by omega:¬ w.heap.size+1=w.heap.size)]) rfl (Mi.fin (M5.out.Fv hrw (c+1)) hrw (by omega) (by omega))
    ·have c52:=M5.out.kx;have z5:=M5.out.lt
     go_wp2_with (at_builtin;refine wpList_append_lies _ rfl _ _ 35 rfl w.heap.size 3 i0' (.int .i64 0) 1 8 Tryz.underlying35 hi hz0 hz1 hz2 rfl (by decide) (.slice A j cp) j _ rfl (World.ownsRow.alloc M5.out.os _) ⟨w5.heap.size,0,none⟩ 1 1 [.int .i64 1] rfl rfl ?c1 ?c2 ?c3 ?c4 ?c5 ?c6 (w5.heap.size+1) ?c7 ?_)
     case c1=>exact cell_one_new _ _ _
     case c2=>intro u hu;simp at hu;subst hu;rfl
     case c3=>omega
     case c4=>unfold maxLen;omega
     case c5=>omega
     case c6=>simp;omega
     case c7=>simp
     intro g cap w6 hown hgrow hat hlt;have HA:=Lib.hid (Mi.app M5.out hrw hown hgrow hat);clear hown hgrow hat c52;have za1:w.heap.size<w6.heap.size:=HA.out.1.lt;have za2:w.heap.size+1<w6.heap.size:=HA.out.2.1.lt;have ca00:w6.cell? ⟨w.heap.size,0,none⟩=some (.int .i64 0):=HA.out.1.cell 0;have fa00:w6.frozen? ⟨w.heap.size,0,none⟩=false:=HA.out.1.frozen 0;have ca01:w6.cell? ⟨w.heap.size,1,none⟩=some (.int .i64 0):=HA.out.1.cell 1;have fa01:w6.frozen? ⟨w.heap.size,1,none⟩=false:=HA.out.1.frozen 1;have ca02:w6.cell? ⟨w.heap.size,2,none⟩=some (.slice none 0 0):=HA.out.1.cell 2;have fa02:w6.frozen? ⟨w.heap.size,2,none⟩=false:=HA.out.1.frozen 2;have ca10:w6.cell? ⟨w.heap.size+1,0,none⟩=some (.int .i64 r):=HA.out.2.1.cell 0;have fa10:w6.frozen? ⟨w.heap.size+1,0,none⟩=false:=HA.out.2.1.frozen 0;have ca11:w6.cell? ⟨w.heap.size+1,1,none⟩=some (.int .i64 c):=HA.out.2.1.cell 1;have fa11:w6.frozen? ⟨w.heap.size+1,1,none⟩=false:=HA.out.2.1.frozen 1;have ca12:w6.cell? ⟨w.heap.size+1,2,none⟩=some (.slice A j cp):=HA.out.2.1.cell 2;have fa12:w6.frozen? ⟨w.heap.size+1,2,none⟩=false:=HA.out.2.1.frozen 2;go_wp2
     exact bodyPost_ret (v:= .agg #[.int .i64 r,.int .i64 c,.slice (some ⟨g,0,none⟩) (j+1) cap]) (by simp [results,Tryz.results121,go_sem,za1,za2,ca00,fa00,ca01,fa01,ca02,fa02,ca10,fa10,ca11,fa11,ca12,fa12,(by omega:¬ w.heap.size=w.heap.size+1),(by omega:¬ w.heap.size+1=w.heap.size)]) rfl (Mi.fin (HA.out.next hrw) hrw (by omega) (by omega))
    ·obtain ⟨g,rfl,_,_⟩:=M5.out.os.pos (by omega)
     have M5D:=Lib.hid M5.out.drew;have c52:w5.cell? ⟨w.heap.size+1,2,none⟩=some (.slice (some ⟨g,0,none⟩) j cp):=M5.out.kx;have z5:=M5.out.lt;have C5:Hid (∀ W:World,Rd W rb (P+8*j+1+1)->Calls Tryz.prog 71 #[.pointer (some ⟨rb,0,none⟩),.int .i64 2] W (Pk W rb (P+8*j+1+1+1) 2)):=fun W h=>ct rb _ 2 W h (by omega)
     go_upto_region 8 with fail
     go_region_with (first
      | (go_at_call 71;(with_reducible refine (C5.out _ (M5.out.alloc _).drew.rd).mono ?_);rintro e w6 ⟨q,rfl,q0,q1,r',o'⟩;have q2:q<2:=(by omega);clear q1;obtain ⟨x,hx,hxx⟩:=D_ (-1) 4096 q q0 q2;have M6:=Lib.hid ((M5.out.alloc (.cells #[.int .i64 (-1),.int .i64 4096] 3)).drew.only hrw o' r');have c62:w6.cell? ⟨w.heap.size+1,2,none⟩=some (.slice (some ⟨g,0,none⟩) j cp):=M6.out.kx;have z6:=M6.out.lt;obtain ⟨⟨y,cy⟩,fy,zy⟩:=M6.out.Fs hN1;have zb:w5.heap.size<w6.heap.size:=(by have:=o'.size;simp at this;omega);have cX:w6.cell? ⟨w5.heap.size,q.toNat,none⟩=some (.int .i64 x):=(o'.cell (by simp) (by simp;omega)).trans (zq w5 hx);clear hxx r' o')
      | (go_at_call 71;(with_reducible refine (C5.out _ M5D.out.rd).mono ?_);rintro e w6 ⟨q,rfl,q0,q1,r',o'⟩;have q2:q<2:=(by omega);clear q1;obtain ⟨x,hx,hxx⟩:=D_ (-1) 4096 q q0 q2;have M6:=Lib.hid (M5D.out.only hrw o' r');have c62:w6.cell? ⟨w.heap.size+1,2,none⟩=some (.slice (some ⟨g,0,none⟩) j cp):=M6.out.kx;have z6:=M6.out.lt;obtain ⟨⟨y,cy⟩,fy,zy⟩:=M6.out.Fs hN1;have cX:=zq w6 hx;have hx2:=hx;obtain ⟨_,hxe⟩:=List.getElem?_eq_some_iff.1 hx2;clear hxx r' o')
      | fail)
     all_goals
      first
      | (obtain ⟨W8,hW⟩:∃ u,u=(w6.setCell ⟨g,0,none⟩ (.int .i64 x)).alloc (.cells #[.int .i64 (-1),.int .i64 4096] 3):=⟨_,rfl⟩;rw [<- hW];have M8:=Lib.hid ((M6.out.EV hrw x).alloc (.cells #[.int .i64 (-1),.int .i64 4096] 3));rw [<- hW] at M8)
      | (obtain ⟨W8,hW⟩:∃ u,u=(w6.setCell ⟨g,0,none⟩ (.int .i64 x)):=⟨_,rfl⟩;rw [<- hW];have M8:=Lib.hid ((M6.out.EV hrw x));rw [<- hW] at M8)
      clear hW M6 c62 cy fy zy cX c52 z5 z6;have za1:w.heap.size<W8.heap.size:=by have:=M8.out.lt;omega
      have za2:w.heap.size+1<W8.heap.size:=M8.out.lt;have ca00:W8.cell? ⟨w.heap.size,0,none⟩=some (.int .i64 0):=M8.out.1.cell 0;have fa00:W8.frozen? ⟨w.heap.size,0,none⟩=false:=M8.out.1.frozen 0;have ca01:W8.cell? ⟨w.heap.size,1,none⟩=some (.int .i64 0):=M8.out.1.cell 1;have fa01:W8.frozen? ⟨w.heap.size,1,none⟩=false:=M8.out.1.frozen 1;have ca02:W8.cell? ⟨w.heap.size,2,none⟩=some (.slice none 0 0):=M8.out.1.cell 2;have fa02:W8.frozen? ⟨w.heap.size,2,none⟩=false:=M8.out.1.frozen 2;have ca10:W8.cell? ⟨w.heap.size+1,0,none⟩=some (.int .i64 r):=M8.out.2.1.cell 0;have fa10:W8.frozen? ⟨w.heap.size+1,0,none⟩=false:=M8.out.2.1.frozen 0;have ca11:W8.cell? ⟨w.heap.size+1,1,none⟩=some (.int .i64 c):=M8.out.2.1.cell 1;have fa11:W8.frozen? ⟨w.heap.size+1,1,none⟩=false:=M8.out.2.1.frozen 1;have ca12:W8.cell? ⟨w.heap.size+1,2,none⟩=some (.slice (some ⟨g,0,none⟩) j cp):=M8.out.2.1.cell 2;have fa12:W8.frozen? ⟨w.heap.size+1,2,none⟩=false:=M8.out.2.1.frozen 2;go_wp2
      exact bodyPost_ret (v:= .agg #[.int .i64 r,.int .i64 c,.slice (some ⟨g,0,none⟩) j cp]) (by simp [results,Tryz.results121,go_sem,za1,za2,ca00,fa00,ca01,fa01,ca02,fa02,ca10,fa10,ca11,fa11,ca12,fa12,(by omega:¬ w.heap.size=w.heap.size+1),(by omega:¬ w.heap.size+1=w.heap.size)]) rfl (Mi.fin (M8.out) hrw (by omega) (by omega))
end
end Go.Proofs.YtjciicheoghcdaaGreatDoor

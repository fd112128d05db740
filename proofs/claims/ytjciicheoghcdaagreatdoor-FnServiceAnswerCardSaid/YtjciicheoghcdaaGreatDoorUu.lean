/- Part of the proof of FnServiceAnswer. -/
import Derived.Test.YtjciicheoghcdaaGreatDoorUj
namespace Go.Proofs.YtjciicheoghcdaaGreatDoor
open Go.RowKit Go.Proofs.Tryz
set_option linter.all false
set_option maxRecDepth 20000
set_option maxHeartbeats 16000000
section
attribute [local go_sem] af ah ae
theorem En (r c:Int) (v:List Int) (A B:Option Addr) (n cn m cm:Nat) (w:World) (hx0:SI w A n v) (hy0:SI w B m v) (bn:n<=281474976710656) (bm:m<=281474976710656) :
  Calls prog 144 #[MV r c A n cn,MV r c B m cm] w fun e w'=>e= .returned (.bool true)/\Below w.heap.size w w':=by
 have HX:=Qh hx0;have HY:=Qh hy0;clear hx0 hy0;refine zE ?_;intro u1 H;refine zG (Ew A B n cn m cm v v u1 (SI.below HX.out H.O) (SI.below HY.out H.O) (by omega) (by omega)) ?_
 rintro e w2 ⟨rfl,hb⟩;replace H:=H.b hb;rw[nf];clear hb;refine zR ?_;clear H;intro u3 H
 exact⟨rfl,H.O⟩
theorem Ee (w:World) (cs ds:List Value) (x:Mx×Mx) (F G:List Nat) (h:smE.P w cs x F) (h':smE.P w ds x G) (b:smS x):Calls prog 103 #[.agg cs.toArray,.agg ds.toArray] w fun e w'=>e= .returned (.bool true)/\Below w.heap.size w w':=by
 obtain⟨A,c,B,d,F1,F2,rfl,h1,h2,_⟩:=h;obtain⟨A2,c2,B2,d2,F3,F4,rfl,h3,h4,_⟩:=h';have H1:=Qh h1.1;have H2:=Qh h2.1;have H3:=Qh h3.1;have H4:=Qh h4.1;obtain⟨hs1,hs2⟩:=b;unfold mS at hs1 hs2;clear h1 h2 h3 h4
 show Calls prog 103 #[.agg #[.int .i64 x.1.r,.int .i64 x.1.c,.slice A x.1.v.length c,.int .i64 x.2.r,.int .i64 x.2.c,.slice B x.2.v.length d],.agg #[.int .i64 x.1.r,.int .i64 x.1.c,.slice A2 x.1.v.length c2,.int .i64 x.2.r,.int .i64 x.2.c,.slice B2 x.2.v.length d2]] w _
 refine zE ?_;intro u1 H;refine zB (En x.1.r x.1.c x.1.v A A2 _ c _ c2 u1 (SI.below H1.out H.O) (SI.below H3.out H.O) (by omega) (by omega)) ?_;clear H;intro w2 u2 H
 refine zB (En x.2.r x.2.c x.2.v B B2 _ d _ d2 u2 (SI.below H2.out H.O) (SI.below H4.out H.O) (by omega) (by omega)) ?_;clear H;intro w3 u3 H
 refine zR ?_;clear H;intro u4 H
 exact⟨rfl,H.O⟩
theorem Ed (A B:Option Addr) (n cap m cap':Nat) (xs:List (Int×List (Mx×Mx))) (F G:List Nat) (w:World) (hx:RI (kE smE) w A n cap xs F) (hy:RI (kE smE) w B m cap' xs G) (bs:GH (kS smS) xs) :
  Calls prog 52 #[.slice A n cap,.slice B m cap'] w fun e w'=>e= .returned (.bool true)/\Below w.heap.size w w':=by
 obtain rfl:m=n:=hy.1.symm.trans hx.1;have HLN:=Qh hx.1;have HX:=Qh hx;have HY:=Qh hy;have HS:=Qh bs.2;have bm:m<=1048576:=by rw[<-hx.1];exact bs.1
 clear hx hy bs
 go_in
 have H:=Qh (Hq.start w);go_wp2
 go_loopw [5] (fun i wr=>∃ j:Nat,j<=m/\i= .int .i64 j/\Hid (Hq w [] wr)) (fun i _=>m-(intOf i).toNat)
 case atStart=>exact⟨0,Nat.zero_le _,rfl,H⟩
 case round =>
 clear H;obtain⟨j,hj,rfl,H⟩:=hrel;have H:=H.out
 by_cases hlt:j<m
 ·obtain⟨x,hxj,hmem⟩:=aH (xs:=xs) (j:=j) (by have:=HLN.out;omega)
  have HSX:=Qh (HS.out x hmem);obtain⟨b,off,cs,F1,rfl,hbl,hc,_,hP⟩:=HX.out.cells hxj 2 rfl;obtain⟨b',off',ds,G1,rfl,hbl',hd,_,hQ⟩:=HY.out.cells hxj 2 rfl;obtain⟨Aa,ca,rfl,hra⟩:=hP;obtain⟨Ba,da,rfl,hrb⟩:=hQ;have d0:w.cell? ⟨b,off+j*2,none⟩=some (.int .i64 x.1):=hc 0 (by omega)
  have d1:w.cell? ⟨b,off+j*2+1,none⟩=some (.slice Aa x.2.length ca):=hc 1 (by omega)
  have e0:w.cell? ⟨b',off'+j*2,none⟩=some (.int .i64 x.1):=hd 0 (by omega)
  have e1:w.cell? ⟨b',off'+j*2+1,none⟩=some (.slice Ba x.2.length da):=hd 1 (by omega)
  have HRA:=Qh hra;have HRB:=Qh hrb;have i0':(0:Int)<=(j:Int):=by omega
  have i1:(j:Int)<(m:Int):=by omega
  have hn1:(x.1 != x.1)=false:=by simp
  have hn2:((x.2.length:Int) != (x.2.length:Int))=false:=by simp
  clear hc hd hxj hmem hra hrb;refine zN ?_;clear H;intro u21 H;have e_d0:=Nat.lt_of_lt_of_le hbl H.m;have e_e0:=Nat.lt_of_lt_of_le hbl' H.m;refine zX (tg [b,b']) ?_;clear H;intro S w22 hne H;have r_d0:=H.row ((H.O.cell (p:=⟨b,off+j*2,none⟩) hbl).trans d0);have r_d1:=H.row ((H.O.cell (p:=⟨b,off+j*2+1,none⟩) hbl).trans d1);have r_e0:=H.row ((H.O.cell (p:=⟨b',off'+j*2,none⟩) hbl').trans e0);have r_e1:=H.row ((H.O.cell (p:=⟨b',off'+j*2+1,none⟩) hbl').trans e1);refine yL ?_;refine yN ?_;clear H;intro u23 H;have hbx:x.2.length<=1048576:=HSX.out.1;intros
  go_loopw [6] (fun i wr=>∃ i':Nat,i'<=x.2.length/\i= .int .i64 i'/\Hid (Hq w [] wr)) (fun i _=>x.2.length-(intOf i).toNat)
  case atStart=>exact⟨0,Nat.zero_le _,rfl,H⟩
  case round =>
  clear H;obtain⟨i,hi,rfl,H⟩:=hrel;have H:=H.out;have D1:wr.cell? ⟨b,off+j*2+1,none⟩=some (.slice Aa x.2.length ca):=(H.O.cell (p:=⟨b,off+j*2+1,none⟩) hbl).trans d1;have zb:=Nat.lt_of_lt_of_le hbl H.m
  by_cases hli:i<x.2.length
  ·obtain⟨p,hpi,hpm⟩:=aH (xs:=x.2) (j:=i) hli;have HSP:=Qh (HSX.out.2 p hpm);obtain⟨g,o1,cs,Fp,rfl,hgl,hcx,_,hpp⟩:=HRA.out.cells hpi 6 rfl;obtain⟨g',o2,ds,Gp,rfl,hgl',hcy,_,hpq⟩:=HRB.out.cells hpi 6 rfl;have hPP:(∀ y:World,Below w.heap.size w y->smE.P y cs p Fp)/\(∀ y:World,Below w.heap.size w y->smE.P y ds p Gp):=⟨fun y hy=>smE.au _ _ _ _ _ hpp fun yq hq=>hy.block yq (smE.lt _ _ _ _ hpp yq hq),fun y hy=>smE.au _ _ _ _ _ hpq fun yq hq=>hy.block yq (smE.lt _ _ _ _ hpq yq hq)⟩
   obtain⟨Ap,cp,Bp,dp,Fa,Fb,rfl,_,_,_⟩:=hpp;obtain⟨Aq,cq,Bq,dq,Ga,Gb,rfl,_,_,_⟩:=hpq;have HPP:=Qh hPP;have x0:w.cell? ⟨g,o1+i*6,none⟩=some (.int .i64 p.1.r):=hcx 0 (by omega)
   have x1:w.cell? ⟨g,o1+i*6+1,none⟩=some (.int .i64 p.1.c):=hcx 1 (by omega)
   have x2:w.cell? ⟨g,o1+i*6+2,none⟩=some (.slice Ap p.1.v.length cp):=hcx 2 (by omega)
   have x3:w.cell? ⟨g,o1+i*6+3,none⟩=some (.int .i64 p.2.r):=hcx 3 (by omega)
   have x4:w.cell? ⟨g,o1+i*6+4,none⟩=some (.int .i64 p.2.c):=hcx 4 (by omega)
   have x5:w.cell? ⟨g,o1+i*6+5,none⟩=some (.slice Bp p.2.v.length dp):=hcx 5 (by omega)
   have y0:w.cell? ⟨g',o2+i*6,none⟩=some (.int .i64 p.1.r):=hcy 0 (by omega)
   have y1:w.cell? ⟨g',o2+i*6+1,none⟩=some (.int .i64 p.1.c):=hcy 1 (by omega)
   have y2:w.cell? ⟨g',o2+i*6+2,none⟩=some (.slice Aq p.1.v.length cq):=hcy 2 (by omega)
   have y3:w.cell? ⟨g',o2+i*6+3,none⟩=some (.int .i64 p.2.r):=hcy 3 (by omega)
   have y4:w.cell? ⟨g',o2+i*6+4,none⟩=some (.int .i64 p.2.c):=hcy 4 (by omega)
   have y5:w.cell? ⟨g',o2+i*6+5,none⟩=some (.slice Bq p.2.v.length dq):=hcy 5 (by omega)
   have j0':(0:Int)<=(i:Int):=by omega
   have j1:(i:Int)<(x.2.length:Int):=by omega
   clear hcx hcy hpi hpm hPP;refine zN ?_;clear H;intro u41 H;have e_d1:=Nat.lt_of_lt_of_le hbl H.m;have e_e1:=Nat.lt_of_lt_of_le hbl' H.m;have e_x0:=Nat.lt_of_lt_of_le hgl H.m;have e_y0:=Nat.lt_of_lt_of_le hgl' H.m;refine zX (tg [b,b',g,g']) ?_;clear H;intro S w42 hne H;have r_d1:=H.row ((H.O.cell (p:=⟨b,off+j*2+1,none⟩) hbl).trans d1);have r_e1:=H.row ((H.O.cell (p:=⟨b',off'+j*2+1,none⟩) hbl').trans e1);have r_x0:=H.row ((H.O.cell (p:=⟨g,o1+i*6,none⟩) hgl).trans x0);have r_x1:=H.row ((H.O.cell (p:=⟨g,o1+i*6+1,none⟩) hgl).trans x1);have r_x2:=H.row ((H.O.cell (p:=⟨g,o1+i*6+2,none⟩) hgl).trans x2);have r_x3:=H.row ((H.O.cell (p:=⟨g,o1+i*6+3,none⟩) hgl).trans x3);have r_x4:=H.row ((H.O.cell (p:=⟨g,o1+i*6+4,none⟩) hgl).trans x4);have r_x5:=H.row ((H.O.cell (p:=⟨g,o1+i*6+5,none⟩) hgl).trans x5);have r_y0:=H.row ((H.O.cell (p:=⟨g',o2+i*6,none⟩) hgl').trans y0);have r_y1:=H.row ((H.O.cell (p:=⟨g',o2+i*6+1,none⟩) hgl').trans y1);have r_y2:=H.row ((H.O.cell (p:=⟨g',o2+i*6+2,none⟩) hgl').trans y2);have r_y3:=H.row ((H.O.cell (p:=⟨g',o2+i*6+3,none⟩) hgl').trans y3);have r_y4:=H.row ((H.O.cell (p:=⟨g',o2+i*6+4,none⟩) hgl').trans y4);have r_y5:=H.row ((H.O.cell (p:=⟨g',o2+i*6+5,none⟩) hgl').trans y5);refine yB (Ee w42 [.int .i64 p.1.r,.int .i64 p.1.c,.slice Ap p.1.v.length cp,.int .i64 p.2.r,.int .i64 p.2.c,.slice Bp p.2.v.length dp] [.int .i64 p.1.r,.int .i64 p.1.c,.slice Aq p.1.v.length cq,.int .i64 p.2.r,.int .i64 p.2.c,.slice Bq p.2.v.length dq] p Fp Gp (HPP.out.1 _ H.O) (HPP.out.2 _ H.O) HSP.out) ?_;clear H;intro w43 H;intros
   repeat (first|(refine lc' ?_;intro K hK;go_big_quiet_op;go_big_quiet_on)|refine lk' ?_)
   refine aI ?_;replace H:=H.H;refine zC ?_;intro C;intros;go_wp2
   go_roundw
   case rel=>exact⟨i+1,by omega,by go_num,H⟩
   case measure=>simp[intOf];omega
  ·obtain rfl:i=x.2.length:=by omega
   have HH:=Qh H;clear H;go_wp2
   go_roundw
   case rel=>exact⟨j+1,by omega,by go_num,HH⟩
   case measure=>simp[intOf];omega
 ·obtain rfl:j=m:=by omega
  have HO:=Qh H.O;clear H;go_wp2
  go_ret
  exact⟨rfl,HO.out⟩
theorem DD (w:World) (cs ds:List Value) (x:List (Int×List (Mx×Mx))×Int) (F G:List Nat) (h:tB.P w cs x F) (h':tB.P w ds x G) (b:svS x):Calls prog 11 #[.agg cs.toArray,.agg ds.toArray] w fun e w'=>e= .returned (.bool true)/\Below w.heap.size w w':=by
 obtain⟨A,c,rfl,h1⟩:=h;obtain⟨A2,c2,rfl,h2⟩:=h';have HX:=Qh h1;have HY:=Qh h2;clear h1 h2
 show Calls prog 11 #[.agg #[.slice A x.1.length c,.int .i64 x.2],.agg #[.slice A2 x.1.length c2,.int .i64 x.2]] w _
 refine zE ?_;intro u1 H;refine zB (Ed A A2 _ c _ c2 x.1 F G u1 (HX.out.below H.O) (HY.out.below H.O) b) ?_;clear H;intro w2 u2 H;refine zR ?_;clear H;intro u3 H
 exact⟨rfl,H.O⟩
end
end Go.Proofs.YtjciicheoghcdaaGreatDoor

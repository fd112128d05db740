/- Part of the proof that the law FnExactServiceRun of the given program returns true for every input. -/
import Derived.Test.YtjciicheoghcdaaGreatDoorYa
import Derived.Test.YtjciicheoghcdaaGreatDoorYm
import Derived.Test.YtjciicheoghcdaaGreatDoorYo
namespace Go.Proofs.YtjciicheoghcdaaGreatDoor
open Go.RowKit
set_option linter.unusedSimpArgs false
set_option linter.unusedVariables false
set_option maxRecDepth 20000
set_option maxHeartbeats 16000000
theorem lC (w:World) (cs:List Value) (x:Mx×Mx) (F:List Nat) (h:smE.P w cs x F) (b:smS x):Calls Tryz.prog 204 #[.agg cs.toArray] w (sP smE x w):=by
 obtain ⟨A,c,B,d,F1,F2,rfl,h1,h2,_⟩:=h;have HX:=Lib.hid h1.1;have HY:=Lib.hid h2.1;obtain ⟨hs1,hs2⟩:=b;clear h1 h2
 show Calls Tryz.prog 204 #[.agg #[.int .i64 x.1.r,.int .i64 x.1.c,.slice A x.1.v.length c,.int .i64 x.2.r,.int .i64 x.2.c,.slice B x.2.v.length d]] w _
 refine zE ?_;intro u1 H;refine zO (nM x.1.r x.1.c x.1.v A _ c u1 (SI.below HX.out H.O) hs1) ?_;clear H;intro w2 Aa ca u2 H;refine zO (nM x.2.r x.2.c x.2.v B _ d u2 (SI.below HY.out H.O) hs2) ?_;clear H;intro w3 Ab cb u3 H;refine zS_ ?_;clear H;intro u4 H
 exact ⟨[.int .i64 x.1.r,.int .i64 x.1.c,.slice Aa x.1.v.length ca,.int .i64 x.2.r,.int .i64 x.2.c,.slice Ab x.2.v.length cb],_,rfl,⟨Aa,ca,Ab,cb,_,_,rfl,MF.aB (H.o 1),MF.aB (H.o 0),rfl⟩,Fr.app (ek (H.o 1)) (ek (H.o 0)) (fun g h1 h2=>H.noo 1 0 g (bz h1).2 (bz h2).2),H.O⟩
theorem kD (A:Option Addr) (n cap:Nat) (xs:List (Mx×Mx)) (F:List Nat) (w:World) (hx:RI smE w A n cap xs F) (bn:n<=1048576) (bs:∀ x,x∈xs->smS x) :
  Calls Tryz.prog 157 #[.slice A n cap] w (jV smE xs w):=by
 have HLN:=Lib.hid hx.1;have HX:=Lib.hid hx;have HS:=Lib.hid bs;clear hx bs;have hmk:=fun W:World=>CK n bn W
 have H0:Hid (∃ css F',FX smE (w.alloc (.cells (madeCells ZSm (n*ZSm.size)) 82)) w.heap.size 82 w.heap.size n css (List.replicate (n-0) ZSm.toList).flatten (xs.take 0) F'):=⟨_,_,FX.made w _ ZSm (by decide) rfl n (by unfold maxLen;omega)⟩
 have B0:Hid (Below w.heap.size w (w.alloc (.cells (madeCells ZSm (n*ZSm.size)) 82))):=(Below.refl _ _).alloc (Nat.le_refl _) _;obtain ⟨O,hO⟩:∃ O,O=(Obj.cells (madeCells ZSm (n*ZSm.size)) 82):=⟨_,rfl⟩;rw [<- hO] at H0 B0 hmk;clear hO
 go_enter Tryz.func157,Tryz.ntmps157
 go_wp2
 go_loopw [4] (fun i wr=>∃ j:Nat,j<=n/\i= .int .i64 j/\Hid (∃ css F',FX smE wr w.heap.size 82 w.heap.size n css (List.replicate (n-j) ZSm.toList).flatten (xs.take j) F')/\Hid (Below w.heap.size w wr)) (fun i _=>n-(intOf i).toNat)
 case atStart=>exact ⟨0,Nat.zero_le _,rfl,H0,B0⟩
 case round =>
 obtain ⟨j,hj,rfl,hfx,hob⟩:=hrel;clear H0 B0 hmk
 by_cases hlt:j<n
 ·obtain ⟨x,hxj,hmem⟩:=aH (xs:=xs) (j:=j) (by have:=HLN.out;omega)
  have HXJ:=Lib.hid hxj;have hsx:=HS.out x hmem;have hwr:w.heap.size<=wr.heap.size:=hob.out.size;obtain ⟨b,off,cs,F1,rfl,hbl,hc,_,hP⟩:=(HX.out.below hob.out).cells hxj 6 rfl;have HP:=Lib.hid hP;obtain ⟨Aa,ca,Ab,cb,Fa,Fb,rfl,hm1,hm2,_⟩:=hP;have d0:wr.cell? ⟨b,off+j*6,none⟩=some (.int .i64 x.1.r):=hc 0 (by omega)
  have d1:wr.cell? ⟨b,off+j*6+1,none⟩=some (.int .i64 x.1.c):=hc 1 (by omega)
  have d2:wr.cell? ⟨b,off+j*6+2,none⟩=some (.slice Aa x.1.v.length ca):=hc 2 (by omega)
  have d3:wr.cell? ⟨b,off+j*6+3,none⟩=some (.int .i64 x.2.r):=hc 3 (by omega)
  have d4:wr.cell? ⟨b,off+j*6+4,none⟩=some (.int .i64 x.2.c):=hc 4 (by omega)
  have d5:wr.cell? ⟨b,off+j*6+5,none⟩=some (.slice Ab x.2.v.length cb):=hc 5 (by omega)
  have i0':(0:Int)<=(j:Int):=by omega
  have i1:(j:Int)<(n:Int):=by omega
  clear hc hxj hmem;obtain ⟨css,FO,hF⟩:=hfx.out;have hgl:w.heap.size<wr.heap.size:=hF.glt.2;have hnk:(List.replicate (n-j) ZSm.toList).flatten=[.int .i64 0,.int .i64 0,.slice none 0 0,.int .i64 0,.int .i64 0,.slice none 0 0]++(List.replicate (n-(j+1)) ZSm.toList).flatten:=by
   rw [show n-j=(n-(j+1))+1 by omega,List.replicate_succ,List.flatten_cons]
   rfl
  rw [hnk] at hF;have hpl:css.flatten.length=j*6:=by
   rw [dS hF.2.1,List.length_take,HLN.out,Nat.min_eq_left (by omega)]
   rfl
  have HPL0:=Lib.hid hpl;have HFO:=Lib.hid hF;clear hnk hpl hF hfx
  go_wp2_with fail
  refine (lC wr _ x _ HP.out hsx).mono ?_;rintro e w4 ⟨ds,G,rfl,hQ,hG,hb4⟩;have HQ:=Lib.hid hQ;obtain ⟨Ba,da,Bb,db,Ga,Gb,rfl,hm1,hm2,_⟩:=hQ;have HG:=Lib.hid hG;have HB4:=Lib.hid hb4;have h4:wr.heap.size<=w4.heap.size:=hb4.size;have h5:w.heap.size<w4.heap.size:=by omega
  have hv:=(HFO.out.below hb4).1;obtain ⟨pre,hpre⟩:∃ pre,pre=css.flatten:=⟨_,rfl⟩;obtain ⟨rest,hrest⟩:∃ rest,rest=(List.replicate (n-(j+1)) ZSm.toList).flatten:=⟨_,rfl⟩;rw [<- hpre,<- hrest] at hv;have HPL:Hid (pre.length=j*6):=by rw [hpre];exact HPL0
  have HPRE:=Lib.hid hpre;have HREST:=Lib.hid hrest;have HV:=Lib.hid hv;have HBW:Hid (Below w.heap.size w w4):=hob.out.trans (hb4.mono hwr);have y0:w4.cell? ⟨w.heap.size,j*6,none⟩=some (.int .i64 0):=eG (pre:=pre) (a:=[]) (b:=[.int .i64 0,.slice none 0 0,.int .i64 0,.int .i64 0,.slice none 0 0]++rest) HV.out (by rw [HPL.out];rfl)
  have f0:w4.frozen? ⟨w.heap.size,j*6,none⟩=false:=HV.out.frozen _;have y1:w4.cell? ⟨w.heap.size,j*6+1,none⟩=some (.int .i64 0):=eG (pre:=pre) (a:=[.int .i64 0]) (b:=[.slice none 0 0,.int .i64 0,.int .i64 0,.slice none 0 0]++rest) HV.out (by rw [HPL.out];rfl)
  have f1:w4.frozen? ⟨w.heap.size,j*6+1,none⟩=false:=HV.out.frozen _;have y2:w4.cell? ⟨w.heap.size,j*6+2,none⟩=some (.slice none 0 0):=eG (pre:=pre) (a:=[.int .i64 0,.int .i64 0]) (b:=[.int .i64 0,.int .i64 0,.slice none 0 0]++rest) HV.out (by rw [HPL.out];rfl)
  have f2:w4.frozen? ⟨w.heap.size,j*6+2,none⟩=false:=HV.out.frozen _;have y3:w4.cell? ⟨w.heap.size,j*6+3,none⟩=some (.int .i64 0):=eG (pre:=pre) (a:=[.int .i64 0,.int .i64 0,.slice none 0 0]) (b:=[.int .i64 0,.slice none 0 0]++rest) HV.out (by rw [HPL.out];rfl)
  have f3:w4.frozen? ⟨w.heap.size,j*6+3,none⟩=false:=HV.out.frozen _;have y4:w4.cell? ⟨w.heap.size,j*6+4,none⟩=some (.int .i64 0):=eG (pre:=pre) (a:=[.int .i64 0,.int .i64 0,.slice none 0 0,.int .i64 0]) (b:=[.slice none 0 0]++rest) HV.out (by rw [HPL.out];rfl)
  have f4:w4.frozen? ⟨w.heap.size,j*6+4,none⟩=false:=HV.out.frozen _;have y5:w4.cell? ⟨w.heap.size,j*6+5,none⟩=some (.slice none 0 0):=eG (pre:=pre) (a:=[.int .i64 0,.int .i64 0,.slice none 0 0,.int .i64 0,.int .i64 0]) (b:=[]++rest) HV.out (by rw [HPL.out];rfl)
  have f5:w4.frozen? ⟨w.heap.size,j*6+5,none⟩=false:=HV.out.frozen _;have HV2:=Lib.hid (FX.put (E:=smE) (pre:=pre) (a:=[.int .i64 x.1.r,.int .i64 x.1.c,.slice Ba x.1.v.length da,.int .i64 x.2.r,.int .i64 x.2.c]) (b:=[]++rest) (FX.put (E:=smE) (pre:=pre) (a:=[.int .i64 x.1.r,.int .i64 x.1.c,.slice Ba x.1.v.length da,.int .i64 x.2.r]) (b:=[.slice none 0 0]++rest) (FX.put (E:=smE) (pre:=pre) (a:=[.int .i64 x.1.r,.int .i64 x.1.c,.slice Ba x.1.v.length da]) (b:=[.int .i64 0,.slice none 0 0]++rest) (FX.put (E:=smE) (pre:=pre) (a:=[.int .i64 x.1.r,.int .i64 x.1.c]) (b:=[.int .i64 0,.int .i64 0,.slice none 0 0]++rest) (FX.put (E:=smE) (pre:=pre) (a:=[.int .i64 x.1.r]) (b:=[.slice none 0 0,.int .i64 0,.int .i64 0,.slice none 0 0]++rest) (FX.put (E:=smE) (pre:=pre) (a:=[]) (b:=[.int .i64 0,.slice none 0 0,.int .i64 0,.int .i64 0,.slice none 0 0]++rest) HV.out (j:=j*6) (by rw [HPL.out];rfl) (.int .i64 x.1.r)) (j:=j*6+1) (by rw [HPL.out];rfl) (.int .i64 x.1.c)) (j:=j*6+2) (by rw [HPL.out];rfl) (.slice Ba x.1.v.length da)) (j:=j*6+3) (by rw [HPL.out];rfl) (.int .i64 x.2.r)) (j:=j*6+4) (by rw [HPL.out];rfl) (.int .i64 x.2.c)) (j:=j*6+5) (by rw [HPL.out];rfl) (.slice Bb x.2.v.length db))
  clear hb4 hG hob hpre hrest hv HPL0;go_wp2;obtain ⟨w6,hw6⟩:∃ u,u=((((((w4.setCell ⟨w.heap.size,j*6,none⟩ (.int .i64 x.1.r)).setCell ⟨w.heap.size,j*6+1,none⟩ (.int .i64 x.1.c)).setCell ⟨w.heap.size,j*6+2,none⟩ (.slice Ba x.1.v.length da)).setCell ⟨w.heap.size,j*6+3,none⟩ (.int .i64 x.2.r)).setCell ⟨w.heap.size,j*6+4,none⟩ (.int .i64 x.2.c)).setCell ⟨w.heap.size,j*6+5,none⟩ (.slice Bb x.2.v.length db)):=⟨_,rfl⟩;have K2:Hid (Below w.heap.size w w6):=by rw [hw6];exact ((((((HBW.out.setCell (by dsimp only;omega) _).setCell (by dsimp only;omega) _).setCell (by dsimp only;omega) _).setCell (by dsimp only;omega) _).setCell (by dsimp only;omega) _).setCell (by dsimp only;omega) _)
  have K1:Hid (∃ css F',FX smE w6 w.heap.size 82 w.heap.size n css (List.replicate (n-(j+1)) ZSm.toList).flatten (xs.take (j+1)) F'):=by
   have hF:=HFO.out;have hE:∀ g',g'≠w.heap.size->w6.heap[g']?=w4.heap[g']?:=fun g' hne=>by rw [hw6];exact (Below.heap_setCell _ _ _ g' (by dsimp only;omega)).trans ((Below.heap_setCell _ _ _ g' (by dsimp only;omega)).trans ((Below.heap_setCell _ _ _ g' (by dsimp only;omega)).trans ((Below.heap_setCell _ _ _ g' (by dsimp only;omega)).trans ((Below.heap_setCell _ _ _ g' (by dsimp only;omega)).trans ((Below.heap_setCell _ _ _ g' (by dsimp only;omega)))))))
   have hfO:∀ g',g'∈FO->w6.heap[g']?=wr.heap[g']?:=fun g' hg'=>(hE g' (fun e=>hF.2.2.2 (by rw [<- e];exact hg'))).trans (HB4.out.block g' (hF.2.1.lt g' hg'))
   have hv6:=HV2.out;rw [HPRE.out,HREST.out,<- hw6] at hv6;have hGne:∀ g',g'∈G->g'≠w.heap.size:=fun g' hg' e=>by have:=(HG.out.2 g' hg').1;omega
   have:=FX.step (E:=smE) (css:=css) (g:=w.heap.size) (ys:=[.int .i64 x.1.r,.int .i64 x.1.c,.slice Ba x.1.v.length da,.int .i64 x.2.r,.int .i64 x.2.c,.slice Bb x.2.v.length db]) (x:=x) (F1:=G) hv6 hF.2.1 hF.2.2.1 hF.2.2.2 hfO ((smE).au _ _ _ _ _ HQ.out (fun g' hg'=>hE g' (hGne g' hg'))) ((HG.out.mono hwr).au (fun g' hg'=>hE g' (hGne g' hg')))
    (fun g' hg'=>⟨fun h=>by have:=hF.2.1.lt g' h;have:=(HG.out.2 g' hg').1;omega,hGne g' hg'⟩)
   rw [<- aW HXJ.out] at this
   exact ⟨_,_,this⟩
  rw [<- hw6];clear hw6 HV2
  go_roundw
  case rel=>exact ⟨j+1,by omega,by go_num,K1,K2⟩
  case measure=>simp [intOf];omega
 ·obtain rfl:j=n:=by omega
  have HN:Hid (jV smE xs w (.returned (.slice (some ⟨w.heap.size,0,none⟩) j j)) wr):=by
   obtain ⟨css,F',hF⟩:=hfx.out;rw [Nat.sub_self,List.take_of_length_le (by rw [HLN.out];exact Nat.le_refl _)] at hF
   obtain ⟨F2,hr2,hf2⟩:=FX.ri hF HLN.out;have:=HLN.out;subst this
   exact ⟨some ⟨w.heap.size,0,none⟩,_,F2,rfl,hr2,hf2,hob.out⟩
  clear hfx;go_wp2
  exact bodyPost_ret (v:= .slice (some ⟨w.heap.size,0,none⟩) j j) (by simp [results,Tryz.results157,go_sem]) rfl HN.out
theorem mI (w:World) (cs:List Value) (x:Int×List (Mx×Mx)) (F:List Nat) (h:(kE smE).P w cs x F) (b:kS smS x):Calls Tryz.prog 116 #[.agg cs.toArray] w (sP (kE smE) x w):=by
 obtain ⟨A,c,rfl,h1⟩:=h;have HX:=Lib.hid h1;have HS:=Lib.hid b;clear h1 b;refine zE ?_;intro u1 H;refine zI (kD A _ c x.2 F u1 (HX.out.below H.O) HS.out.1 HS.out.2) ?_;clear H;intro w2 A' c' F' u2 H;refine zS_ ?_;clear H;intro u3 H
 exact ⟨[.int .i64 x.1,.slice A' x.2.length c'],F',rfl,⟨A',c',rfl,(H.f 0).1⟩,(H.f 0).2,H.O⟩
theorem lB (A:Option Addr) (n cap:Nat) (xs:List (Int×List (Mx×Mx))) (F:List Nat) (w:World) (hx:RI (kE smE) w A n cap xs F) (bn:n<=1048576) (bs:∀ x,x∈xs->(kS smS) x) :
  Calls Tryz.prog 65 #[.slice A n cap] w (jV (kE smE) xs w):=by
 have HLN:=Lib.hid hx.1;have HX:=Lib.hid hx;have HS:=Lib.hid bs;clear hx bs;have hmk:=fun W:World=>zf n bn W
 have H0:Hid (∃ css F',FX (kE smE) (w.alloc (.cells (madeCells ZL (n*ZL.size)) 99)) w.heap.size 99 w.heap.size n css (List.replicate (n-0) ZL.toList).flatten (xs.take 0) F'):=⟨_,_,FX.made w _ ZL (by decide) rfl n (by unfold maxLen;omega)⟩
 have B0:Hid (Below w.heap.size w (w.alloc (.cells (madeCells ZL (n*ZL.size)) 99))):=(Below.refl _ _).alloc (Nat.le_refl _) _;obtain ⟨O,hO⟩:∃ O,O=(Obj.cells (madeCells ZL (n*ZL.size)) 99):=⟨_,rfl⟩;rw [<- hO] at H0 B0 hmk;clear hO
 go_enter Tryz.func65,Tryz.ntmps65
 go_wp2
 go_loopw [4] (fun i wr=>∃ j:Nat,j<=n/\i= .int .i64 j/\Hid (∃ css F',FX (kE smE) wr w.heap.size 99 w.heap.size n css (List.replicate (n-j) ZL.toList).flatten (xs.take j) F')/\Hid (Below w.heap.size w wr)) (fun i _=>n-(intOf i).toNat)
 case atStart=>exact ⟨0,Nat.zero_le _,rfl,H0,B0⟩
 case round =>
 obtain ⟨j,hj,rfl,hfx,hob⟩:=hrel;clear H0 B0 hmk
 by_cases hlt:j<n
 ·obtain ⟨x,hxj,hmem⟩:=aH (xs:=xs) (j:=j) (by have:=HLN.out;omega)
  have HXJ:=Lib.hid hxj;have hsx:=HS.out x hmem;have hwr:w.heap.size<=wr.heap.size:=hob.out.size;obtain ⟨b,off,cs,F1,rfl,hbl,hc,_,hP⟩:=(HX.out.below hob.out).cells hxj 2 rfl;have HP:=Lib.hid hP;obtain ⟨Aa,ca,rfl,hm1⟩:=hP;have d0:wr.cell? ⟨b,off+j*2,none⟩=some (.int .i64 x.1):=hc 0 (by omega)
  have d1:wr.cell? ⟨b,off+j*2+1,none⟩=some (.slice Aa x.2.length ca):=hc 1 (by omega)
  have i0':(0:Int)<=(j:Int):=by omega
  have i1:(j:Int)<(n:Int):=by omega
  clear hc hxj hmem;obtain ⟨css,FO,hF⟩:=hfx.out;have hgl:w.heap.size<wr.heap.size:=hF.glt.2;have hnk:(List.replicate (n-j) ZL.toList).flatten=[.int .i64 0,.slice none 0 0]++(List.replicate (n-(j+1)) ZL.toList).flatten:=by
   rw [show n-j=(n-(j+1))+1 by omega,List.replicate_succ,List.flatten_cons]
   rfl
  rw [hnk] at hF;have hpl:css.flatten.length=j*2:=by
   rw [dS hF.2.1,List.length_take,HLN.out,Nat.min_eq_left (by omega)]
   rfl
  have HPL0:=Lib.hid hpl;have HFO:=Lib.hid hF;clear hnk hpl hF hfx
  go_wp2_with fail
  refine (mI wr _ x _ HP.out hsx).mono ?_;rintro e w4 ⟨ds,G,rfl,hQ,hG,hb4⟩;have HQ:=Lib.hid hQ;obtain ⟨Ba,da,rfl,hm1⟩:=hQ;have HG:=Lib.hid hG;have HB4:=Lib.hid hb4;have h4:wr.heap.size<=w4.heap.size:=hb4.size;have h5:w.heap.size<w4.heap.size:=by omega
  have hv:=(HFO.out.below hb4).1;obtain ⟨pre,hpre⟩:∃ pre,pre=css.flatten:=⟨_,rfl⟩;obtain ⟨rest,hrest⟩:∃ rest,rest=(List.replicate (n-(j+1)) ZL.toList).flatten:=⟨_,rfl⟩;rw [<- hpre,<- hrest] at hv;have HPL:Hid (pre.length=j*2):=by rw [hpre];exact HPL0
  have HPRE:=Lib.hid hpre;have HREST:=Lib.hid hrest;have HV:=Lib.hid hv;have HBW:Hid (Below w.heap.size w w4):=hob.out.trans (hb4.mono hwr);have y0:w4.cell? ⟨w.heap.size,j*2,none⟩=some (.int .i64 0):=eG (pre:=pre) (a:=[]) (b:=[.slice none 0 0]++rest) HV.out (by rw [HPL.out];rfl)
  have f0:w4.frozen? ⟨w.heap.size,j*2,none⟩=false:=HV.out.frozen _;have y1:w4.cell? ⟨w.heap.size,j*2+1,none⟩=some (.slice none 0 0):=eG (pre:=pre) (a:=[.int .i64 0]) (b:=[]++rest) HV.out (by rw [HPL.out];rfl)
  have f1:w4.frozen? ⟨w.heap.size,j*2+1,none⟩=false:=HV.out.frozen _;have HV2:=Lib.hid (FX.put (E:=(kE smE)) (pre:=pre) (a:=[.int .i64 x.1]) (b:=[]++rest) (FX.put (E:=(kE smE)) (pre:=pre) (a:=[]) (b:=[.slice none 0 0]++rest) HV.out (j:=j*2) (by rw [HPL.out];rfl) (.int .i64 x.1)) (j:=j*2+1) (by rw [HPL.out];rfl) (.slice Ba x.2.length da))
  clear hb4 hG hob hpre hrest hv HPL0;go_wp2;obtain ⟨w6,hw6⟩:∃ u,u=((w4.setCell ⟨w.heap.size,j*2,none⟩ (.int .i64 x.1)).setCell ⟨w.heap.size,j*2+1,none⟩ (.slice Ba x.2.length da)):=⟨_,rfl⟩;have K2:Hid (Below w.heap.size w w6):=by rw [hw6];exact ((HBW.out.setCell (by dsimp only;omega) _).setCell (by dsimp only;omega) _)
  have K1:Hid (∃ css F',FX (kE smE) w6 w.heap.size 99 w.heap.size n css (List.replicate (n-(j+1)) ZL.toList).flatten (xs.take (j+1)) F'):=by
   have hF:=HFO.out;have hE:∀ g',g'≠w.heap.size->w6.heap[g']?=w4.heap[g']?:=fun g' hne=>by rw [hw6];exact (Below.heap_setCell _ _ _ g' (by dsimp only;omega)).trans ((Below.heap_setCell _ _ _ g' (by dsimp only;omega)))
   have hfO:∀ g',g'∈FO->w6.heap[g']?=wr.heap[g']?:=fun g' hg'=>(hE g' (fun e=>hF.2.2.2 (by rw [<- e];exact hg'))).trans (HB4.out.block g' (hF.2.1.lt g' hg'))
   have hv6:=HV2.out;rw [HPRE.out,HREST.out,<- hw6] at hv6;have hGne:∀ g',g'∈G->g'≠w.heap.size:=fun g' hg' e=>by have:=(HG.out.2 g' hg').1;omega
   have:=FX.step (E:=(kE smE)) (css:=css) (g:=w.heap.size) (ys:=[.int .i64 x.1,.slice Ba x.2.length da]) (x:=x) (F1:=G) hv6 hF.2.1 hF.2.2.1 hF.2.2.2 hfO (((kE smE)).au _ _ _ _ _ HQ.out (fun g' hg'=>hE g' (hGne g' hg'))) ((HG.out.mono hwr).au (fun g' hg'=>hE g' (hGne g' hg')))
    (fun g' hg'=>⟨fun h=>by have:=hF.2.1.lt g' h;have:=(HG.out.2 g' hg').1;omega,hGne g' hg'⟩)
   rw [<- aW HXJ.out] at this
   exact ⟨_,_,this⟩
  rw [<- hw6];clear hw6 HV2
  go_roundw
  case rel=>exact ⟨j+1,by omega,by go_num,K1,K2⟩
  case measure=>simp [intOf];omega
 ·obtain rfl:j=n:=by omega
  have HN:Hid (jV (kE smE) xs w (.returned (.slice (some ⟨w.heap.size,0,none⟩) j j)) wr):=by
   obtain ⟨css,F',hF⟩:=hfx.out;rw [Nat.sub_self,List.take_of_length_le (by rw [HLN.out];exact Nat.le_refl _)] at hF
   obtain ⟨F2,hr2,hf2⟩:=FX.ri hF HLN.out;have:=HLN.out;subst this
   exact ⟨some ⟨w.heap.size,0,none⟩,_,F2,rfl,hr2,hf2,hob.out⟩
  clear hfx;go_wp2
  exact bodyPost_ret (v:= .slice (some ⟨w.heap.size,0,none⟩) j j) (by simp [results,Tryz.results65,go_sem]) rfl HN.out
theorem fR (w:World) (cs:List Value) (x:List (Int×List (Mx×Mx))×Int) (F:List Nat) (h:tB.P w cs x F) (b:svS x):Calls Tryz.prog 18 #[.agg cs.toArray] w (sP tB x w):=by
 obtain ⟨A,c,rfl,h1⟩:=h;have HX:=Lib.hid h1;have HS:=Lib.hid b;clear h1 b;refine zE ?_;intro u1 H;refine zI (lB A _ c x.1 F u1 (HX.out.below H.O) HS.out.1 HS.out.2) ?_;clear H;intro w2 A' c' F' u2 H;refine zS_ ?_;clear H;intro u3 H
 exact ⟨[.slice A' x.1.length c',.int .i64 x.2],F',rfl,⟨A',c',rfl,(H.f 0).1⟩,(H.f 0).2,H.O⟩
theorem lu (w:World) (cs ds:List Value) (x:Mx×Mx) (F G:List Nat) (h:smE.P w cs x F) (h':smE.P w ds x G) (b:smS x):Calls Tryz.prog 205 #[.agg cs.toArray,.agg ds.toArray] w fun e w'=>e= .returned (.bool true)/\Below w.heap.size w w':=by
 obtain ⟨A,c,B,d,F1,F2,rfl,h1,h2,_⟩:=h;obtain ⟨A2,c2,B2,d2,F3,F4,rfl,h3,h4,_⟩:=h';have H1:=Lib.hid h1.1;have H2:=Lib.hid h2.1;have H3:=Lib.hid h3.1;have H4:=Lib.hid h4.1;obtain ⟨hs1,hs2⟩:=b;unfold mS at hs1 hs2;clear h1 h2 h3 h4;refine zE ?_;intro u1 H;refine zB (nK x.1.r x.1.c x.1.v A A2 _ c _ c2 u1 (SI.below H1.out H.O) (SI.below H3.out H.O) (by omega) (by omega)) ?_;clear H;intro w2 u2 H
 refine zB (nK x.2.r x.2.c x.2.v B B2 _ d _ d2 u2 (SI.below H2.out H.O) (SI.below H4.out H.O) (by omega) (by omega)) ?_;clear H;intro w3 u3 H
 refine zR ?_;clear H;intro u4 H
 exact ⟨rfl,H.O⟩
theorem kA (A B:Option Addr) (n cap m cap':Nat) (xs:List (Mx×Mx)) (F G:List Nat) (w:World) (hx:RI smE w A n cap xs F) (hy:RI smE w B m cap' xs G) (bs:gG smS xs) :
  Calls Tryz.prog 158 #[.slice A n cap,.slice B m cap'] w fun e w'=>e= .returned (.bool true)/\Below w.heap.size w w':=by
 obtain rfl:m=n:=hy.1.symm.trans hx.1;have HLN:=Lib.hid hx.1;have HX:=Lib.hid hx;have HY:=Lib.hid hy;have HS:=Lib.hid bs.2;have bm:m<=1048576:=by rw [<- hx.1];exact bs.1
 clear hx hy bs
 go_enter Tryz.func158,Tryz.ntmps158
 go_wp2
 go_loopw [5] (fun i wr=>∃ j:Nat,j<=m/\i= .int .i64 j/\Hid (Below w.heap.size w wr)) (fun i _=>m-(intOf i).toNat)
 case atStart=>exact ⟨0,Nat.zero_le _,rfl,Below.refl _ _⟩
 case round =>
 obtain ⟨j,hj,rfl,hob⟩:=hrel
 by_cases hlt:j<m
 ·obtain ⟨x,hxj,hmem⟩:=aH (xs:=xs) (j:=j) (by have:=HLN.out;omega)
  have hsx:=HS.out x hmem;obtain ⟨b,off,cs,F1,rfl,hbl,hc,_,hP⟩:=(HX.out.below hob.out).cells hxj 6 rfl;obtain ⟨b',off',ds,G1,rfl,hbl',hd,_,hQ⟩:=(HY.out.below hob.out).cells hxj 6 rfl;have hEQ:∀ y:World,Below wr.heap.size wr y->Calls Tryz.prog 205 #[.agg cs.toArray,.agg ds.toArray] y fun e w'=>e= .returned (.bool true)/\Below y.heap.size y w':=fun y hy=>lu y cs ds x F1 G1 ((smE).au _ _ _ _ _ hP (fun g hg=>hy.block g ((smE).lt _ _ _ _ hP g hg))) ((smE).au _ _ _ _ _ hQ (fun g hg=>hy.block g ((smE).lt _ _ _ _ hQ g hg))) hsx
  obtain ⟨Aa,ca,Ab,cb,Fa,Fb,rfl,hm1,hm2,_⟩:=hP;obtain ⟨Ba,da,Bb,db,Ga,Gb,rfl,hn1,hn2,_⟩:=hQ;have HEQ:=Lib.hid hEQ;have d0:∀ y:Wd (fun w'=>Below wr.heap.size wr w'),y.w.cell? ⟨b,off+j*6,none⟩=some (.int .i64 x.1.r):=fun y=>(y.h.cell (p:=⟨b,off+j*6,none⟩) hbl).trans (hc 0 (by omega))
  have d1:∀ y:Wd (fun w'=>Below wr.heap.size wr w'),y.w.cell? ⟨b,off+j*6+1,none⟩=some (.int .i64 x.1.c):=fun y=>(y.h.cell (p:=⟨b,off+j*6+1,none⟩) hbl).trans (hc 1 (by omega))
  have d2:∀ y:Wd (fun w'=>Below wr.heap.size wr w'),y.w.cell? ⟨b,off+j*6+2,none⟩=some (.slice Aa x.1.v.length ca):=fun y=>(y.h.cell (p:=⟨b,off+j*6+2,none⟩) hbl).trans (hc 2 (by omega))
  have d3:∀ y:Wd (fun w'=>Below wr.heap.size wr w'),y.w.cell? ⟨b,off+j*6+3,none⟩=some (.int .i64 x.2.r):=fun y=>(y.h.cell (p:=⟨b,off+j*6+3,none⟩) hbl).trans (hc 3 (by omega))
  have d4:∀ y:Wd (fun w'=>Below wr.heap.size wr w'),y.w.cell? ⟨b,off+j*6+4,none⟩=some (.int .i64 x.2.c):=fun y=>(y.h.cell (p:=⟨b,off+j*6+4,none⟩) hbl).trans (hc 4 (by omega))
  have d5:∀ y:Wd (fun w'=>Below wr.heap.size wr w'),y.w.cell? ⟨b,off+j*6+5,none⟩=some (.slice Ab x.2.v.length cb):=fun y=>(y.h.cell (p:=⟨b,off+j*6+5,none⟩) hbl).trans (hc 5 (by omega))
  have e0:∀ y:Wd (fun w'=>Below wr.heap.size wr w'),y.w.cell? ⟨b',off'+j*6,none⟩=some (.int .i64 x.1.r):=fun y=>(y.h.cell (p:=⟨b',off'+j*6,none⟩) hbl').trans (hd 0 (by omega))
  have e1:∀ y:Wd (fun w'=>Below wr.heap.size wr w'),y.w.cell? ⟨b',off'+j*6+1,none⟩=some (.int .i64 x.1.c):=fun y=>(y.h.cell (p:=⟨b',off'+j*6+1,none⟩) hbl').trans (hd 1 (by omega))
  have e2:∀ y:Wd (fun w'=>Below wr.heap.size wr w'),y.w.cell? ⟨b',off'+j*6+2,none⟩=some (.slice Ba x.1.v.length da):=fun y=>(y.h.cell (p:=⟨b',off'+j*6+2,none⟩) hbl').trans (hd 2 (by omega))
  have e3:∀ y:Wd (fun w'=>Below wr.heap.size wr w'),y.w.cell? ⟨b',off'+j*6+3,none⟩=some (.int .i64 x.2.r):=fun y=>(y.h.cell (p:=⟨b',off'+j*6+3,none⟩) hbl').trans (hd 3 (by omega))
  have e4:∀ y:Wd (fun w'=>Below wr.heap.size wr w'),y.w.cell? ⟨b',off'+j*6+4,none⟩=some (.int .i64 x.2.c):=fun y=>(y.h.cell (p:=⟨b',off'+j*6+4,none⟩) hbl').trans (hd 4 (by omega))
  have e5:∀ y:Wd (fun w'=>Below wr.heap.size wr w'),y.w.cell? ⟨b',off'+j*6+5,none⟩=some (.slice Bb x.2.v.length db):=fun y=>(y.h.cell (p:=⟨b',off'+j*6+5,none⟩) hbl').trans (hd 5 (by omega))
  have i0':(0:Int)<=(j:Int):=by omega
  have i1:(j:Int)<(m:Int):=by omega
  clear hc hd hxj hmem hEQ
  go_wp2_with fail
  refine aS (fun w'=>Below wr.heap.size wr w') (by kernel_rfl) (by kernel_rfl) (Below.refl _ _).drew ?_
  intro hne
  repeat (go_big_quiet_step (first
   | (rename_i y;go_at_call 205;with_reducible exact d_ y (Nat.le_refl _) (HEQ.out _ y.h))
   | fail))
  refine wpQuiet_nil ?_;rintro wc ⟨y,hy⟩;have hwc:Below wr.heap.size wr wc:=by rw [hy];exact y.h
  have HC:Hid (Below w.heap.size w wc):=hob.out.trans (hwc.mono hob.out.size);clear hy y hwc;go_wp2
  go_roundw
  case rel=>exact ⟨j+1,by omega,by go_num,HC⟩
  case measure=>simp [intOf];omega
 ·obtain rfl:j=m:=by omega
  go_wp2
  go_ret
  exact ⟨rfl,hob.out⟩
theorem mG (w:World) (cs ds:List Value) (x:Int×List (Mx×Mx)) (F G:List Nat) (h:(kE smE).P w cs x F) (h':(kE smE).P w ds x G) (b:kS smS x):Calls Tryz.prog 117 #[.agg cs.toArray,.agg ds.toArray] w fun e w'=>e= .returned (.bool true)/\Below w.heap.size w w':=by
 obtain ⟨A,c,rfl,h1⟩:=h;obtain ⟨A2,c2,rfl,h2⟩:=h';have HX:=Lib.hid h1;have HY:=Lib.hid h2;clear h1 h2;refine zE ?_;intro u1 H;refine zB (kA A A2 _ c _ c2 x.2 F G u1 (HX.out.below H.O) (HY.out.below H.O) b) ?_;clear H;intro w2 u2 H;refine zR ?_;clear H;intro u3 H
 exact ⟨rfl,H.O⟩
theorem lr (A B:Option Addr) (n cap m cap':Nat) (xs:List (Int×List (Mx×Mx))) (F G:List Nat) (w:World) (hx:RI (kE smE) w A n cap xs F) (hy:RI (kE smE) w B m cap' xs G) (bs:gG (kS smS) xs) :
  Calls Tryz.prog 66 #[.slice A n cap,.slice B m cap'] w fun e w'=>e= .returned (.bool true)/\Below w.heap.size w w':=by
 obtain rfl:m=n:=hy.1.symm.trans hx.1;have HLN:=Lib.hid hx.1;have HX:=Lib.hid hx;have HY:=Lib.hid hy;have HS:=Lib.hid bs.2;have bm:m<=1048576:=by rw [<- hx.1];exact bs.1
 clear hx hy bs
 go_enter Tryz.func66,Tryz.ntmps66
 go_wp2
 go_loopw [5] (fun i wr=>∃ j:Nat,j<=m/\i= .int .i64 j/\Hid (Below w.heap.size w wr)) (fun i _=>m-(intOf i).toNat)
 case atStart=>exact ⟨0,Nat.zero_le _,rfl,Below.refl _ _⟩
 case round =>
 obtain ⟨j,hj,rfl,hob⟩:=hrel
 by_cases hlt:j<m
 ·obtain ⟨x,hxj,hmem⟩:=aH (xs:=xs) (j:=j) (by have:=HLN.out;omega)
  have hsx:=HS.out x hmem;obtain ⟨b,off,cs,F1,rfl,hbl,hc,_,hP⟩:=(HX.out.below hob.out).cells hxj 2 rfl;obtain ⟨b',off',ds,G1,rfl,hbl',hd,_,hQ⟩:=(HY.out.below hob.out).cells hxj 2 rfl;have hEQ:∀ y:World,Below wr.heap.size wr y->Calls Tryz.prog 117 #[.agg cs.toArray,.agg ds.toArray] y fun e w'=>e= .returned (.bool true)/\Below y.heap.size y w':=fun y hy=>mG y cs ds x F1 G1 (((kE smE)).au _ _ _ _ _ hP (fun g hg=>hy.block g (((kE smE)).lt _ _ _ _ hP g hg))) (((kE smE)).au _ _ _ _ _ hQ (fun g hg=>hy.block g (((kE smE)).lt _ _ _ _ hQ g hg))) hsx
  obtain ⟨Aa,ca,rfl,hm1⟩:=hP;obtain ⟨Ba,da,rfl,hn1⟩:=hQ;have HEQ:=Lib.hid hEQ;have d0:∀ y:Wd (fun w'=>Below wr.heap.size wr w'),y.w.cell? ⟨b,off+j*2,none⟩=some (.int .i64 x.1):=fun y=>(y.h.cell (p:=⟨b,off+j*2,none⟩) hbl).trans (hc 0 (by omega))
  have d1:∀ y:Wd (fun w'=>Below wr.heap.size wr w'),y.w.cell? ⟨b,off+j*2+1,none⟩=some (.slice Aa x.2.length ca):=fun y=>(y.h.cell (p:=⟨b,off+j*2+1,none⟩) hbl).trans (hc 1 (by omega))
  have e0:∀ y:Wd (fun w'=>Below wr.heap.size wr w'),y.w.cell? ⟨b',off'+j*2,none⟩=some (.int .i64 x.1):=fun y=>(y.h.cell (p:=⟨b',off'+j*2,none⟩) hbl').trans (hd 0 (by omega))
  have e1:∀ y:Wd (fun w'=>Below wr.heap.size wr w'),y.w.cell? ⟨b',off'+j*2+1,none⟩=some (.slice Ba x.2.length da):=fun y=>(y.h.cell (p:=⟨b',off'+j*2+1,none⟩) hbl').trans (hd 1 (by omega))
  have i0':(0:Int)<=(j:Int):=by omega
  have i1:(j:Int)<(m:Int):=by omega
  clear hc hd hxj hmem hEQ
  go_wp2_with fail
  refine aS (fun w'=>Below wr.heap.size wr w') (by kernel_rfl) (by kernel_rfl) (Below.refl _ _).drew ?_
  intro hne
  repeat (go_big_quiet_step (first
   | (rename_i y;go_at_call 117;with_reducible exact d_ y (Nat.le_refl _) (HEQ.out _ y.h))
   | fail))
  refine wpQuiet_nil ?_;rintro wc ⟨y,hy⟩;have hwc:Below wr.heap.size wr wc:=by rw [hy];exact y.h
  have HC:Hid (Below w.heap.size w wc):=hob.out.trans (hwc.mono hob.out.size);clear hy y hwc;go_wp2
  go_roundw
  case rel=>exact ⟨j+1,by omega,by go_num,HC⟩
  case measure=>simp [intOf];omega
 ·obtain rfl:j=m:=by omega
  go_wp2
  go_ret
  exact ⟨rfl,hob.out⟩
theorem fQ (w:World) (cs ds:List Value) (x:List (Int×List (Mx×Mx))×Int) (F G:List Nat) (h:tB.P w cs x F) (h':tB.P w ds x G) (b:svS x):Calls Tryz.prog 19 #[.agg cs.toArray,.agg ds.toArray] w fun e w'=>e= .returned (.bool true)/\Below w.heap.size w w':=by
 obtain ⟨A,c,rfl,h1⟩:=h;obtain ⟨A2,c2,rfl,h2⟩:=h';have HX:=Lib.hid h1;have HY:=Lib.hid h2;clear h1 h2;refine zE ?_;intro u1 H;refine zB (lr A A2 _ c _ c2 x.1 F G u1 (HX.out.below H.O) (HY.out.below H.O) b) ?_;clear H;intro w2 u2 H;refine zR ?_;clear H;intro u3 H
 exact ⟨rfl,H.O⟩
end Go.Proofs.YtjciicheoghcdaaGreatDoor

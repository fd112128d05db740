/- Part of the proof: the law FnServiceRun is true for every input. -/
import Derived.BigRegion
import Derived.Deep.AppendLies
import Derived.Deep.DeepCutAuto
import Derived.Deep.RegionLaw
import Derived.Test.YtjciicheoghcdaaGreatDoorVc
import Derived.Test.YtjciicheoghcdaaGreatDoorVf
import Derived.Test.YtjciicheoghcdaaGreatDoorVg
import Derived.Test.YtjciicheoghcdaaGreatDoorVh
import Derived.Test.YtjciicheoghcdaaGreatDoorVi
namespace Go.Proofs.YtjciicheoghcdaaGreatDoor
open Go.RowKit Go.Proofs.Tryz
set_option linter.all false
set_option maxRecDepth 20000
set_option maxHeartbeats 16000000
theorem ef (A:Option Addr) (n cap:Nat) (xs:List (Mx×Mx)) (F:List Nat) (w:World) (hx:RI smE w A n cap xs F) (bn:n<=1048576) (bs:∀ x,x∈xs->smS x) :
  Calls prog 181 #[.slice A n cap] w (jV smE xs w):=by
 obtain⟨i0,hi,hz0,hz1,hz2⟩:=info_parts lq;have HLN:=Qh hx.1;have HX:=Qh hx;have HS:=Qh bs;clear hx bs;have H0:Hid (∃ css F',OX smE (w.alloc (.cells #[] 82)) w.heap.size 82 (some ⟨w.heap.size,0,none⟩) 0 0 css (xs.take 0) F'):=⟨_,_,OX.kG w Ql _⟩;have B0:Hid (Below w.heap.size w (w.alloc (.cells #[] 82))):=Qb.alloc Ql _
 go_enter func181,ntmps181
 go_wp2
 go_loopw [3,4] (fun v i wr=>∃ (j c':Nat) (A':Option Addr),j<=n/\i= .int .i64 j/\v= .slice A' j c'/\Hid (∃ css F',OX smE wr w.heap.size 82 A' j c' css (xs.take j) F')/\Hid (Below w.heap.size w wr)) (fun _ i _=>n-(intOf i).toNat)
 case atStart=>exact⟨0,0,_,Nat.zero_le _,rfl,rfl,H0,B0⟩
 case round =>
 obtain⟨j,c',A',hj,rfl,rfl,hox,hob⟩:=hrel
 by_cases hlt:j<n
 ·obtain⟨x,hxj,hmem⟩:=aH (xs:=xs) (j:=j) (by have:=HLN.out;omega)
  have HXJ:=Qh hxj;have hsx:=HS.out x hmem;have hwr:w.heap.size<=wr.heap.size:=hob.out.size;obtain⟨b,off,cs,F1,rfl,hbl,hc,_,hP⟩:=(HX.out.below hob.out).cells hxj 6 rfl;have HP:=Qh hP;obtain⟨Aa,ca,Ab,cb,Fa,Fb,rfl,hm1,hm2,_⟩:=hP;have d0:wr.cell? ⟨b,off+j*6,none⟩=some (.int .i64 x.1.r):=hc 0 (by omega)
  have d1:wr.cell? ⟨b,off+j*6+1,none⟩=some (.int .i64 x.1.c):=hc 1 (by omega)
  have d2:wr.cell? ⟨b,off+j*6+2,none⟩=some (.slice Aa x.1.v.length ca):=hc 2 (by omega)
  have d3:wr.cell? ⟨b,off+j*6+3,none⟩=some (.int .i64 x.2.r):=hc 3 (by omega)
  have d4:wr.cell? ⟨b,off+j*6+4,none⟩=some (.int .i64 x.2.c):=hc 4 (by omega)
  have d5:wr.cell? ⟨b,off+j*6+5,none⟩=some (.slice Ab x.2.v.length cb):=hc 5 (by omega)
  have i0':(0:Int)<=(j:Int):=by omega
  have i1:(j:Int)<(n:Int):=by omega
  clear hc hxj hmem
  go_wp2_with fail
  refine(AT wr _ x _ HP.out hsx).mono ?_;rintro e w4 ⟨ds,G,rfl,hQ,hG,hb4⟩;have HQ:=Qh hQ;obtain⟨Ba,da,Bb,db,Ga,Gb,rfl,hm1,hm2,_⟩:=hQ;have HG:=Qh hG;have HB4:=Qh hb4;have h4:wr.heap.size<=w4.heap.size:=hb4.size;obtain⟨css,F',hox'⟩:=hox.out;have HOX:=Qh (hox'.below hb4);have HD:Hid (∀ g,g∈G->g∉F'/\blk A'≠some g):=fun g hg=>⟨fun h=>by have:=hox'.lt g h;have:=(HG.out.2 g hg).1;omega,fun h=>by have:=(hox'.aj g h).2;have:=(HG.out.2 g hg).1;omega⟩
  have HBW:Hid (Below w.heap.size w w4):=hob.out.trans (hb4.mono hwr);clear hox hox' hb4 hG hob
  go_wp2_with (at_builtin;refine wpList_append_lies _ rfl _ _ 97 rfl w.heap.size 82 i0 (.agg #[.int .i64 0,.int .i64 0,.slice none 0 0,.int .i64 0,.int .i64 0,.slice none 0 0]) 6 80 underlying97 hi hz0 hz1 hz2 rfl (by decide) (.slice A' j c') j _ rfl (World.ownsRow.alloc HOX.out.1 _) ⟨w4.heap.size,0,none⟩ 1 1 [.int .i64 x.1.r,.int .i64 x.1.c,.slice Ba x.1.v.length da,.int .i64 x.2.r,.int .i64 x.2.c,.slice Bb x.2.v.length db] rfl rfl ?c1 ?c2 ?c3 ?c4 ?c5 ?c6 (w4.heap.size+1) ?c7 ?_)
  case c1 =>
   exact dz w4 _ _
  case c2=>intro u hu;simp at hu;rcases hu with rfl|rfl|rfl|rfl|rfl|rfl <;> rfl
  case c3=>omega
  case c4=>unfold maxLen;omega
  case c5=>omega
  case c6=>simp;omega
  case c7=>simp
  intro g cap5 w5 hown hgrow hat hlt5;obtain⟨k1,k2,k3⟩:=OX.push HOX.out HQ.out (HG.out.mono hwr) HD.out HBW.out Ql (by omega) hown hgrow hat
  rw[<-aW HXJ.out] at k1;have K1:Hid (∃ css F',OX smE w5 w.heap.size 82 (some ⟨g,0,none⟩) (j+1) cap5 css (xs.take (j+1)) F'):=⟨_,_,k1⟩;have K2:=Qh k2;clear k1 k2 k3 hown hgrow hat HOX HQ HG HD HBW HB4;go_wp2
  go_roundw
  case rel=>exact⟨j+1,cap5,_,by omega,by go_num,rfl,K1,K2⟩
  case measure=>simp[intOf];omega
 ·obtain rfl:j=n:=by omega
  go_wp2;refine bodyPost_ret (v:= .slice A' j c') (by simp[results,results181,go_sem]) rfl ?_
  obtain⟨css,F',hox'⟩:=hox.out;rw[List.take_of_length_le (by have:=HLN.out;omega)] at hox'
  exact jV.uk hox' hob.out
theorem kP (A:Option Addr) (n cap:Nat) (xs:List Mx) (F:List Nat) (w:World) (hx:RI mxE w A n cap xs F) (bn:n<=1048576) (bs:∀ x,x∈xs->mS x) :
  Calls prog 223 #[.slice A n cap] w (jV mxE xs w):=by
 obtain⟨i0,hi,hz0,hz1,hz2⟩:=info_parts rI;have HLN:=Qh hx.1;have HX:=Qh hx;have HS:=Qh bs;clear hx bs;have H0:Hid (∃ css F',OX mxE (w.alloc (.cells #[] 37)) w.heap.size 37 (some ⟨w.heap.size,0,none⟩) 0 0 css (xs.take 0) F'):=⟨_,_,OX.kG w Ql _⟩;have B0:Hid (Below w.heap.size w (w.alloc (.cells #[] 37))):=Qb.alloc Ql _
 go_enter func223,ntmps223
 go_wp2
 go_loopw [3,4] (fun v i wr=>∃ (j c':Nat) (A':Option Addr),j<=n/\i= .int .i64 j/\v= .slice A' j c'/\Hid (∃ css F',OX mxE wr w.heap.size 37 A' j c' css (xs.take j) F')/\Hid (Below w.heap.size w wr)) (fun _ i _=>n-(intOf i).toNat)
 case atStart=>exact⟨0,0,_,Nat.zero_le _,rfl,rfl,H0,B0⟩
 case round =>
 obtain⟨j,c',A',hj,rfl,rfl,hox,hob⟩:=hrel
 by_cases hlt:j<n
 ·obtain⟨x,hxj,hmem⟩:=aH (xs:=xs) (j:=j) (by have:=HLN.out;omega)
  have HXJ:=Qh hxj;have hsx:=HS.out x hmem;have hwr:w.heap.size<=wr.heap.size:=hob.out.size;obtain⟨b,off,cs,F1,rfl,hbl,hc,_,hP⟩:=(HX.out.below hob.out).cells hxj 3 rfl;have HP:=Qh hP;obtain⟨Aa,ca,rfl,hm1⟩:=hP;have d0:wr.cell? ⟨b,off+j*3,none⟩=some (.int .i64 x.r):=hc 0 (by omega)
  have d1:wr.cell? ⟨b,off+j*3+1,none⟩=some (.int .i64 x.c):=hc 1 (by omega)
  have d2:wr.cell? ⟨b,off+j*3+2,none⟩=some (.slice Aa x.v.length ca):=hc 2 (by omega)
  have i0':(0:Int)<=(j:Int):=by omega
  have i1:(j:Int)<(n:Int):=by omega
  clear hc hxj hmem
  go_wp2_with fail
  refine(BZ wr _ x _ HP.out hsx).mono ?_;rintro e w4 ⟨ds,G,rfl,hQ,hG,hb4⟩;have HQ:=Qh hQ;obtain⟨Ba,da,rfl,hm1⟩:=hQ;have HG:=Qh hG;have HB4:=Qh hb4;have h4:wr.heap.size<=w4.heap.size:=hb4.size;obtain⟨css,F',hox'⟩:=hox.out;have HOX:=Qh (hox'.below hb4);have HD:Hid (∀ g,g∈G->g∉F'/\blk A'≠some g):=fun g hg=>⟨fun h=>by have:=hox'.lt g h;have:=(HG.out.2 g hg).1;omega,fun h=>by have:=(hox'.aj g h).2;have:=(HG.out.2 g hg).1;omega⟩
  have HBW:Hid (Below w.heap.size w w4):=hob.out.trans (hb4.mono hwr);clear hox hox' hb4 hG hob
  go_wp2_with (at_builtin;refine wpList_append_lies _ rfl _ _ 69 rfl w.heap.size 37 i0 (.agg #[.int .i64 0,.int .i64 0,.slice none 0 0]) 3 40 underlying69 hi hz0 hz1 hz2 rfl (by decide) (.slice A' j c') j _ rfl (World.ownsRow.alloc HOX.out.1 _) ⟨w4.heap.size,0,none⟩ 1 1 [.int .i64 x.r,.int .i64 x.c,.slice Ba x.v.length da] rfl rfl ?c1 ?c2 ?c3 ?c4 ?c5 ?c6 (w4.heap.size+1) ?c7 ?_)
  case c1 =>
   exact dz w4 _ _
  case c2=>intro u hu;simp at hu;rcases hu with rfl|rfl|rfl <;> rfl
  case c3=>omega
  case c4=>unfold maxLen;omega
  case c5=>omega
  case c6=>simp;omega
  case c7=>simp
  intro g cap5 w5 hown hgrow hat hlt5;obtain⟨k1,k2,k3⟩:=OX.push HOX.out HQ.out (HG.out.mono hwr) HD.out HBW.out Ql (by omega) hown hgrow hat
  rw[<-aW HXJ.out] at k1;have K1:Hid (∃ css F',OX mxE w5 w.heap.size 37 (some ⟨g,0,none⟩) (j+1) cap5 css (xs.take (j+1)) F'):=⟨_,_,k1⟩;have K2:=Qh k2;clear k1 k2 k3 hown hgrow hat HOX HQ HG HD HBW HB4;go_wp2
  go_roundw
  case rel=>exact⟨j+1,cap5,_,by omega,by go_num,rfl,K1,K2⟩
  case measure=>simp[intOf];omega
 ·obtain rfl:j=n:=by omega
  go_wp2;refine bodyPost_ret (v:= .slice A' j c') (by simp[results,results223,go_sem]) rfl ?_
  obtain⟨css,F',hox'⟩:=hox.out;rw[List.take_of_length_le (by have:=HLN.out;omega)] at hox'
  exact jV.uk hox' hob.out
theorem jQ (W:World) (cs:List Value) (x:(Int×List (Mx×Mx))) (F:List Nat) (h:(kE smE).P W cs x F) (b:(kS smS) x) :
  Calls prog 131 #[.agg cs.toArray] W (sP (kE smE) x W):=by
 obtain⟨A,c,rfl,h1⟩:=h;have HX:=Qh h1;have HS:=Qh b;clear h1 b
 go_enter func131,ntmps131
 go_wp2_with fail
 obtain⟨u1,hu1⟩:∃ u,u=(((W.alloc (.cells #[.int .i64 x.1,.slice A x.2.length c] 99)).alloc (.cells #[.int .i64 0,.slice none 0 0] 99)).alloc (.cells #[.int .i64 x.1,.slice A x.2.length c] 99)):=⟨_,rfl⟩;rw[<-hu1];have hzu1:u1.heap.size<=W.heap.size+3:=by rw[hu1];simp
 have hyu1:W.heap.size+3<=u1.heap.size:=by rw[hu1];simp
 have B1_1:Blk u1 (W.heap.size) 99 #[.int .i64 x.1,.slice A x.2.length c]:=by rw[hu1];have h:=(((Blk.new W 99 #[.int .i64 x.1,.slice A x.2.length c]).alloc (.cells #[.int .i64 0,.slice none 0 0] 99)).alloc (.cells #[.int .i64 x.1,.slice A x.2.length c] 99));simpa using h
 have xb1:W.heap.size<=W.heap.size:=by omega
 have B1_2:Blk u1 (W.heap.size+1) 99 #[.int .i64 0,.slice none 0 0]:=by rw[hu1];have h:=((Blk.new (W.alloc (.cells #[.int .i64 x.1,.slice A x.2.length c] 99)) 99 #[.int .i64 0,.slice none 0 0]).alloc (.cells #[.int .i64 x.1,.slice A x.2.length c] 99));simpa using h
 have xb2:W.heap.size<=W.heap.size+1:=by omega
 have B1_3:Blk u1 (W.heap.size+2) 99 #[.int .i64 x.1,.slice A x.2.length c]:=by rw[hu1];have h:=(Blk.new ((W.alloc (.cells #[.int .i64 x.1,.slice A x.2.length c] 99)).alloc (.cells #[.int .i64 0,.slice none 0 0] 99)) 99 #[.int .i64 x.1,.slice A x.2.length c]);simpa using h
 have xb3:W.heap.size<=W.heap.size+2:=by omega
 have O1:Below W.heap.size W u1:=by rw[hu1];exact((((Below.refl W.heap.size W).alloc (by first|omega|(simp;done)|(simp;omega)) _).alloc (by first|omega|(simp;done)|(simp;omega)) _).alloc (by first|omega|(simp;done)|(simp;omega)) _)
 have m1:W.heap.size<=u1.heap.size:=by omega
 clear hu1;refine(ef A _ c x.2 F u1 (HX.out.below O1) HS.out.1 HS.out.2).mono ?_;rintro e w2 ⟨A',c',F',rfl,hri,hfr,hb⟩;have B2_1:=(B1_1.aa hb);have B2_2:=(B1_2.aa hb);have B2_3:=(B1_3.aa hb);have O2:=O1.trans (hb.mono (by omega))
 have m2:W.heap.size<=w2.heap.size:=by have:=hb.size;omega
 have HR:=Qh hri;have HF:=Qh (hfr.mono (base':=u1.heap.size) (by omega))
 have HFU:Hid (∀ g,g∈F'->u1.heap.size<=g):=fun g hg=>(HF.out.2 g hg).1
 have ub3:W.heap.size+2<u1.heap.size:=by have:=B1_3.lt;omega
 have ub2:W.heap.size+1<u1.heap.size:=by have:=B1_2.lt;omega
 clear B1_1 B1_2 B1_3 O1 hb hri hfr;have z2_1:W.heap.size<w2.heap.size:=B2_1.lt;have c2_1_0:w2.cell? ⟨W.heap.size,0,none⟩=some (.int .i64 x.1):=B2_1.cell 0;have f2_1_0:w2.frozen? ⟨W.heap.size,0,none⟩=false:=B2_1.frozen 0;have c2_1_1:w2.cell? ⟨W.heap.size,1,none⟩=some (.slice A x.2.length c):=B2_1.cell 1;have f2_1_1:w2.frozen? ⟨W.heap.size,1,none⟩=false:=B2_1.frozen 1;have z2_2:W.heap.size+1<w2.heap.size:=B2_2.lt;have c2_2_0:w2.cell? ⟨W.heap.size+1,0,none⟩=some (.int .i64 0):=B2_2.cell 0;have f2_2_0:w2.frozen? ⟨W.heap.size+1,0,none⟩=false:=B2_2.frozen 0;have c2_2_1:w2.cell? ⟨W.heap.size+1,1,none⟩=some (.slice none 0 0):=B2_2.cell 1;have f2_2_1:w2.frozen? ⟨W.heap.size+1,1,none⟩=false:=B2_2.frozen 1;have z2_3:W.heap.size+2<w2.heap.size:=B2_3.lt;have c2_3_0:w2.cell? ⟨W.heap.size+2,0,none⟩=some (.int .i64 x.1):=B2_3.cell 0;have f2_3_0:w2.frozen? ⟨W.heap.size+2,0,none⟩=false:=B2_3.frozen 0;have c2_3_1:w2.cell? ⟨W.heap.size+2,1,none⟩=some (.slice A x.2.length c):=B2_3.cell 1;have f2_3_1:w2.frozen? ⟨W.heap.size+2,1,none⟩=false:=B2_3.frozen 1;have HK:Hid (∀ g,g∈F'->(((w2.setCell ⟨W.heap.size+2,1,none⟩ (.slice A' x.2.length c')).setCell ⟨W.heap.size+1,0,none⟩ (.int .i64 x.1)).setCell ⟨W.heap.size+1,1,none⟩ (.slice A' x.2.length c')).heap[g]?=w2.heap[g]?):=fun g hg=>by
  have hg:=HFU.out g hg
  exact(Below.heap_setCell _ _ _ g (by dsimp only;omega)).trans ((Below.heap_setCell _ _ _ g (by dsimp only;omega)).trans (Below.heap_setCell _ _ _ g (by dsimp only;omega)))
 go_wp2
 exact bodyPost_ret (v:= .agg #[.int .i64 x.1,.slice A' x.2.length c']) (by simp[results,results131,go_sem,z2_1,c2_1_0,f2_1_0,c2_1_1,f2_1_1,z2_2,c2_2_0,f2_2_0,c2_2_1,f2_2_1,z2_3,c2_3_0,f2_3_0,c2_3_1,f2_3_1,(by omega:¬W.heap.size=W.heap.size+1),(by omega:¬W.heap.size+1=W.heap.size),(by omega:¬W.heap.size=W.heap.size+2),(by omega:¬W.heap.size+2=W.heap.size),(by omega:¬W.heap.size+1=W.heap.size+2),(by omega:¬W.heap.size+2=W.heap.size+1)]) rfl ⟨[.int .i64 x.1,.slice A' x.2.length c'],F',rfl,⟨A',c',rfl,HR.out.au HK.out⟩,(HF.out.mono (by omega)).au HK.out,(((O2.setCell (by dsimp only;omega) _).setCell (by dsimp only;omega) _).setCell (by dsimp only;omega) _)⟩
theorem qD (W:World) (cs:List Value) (x:(Int×List Mx)) (F:List Nat) (h:(kE mxE).P W cs x F) (b:(kS mS) x) :
  Calls prog 182 #[.agg cs.toArray] W (sP (kE mxE) x W):=by
 obtain⟨A,c,rfl,h1⟩:=h;have HX:=Qh h1;have HS:=Qh b;clear h1 b
 go_enter func182,ntmps182
 go_wp2_with fail
 obtain⟨u1,hu1⟩:∃ u,u=(((W.alloc (.cells #[.int .i64 x.1,.slice A x.2.length c] 80)).alloc (.cells #[.int .i64 0,.slice none 0 0] 80)).alloc (.cells #[.int .i64 x.1,.slice A x.2.length c] 80)):=⟨_,rfl⟩;rw[<-hu1];have hzu1:u1.heap.size<=W.heap.size+3:=by rw[hu1];simp
 have hyu1:W.heap.size+3<=u1.heap.size:=by rw[hu1];simp
 have B1_1:Blk u1 (W.heap.size) 80 #[.int .i64 x.1,.slice A x.2.length c]:=by rw[hu1];have h:=(((Blk.new W 80 #[.int .i64 x.1,.slice A x.2.length c]).alloc (.cells #[.int .i64 0,.slice none 0 0] 80)).alloc (.cells #[.int .i64 x.1,.slice A x.2.length c] 80));simpa using h
 have xb1:W.heap.size<=W.heap.size:=by omega
 have B1_2:Blk u1 (W.heap.size+1) 80 #[.int .i64 0,.slice none 0 0]:=by rw[hu1];have h:=((Blk.new (W.alloc (.cells #[.int .i64 x.1,.slice A x.2.length c] 80)) 80 #[.int .i64 0,.slice none 0 0]).alloc (.cells #[.int .i64 x.1,.slice A x.2.length c] 80));simpa using h
 have xb2:W.heap.size<=W.heap.size+1:=by omega
 have B1_3:Blk u1 (W.heap.size+2) 80 #[.int .i64 x.1,.slice A x.2.length c]:=by rw[hu1];have h:=(Blk.new ((W.alloc (.cells #[.int .i64 x.1,.slice A x.2.length c] 80)).alloc (.cells #[.int .i64 0,.slice none 0 0] 80)) 80 #[.int .i64 x.1,.slice A x.2.length c]);simpa using h
 have xb3:W.heap.size<=W.heap.size+2:=by omega
 have O1:Below W.heap.size W u1:=by rw[hu1];exact((((Below.refl W.heap.size W).alloc (by first|omega|(simp;done)|(simp;omega)) _).alloc (by first|omega|(simp;done)|(simp;omega)) _).alloc (by first|omega|(simp;done)|(simp;omega)) _)
 have m1:W.heap.size<=u1.heap.size:=by omega
 clear hu1;refine(kP A _ c x.2 F u1 (HX.out.below O1) HS.out.1 HS.out.2).mono ?_;rintro e w2 ⟨A',c',F',rfl,hri,hfr,hb⟩;have B2_1:=(B1_1.aa hb);have B2_2:=(B1_2.aa hb);have B2_3:=(B1_3.aa hb);have O2:=O1.trans (hb.mono (by omega))
 have m2:W.heap.size<=w2.heap.size:=by have:=hb.size;omega
 have HR:=Qh hri;have HF:=Qh (hfr.mono (base':=u1.heap.size) (by omega))
 have HFU:Hid (∀ g,g∈F'->u1.heap.size<=g):=fun g hg=>(HF.out.2 g hg).1
 have ub3:W.heap.size+2<u1.heap.size:=by have:=B1_3.lt;omega
 have ub2:W.heap.size+1<u1.heap.size:=by have:=B1_2.lt;omega
 clear B1_1 B1_2 B1_3 O1 hb hri hfr;have z2_1:W.heap.size<w2.heap.size:=B2_1.lt;have c2_1_0:w2.cell? ⟨W.heap.size,0,none⟩=some (.int .i64 x.1):=B2_1.cell 0;have f2_1_0:w2.frozen? ⟨W.heap.size,0,none⟩=false:=B2_1.frozen 0;have c2_1_1:w2.cell? ⟨W.heap.size,1,none⟩=some (.slice A x.2.length c):=B2_1.cell 1;have f2_1_1:w2.frozen? ⟨W.heap.size,1,none⟩=false:=B2_1.frozen 1;have z2_2:W.heap.size+1<w2.heap.size:=B2_2.lt;have c2_2_0:w2.cell? ⟨W.heap.size+1,0,none⟩=some (.int .i64 0):=B2_2.cell 0;have f2_2_0:w2.frozen? ⟨W.heap.size+1,0,none⟩=false:=B2_2.frozen 0;have c2_2_1:w2.cell? ⟨W.heap.size+1,1,none⟩=some (.slice none 0 0):=B2_2.cell 1;have f2_2_1:w2.frozen? ⟨W.heap.size+1,1,none⟩=false:=B2_2.frozen 1;have z2_3:W.heap.size+2<w2.heap.size:=B2_3.lt;have c2_3_0:w2.cell? ⟨W.heap.size+2,0,none⟩=some (.int .i64 x.1):=B2_3.cell 0;have f2_3_0:w2.frozen? ⟨W.heap.size+2,0,none⟩=false:=B2_3.frozen 0;have c2_3_1:w2.cell? ⟨W.heap.size+2,1,none⟩=some (.slice A x.2.length c):=B2_3.cell 1;have f2_3_1:w2.frozen? ⟨W.heap.size+2,1,none⟩=false:=B2_3.frozen 1;have HK:Hid (∀ g,g∈F'->(((w2.setCell ⟨W.heap.size+2,1,none⟩ (.slice A' x.2.length c')).setCell ⟨W.heap.size+1,0,none⟩ (.int .i64 x.1)).setCell ⟨W.heap.size+1,1,none⟩ (.slice A' x.2.length c')).heap[g]?=w2.heap[g]?):=fun g hg=>by
  have hg:=HFU.out g hg
  exact(Below.heap_setCell _ _ _ g (by dsimp only;omega)).trans ((Below.heap_setCell _ _ _ g (by dsimp only;omega)).trans (Below.heap_setCell _ _ _ g (by dsimp only;omega)))
 go_wp2
 exact bodyPost_ret (v:= .agg #[.int .i64 x.1,.slice A' x.2.length c']) (by simp[results,results182,go_sem,z2_1,c2_1_0,f2_1_0,c2_1_1,f2_1_1,z2_2,c2_2_0,f2_2_0,c2_2_1,f2_2_1,z2_3,c2_3_0,f2_3_0,c2_3_1,f2_3_1,(by omega:¬W.heap.size=W.heap.size+1),(by omega:¬W.heap.size+1=W.heap.size),(by omega:¬W.heap.size=W.heap.size+2),(by omega:¬W.heap.size+2=W.heap.size),(by omega:¬W.heap.size+1=W.heap.size+2),(by omega:¬W.heap.size+2=W.heap.size+1)]) rfl ⟨[.int .i64 x.1,.slice A' x.2.length c'],F',rfl,⟨A',c',rfl,HR.out.au HK.out⟩,(HF.out.mono (by omega)).au HK.out,(((O2.setCell (by dsimp only;omega) _).setCell (by dsimp only;omega) _).setCell (by dsimp only;omega) _)⟩
theorem bW (A:Option Addr) (n cap:Nat) (xs:List (Int×List (Mx×Mx))) (F:List Nat) (w:World) (hx:RI (kE smE) w A n cap xs F) (bn:n<=1048576) (bs:∀ x,x∈xs->(kS smS) x) :
  Calls prog 85 #[.slice A n cap] w (jV (kE smE) xs w):=by
 obtain⟨i0,hi,hz0,hz1,hz2⟩:=info_parts nJ;have HLN:=Qh hx.1;have HX:=Qh hx;have HS:=Qh bs;clear hx bs;have H0:Hid (∃ css F',OX (kE smE) (w.alloc (.cells #[] 99)) w.heap.size 99 (some ⟨w.heap.size,0,none⟩) 0 0 css (xs.take 0) F'):=⟨_,_,OX.kG w Ql _⟩;have B0:Hid (Below w.heap.size w (w.alloc (.cells #[] 99))):=Qb.alloc Ql _
 go_enter func85,ntmps85
 go_wp2
 go_loopw [3,4] (fun v i wr=>∃ (j c':Nat) (A':Option Addr),j<=n/\i= .int .i64 j/\v= .slice A' j c'/\Hid (∃ css F',OX (kE smE) wr w.heap.size 99 A' j c' css (xs.take j) F')/\Hid (Below w.heap.size w wr)) (fun _ i _=>n-(intOf i).toNat)
 case atStart=>exact⟨0,0,_,Nat.zero_le _,rfl,rfl,H0,B0⟩
 case round =>
 obtain⟨j,c',A',hj,rfl,rfl,hox,hob⟩:=hrel
 by_cases hlt:j<n
 ·obtain⟨x,hxj,hmem⟩:=aH (xs:=xs) (j:=j) (by have:=HLN.out;omega)
  have HXJ:=Qh hxj;have hsx:=HS.out x hmem;have hwr:w.heap.size<=wr.heap.size:=hob.out.size;obtain⟨b,off,cs,F1,rfl,hbl,hc,_,hP⟩:=(HX.out.below hob.out).cells hxj 2 rfl;have HP:=Qh hP;obtain⟨Aa,ca,rfl,hm1⟩:=hP;have d0:wr.cell? ⟨b,off+j*2,none⟩=some (.int .i64 x.1):=hc 0 (by omega)
  have d1:wr.cell? ⟨b,off+j*2+1,none⟩=some (.slice Aa x.2.length ca):=hc 1 (by omega)
  have i0':(0:Int)<=(j:Int):=by omega
  have i1:(j:Int)<(n:Int):=by omega
  clear hc hxj hmem
  go_wp2_with fail
  refine(jQ wr _ x _ HP.out hsx).mono ?_;rintro e w4 ⟨ds,G,rfl,hQ,hG,hb4⟩;have HQ:=Qh hQ;obtain⟨Ba,da,rfl,hm1⟩:=hQ;have HG:=Qh hG;have HB4:=Qh hb4;have h4:wr.heap.size<=w4.heap.size:=hb4.size;obtain⟨css,F',hox'⟩:=hox.out;have HOX:=Qh (hox'.below hb4);have HD:Hid (∀ g,g∈G->g∉F'/\blk A'≠some g):=fun g hg=>⟨fun h=>by have:=hox'.lt g h;have:=(HG.out.2 g hg).1;omega,fun h=>by have:=(hox'.aj g h).2;have:=(HG.out.2 g hg).1;omega⟩
  have HBW:Hid (Below w.heap.size w w4):=hob.out.trans (hb4.mono hwr);clear hox hox' hb4 hG hob
  go_wp2_with (at_builtin;refine wpList_append_lies _ rfl _ _ 23 rfl w.heap.size 99 i0 (.agg #[.int .i64 0,.slice none 0 0]) 2 32 underlying23 hi hz0 hz1 hz2 rfl (by decide) (.slice A' j c') j _ rfl (World.ownsRow.alloc HOX.out.1 _) ⟨w4.heap.size,0,none⟩ 1 1 [.int .i64 x.1,.slice Ba x.2.length da] rfl rfl ?c1 ?c2 ?c3 ?c4 ?c5 ?c6 (w4.heap.size+1) ?c7 ?_)
  case c1 =>
   exact dz w4 _ _
  case c2=>intro u hu;simp at hu;rcases hu with rfl|rfl <;> rfl
  case c3=>omega
  case c4=>unfold maxLen;omega
  case c5=>omega
  case c6=>simp;omega
  case c7=>simp
  intro g cap5 w5 hown hgrow hat hlt5;obtain⟨k1,k2,k3⟩:=OX.push HOX.out HQ.out (HG.out.mono hwr) HD.out HBW.out Ql (by omega) hown hgrow hat
  rw[<-aW HXJ.out] at k1;have K1:Hid (∃ css F',OX (kE smE) w5 w.heap.size 99 (some ⟨g,0,none⟩) (j+1) cap5 css (xs.take (j+1)) F'):=⟨_,_,k1⟩;have K2:=Qh k2;clear k1 k2 k3 hown hgrow hat HOX HQ HG HD HBW HB4;go_wp2
  go_roundw
  case rel=>exact⟨j+1,cap5,_,by omega,by go_num,rfl,K1,K2⟩
  case measure=>simp[intOf];omega
 ·obtain rfl:j=n:=by omega
  go_wp2;refine bodyPost_ret (v:= .slice A' j c') (by simp[results,results85,go_sem]) rfl ?_
  obtain⟨css,F',hox'⟩:=hox.out;rw[List.take_of_length_le (by have:=HLN.out;omega)] at hox'
  exact jV.uk hox' hob.out
theorem lN (A:Option Addr) (n cap:Nat) (xs:List (Int×List Mx)) (F:List Nat) (w:World) (hx:RI (kE mxE) w A n cap xs F) (bn:n<=1048576) (bs:∀ x,x∈xs->(kS mS) x) :
  Calls prog 135 #[.slice A n cap] w (jV (kE mxE) xs w):=by
 obtain⟨i0,hi,hz0,hz1,hz2⟩:=info_parts we;have HLN:=Qh hx.1;have HX:=Qh hx;have HS:=Qh bs;clear hx bs;have H0:Hid (∃ css F',OX (kE mxE) (w.alloc (.cells #[] 80)) w.heap.size 80 (some ⟨w.heap.size,0,none⟩) 0 0 css (xs.take 0) F'):=⟨_,_,OX.kG w Ql _⟩;have B0:Hid (Below w.heap.size w (w.alloc (.cells #[] 80))):=Qb.alloc Ql _
 go_enter func135,ntmps135
 go_wp2
 go_loopw [3,4] (fun v i wr=>∃ (j c':Nat) (A':Option Addr),j<=n/\i= .int .i64 j/\v= .slice A' j c'/\Hid (∃ css F',OX (kE mxE) wr w.heap.size 80 A' j c' css (xs.take j) F')/\Hid (Below w.heap.size w wr)) (fun _ i _=>n-(intOf i).toNat)
 case atStart=>exact⟨0,0,_,Nat.zero_le _,rfl,rfl,H0,B0⟩
 case round =>
 obtain⟨j,c',A',hj,rfl,rfl,hox,hob⟩:=hrel
 by_cases hlt:j<n
 ·obtain⟨x,hxj,hmem⟩:=aH (xs:=xs) (j:=j) (by have:=HLN.out;omega)
  have HXJ:=Qh hxj;have hsx:=HS.out x hmem;have hwr:w.heap.size<=wr.heap.size:=hob.out.size;obtain⟨b,off,cs,F1,rfl,hbl,hc,_,hP⟩:=(HX.out.below hob.out).cells hxj 2 rfl;have HP:=Qh hP;obtain⟨Aa,ca,rfl,hm1⟩:=hP;have d0:wr.cell? ⟨b,off+j*2,none⟩=some (.int .i64 x.1):=hc 0 (by omega)
  have d1:wr.cell? ⟨b,off+j*2+1,none⟩=some (.slice Aa x.2.length ca):=hc 1 (by omega)
  have i0':(0:Int)<=(j:Int):=by omega
  have i1:(j:Int)<(n:Int):=by omega
  clear hc hxj hmem
  go_wp2_with fail
  refine(qD wr _ x _ HP.out hsx).mono ?_;rintro e w4 ⟨ds,G,rfl,hQ,hG,hb4⟩;have HQ:=Qh hQ;obtain⟨Ba,da,rfl,hm1⟩:=hQ;have HG:=Qh hG;have HB4:=Qh hb4;have h4:wr.heap.size<=w4.heap.size:=hb4.size;obtain⟨css,F',hox'⟩:=hox.out;have HOX:=Qh (hox'.below hb4);have HD:Hid (∀ g,g∈G->g∉F'/\blk A'≠some g):=fun g hg=>⟨fun h=>by have:=hox'.lt g h;have:=(HG.out.2 g hg).1;omega,fun h=>by have:=(hox'.aj g h).2;have:=(HG.out.2 g hg).1;omega⟩
  have HBW:Hid (Below w.heap.size w w4):=hob.out.trans (hb4.mono hwr);clear hox hox' hb4 hG hob
  go_wp2_with (at_builtin;refine wpList_append_lies _ rfl _ _ 32 rfl w.heap.size 80 i0 (.agg #[.int .i64 0,.slice none 0 0]) 2 32 underlying32 hi hz0 hz1 hz2 rfl (by decide) (.slice A' j c') j _ rfl (World.ownsRow.alloc HOX.out.1 _) ⟨w4.heap.size,0,none⟩ 1 1 [.int .i64 x.1,.slice Ba x.2.length da] rfl rfl ?c1 ?c2 ?c3 ?c4 ?c5 ?c6 (w4.heap.size+1) ?c7 ?_)
  case c1 =>
   exact dz w4 _ _
  case c2=>intro u hu;simp at hu;rcases hu with rfl|rfl <;> rfl
  case c3=>omega
  case c4=>unfold maxLen;omega
  case c5=>omega
  case c6=>simp;omega
  case c7=>simp
  intro g cap5 w5 hown hgrow hat hlt5;obtain⟨k1,k2,k3⟩:=OX.push HOX.out HQ.out (HG.out.mono hwr) HD.out HBW.out Ql (by omega) hown hgrow hat
  rw[<-aW HXJ.out] at k1;have K1:Hid (∃ css F',OX (kE mxE) w5 w.heap.size 80 (some ⟨g,0,none⟩) (j+1) cap5 css (xs.take (j+1)) F'):=⟨_,_,k1⟩;have K2:=Qh k2;clear k1 k2 k3 hown hgrow hat HOX HQ HG HD HBW HB4;go_wp2
  go_roundw
  case rel=>exact⟨j+1,cap5,_,by omega,by go_num,rfl,K1,K2⟩
  case measure=>simp[intOf];omega
 ·obtain rfl:j=n:=by omega
  go_wp2;refine bodyPost_ret (v:= .slice A' j c') (by simp[results,results135,go_sem]) rfl ?_
  obtain⟨css,F',hox'⟩:=hox.out;rw[List.take_of_length_le (by have:=HLN.out;omega)] at hox'
  exact jV.uk hox' hob.out
theorem eT (r1 c1 r2 c2:Int) (v1 v2:List Int) (A1 A2:Option Addr) (n1 p1 n2 p2:Nat) (w:World) (hx0:SI w A1 n1 v1) (hy0:SI w A2 n2 v2) (bn:n1<=1048576) (bm:n2<=1048576) :
  Calls prog 104 #[MV r1 c1 A1 n1 p1,MV r2 c2 A2 n2 p2] w (bD (aE aJ ⟨r1,c1,v1⟩ ⟨r2,c2,v2⟩) w):=by
 have HX:=Qh hx0;have HY:=Qh hy0;clear hx0 hy0;obtain⟨m,hm⟩:∃ m,m=aE aJ ⟨r1,c1,v1⟩ ⟨r2,c2,v2⟩:=⟨_,rfl⟩;rw[<-hm];have HC:Hid (∀ W:World,SI W A1 n1 v1->SI W A2 n2 v2->Calls prog 145 #[MV r1 c1 A1 n1 p1,MV r2 c2 A2 n2 p2,.func (.func 146) #[] #[]] W (bD m W)):=by rw[hm];exact fun W h1 h2=>CV r1 c1 r2 c2 v1 v2 A1 A2 n1 p1 n2 p2 W h1 h2 bn bm
 clear hm;refine zE ?_;intro u1 H;refine zO (HC.out u1 (SI.below HX.out H.O) (SI.below HY.out H.O)) ?_;clear H;intro w2 A c u2 H;refine zS_ ?_;clear H;intro u3 H
 exact⟨A,c,rfl,(H.o 0),H.O⟩
theorem j_ (r1 c1 r2 c2:Int) (v1 v2:List Int) (A1 A2:Option Addr) (n1 p1 n2 p2:Nat) (w:World) (hx0:SI w A1 n1 v1) (hy0:SI w A2 n2 v2) (bn:n1<=1048576) (bm:n2<=1048576) :
  Calls prog 55 #[SMV r1 c1 A1 n1 p1 r2 c2 A2 n2 p2] w (bD (aE aJ ⟨r1,c1,v1⟩ ⟨r2,c2,v2⟩) w):=by
 have HX:=Qh hx0;have HY:=Qh hy0;clear hx0 hy0;obtain⟨m,hm⟩:∃ m,m=aE aJ ⟨r1,c1,v1⟩ ⟨r2,c2,v2⟩:=⟨_,rfl⟩;rw[<-hm];have HC:Hid (∀ W:World,SI W A1 n1 v1->SI W A2 n2 v2->Calls prog 104 #[MV r1 c1 A1 n1 p1,MV r2 c2 A2 n2 p2] W (bD m W)):=by rw[hm];exact fun W h1 h2=>eT r1 c1 r2 c2 v1 v2 A1 A2 n1 p1 n2 p2 W h1 h2 bn bm
 clear hm;refine zE ?_;intro u1 H;refine zO (HC.out u1 (SI.below HX.out H.O) (SI.below HY.out H.O)) ?_;clear H;intro w2 A c u2 H;refine zS_ ?_;clear H;intro u3 H
 exact⟨A,c,rfl,(H.o 0),H.O⟩
theorem kL (r1 c1 r2 c2:Int) (v1 v2:List Int) (A1 A2:Option Addr) (n1 p1 n2 p2:Nat) (w:World) (hx0:SI w A1 n1 v1) (hy0:SI w A2 n2 v2) (bn:n1<=1048576) (bm:n2<=1048576) :
  Calls prog 48 #[SMV r1 c1 A1 n1 p1 r2 c2 A2 n2 p2] w (bD (aE aJ ⟨r1,c1,v1⟩ ⟨r2,c2,v2⟩) w):=by
 obtain rfl:v1.length=n1:=hx0.1;obtain rfl:v2.length=n2:=hy0.1;have HX:=Qh hx0;have HY:=Qh hy0;clear hx0 hy0;obtain⟨m,hm⟩:∃ m,m=aE aJ ⟨r1,c1,v1⟩ ⟨r2,c2,v2⟩:=⟨_,rfl⟩;rw[<-hm];have HC:Hid (∀ (Aa Ab:Option Addr) (ca cb:Nat) (W:World),SI W Aa v1.length v1->SI W Ab v2.length v2->Calls prog 99 #[MV r1 c1 Aa v1.length ca,MV r2 c2 Ab v2.length cb] W (bD m W)):=by rw[hm];exact fun Aa Ab ca cb W h1 h2=>jw r1 c1 r2 c2 v1 v2 Aa Ab _ ca _ cb W h1 h2 bn bm
 clear hm;refine zE ?_;intro u1 H;refine zG (dR r1 c1 r2 c2 v1 v2 A1 A2 _ p1 _ p2 u1 (SI.below HX.out H.O) (SI.below HY.out H.O) bn bm) ?_;rintro e w2 ⟨Aa,Ab,ca,cb,rfl,hosa,hosb,-,hb⟩;replace H:=H.oo hb hosa hosb
 dsimp only at H ⊢
 refine zN ?_;clear H;intro u3 H;refine zO (HC.out Aa Ab ca cb u3 (OS.si (Ow.P1 (H.p 0))) (OS.si (Ow.P2 (H.p 0)))) ?_;clear H;intro w4 A c u4 H;refine zS_ ?_;clear H;intro u5 H
 exact⟨A,c,rfl,(H.o 0),H.O⟩
section
def aq (p:Mx×Mx):Mx:=aE aJ p.1 p.2
def df (l:Int×List (Mx×Mx)):Int×List Mx:=(l.1,l.2.map aq)
def bu (net:List (Int×List (Mx×Mx))):Bool:=decide (net.length<=4) && net.all fun l=>aL l.1 (l.2.map aq)
def bh (net:List (Int×List (Mx×Mx))):List (Int×List Mx):=if bu net=true then net.map df else []
theorem pq (p:Mx×Mx):mS (aq p):=by
 unfold mS aq
 cases h:az p.1 p.2
 ·rw[ib h];simp[Mx.z]
 ·rw[fi h];have:=(bt h).2.2;simp only[aD]
  omega
theorem jJ {ps:List (Mx×Mx)}:∀ m,m∈ps.map aq->mS m:=fun m hm=>by
 obtain⟨p,_,rfl⟩:=List.mem_map.1 hm
 exact pq p
theorem wH {net:List (Int×List (Mx×Mx))} {k:Nat} {l:Int×List (Mx×Mx)} (hk:net[k]?=some l) (h:aL l.1 (l.2.map aq)=false):bu net=false:=by
 unfold bu;have:(net.all fun l=>aL l.1 (l.2.map aq))=false:=List.all_eq_false.2 ⟨l,List.mem_of_getElem? hk,by rw[h];decide⟩
 rw[this,Bool.and_false]
theorem Eo {net:List (Int×List (Mx×Mx))} (h:4<net.length):bu net=false:=by
 unfold bu;rw[decide_eq_false (by omega),Bool.false_and]
theorem uj {net:List (Int×List (Mx×Mx))} (hl:net.length<=4) (h:∀ k l,k<net.length->net[k]?=some l->aL l.1 (l.2.map aq)=true):bu net=true:=by
 unfold bu;rw[decide_eq_true hl,Bool.true_and];refine List.all_eq_true.2 fun l hm=>?_
 obtain⟨k,hk⟩:=List.getElem?_of_mem hm
 exact h k l (List.getElem?_eq_some_iff.1 hk).1 hk
theorem rL {net:List (Int×List (Mx×Mx))} (h:bu net=false):bh net=[]:=by unfold bh;rw[h];rfl
theorem eL {net:List (Int×List (Mx×Mx))} (h:bu net=true):bh net=net.map df:=by unfold bh;rw[h];rfl
theorem jb {α β:Type} {f:α->β} {xs:List α} {j:Nat} {x:α} (h:xs[j]?=some x):(xs.map f)[j]?=some (f x):=by rw[List.getElem?_map,h];rfl
def JN (net:List (Int×List (Mx×Mx))) (w:World) (e:Ending) (w':World):Prop:=∃ A n c F,e= .returned (.tuple #[.slice A n c,.bool (bu net)])/\RI (kE mxE) w' A n c (bh net) F/\Fr w' w.heap.size F/\Below w.heap.size w w'
theorem JN.no {net:List (Int×List (Mx×Mx))} {w w':World} {A:Option Addr} (h:bu net=false) (hb:Below w.heap.size w w'):JN net w (.returned (.tuple #[.slice A 0 0,.bool (bu net)])) w' :=
 ⟨A,0,0,[],rfl,by rw[rL h];exact RI.nil w' A (by unfold maxLen;omega),Fr.nil _ _,hb⟩
def JI (wo:World) (kd:Int) (ps:List (Mx×Mx)) (wi:World) (j:Nat) (A:Option Addr) (c:Nat):Prop :=
 Blk wi wo.heap.size 80 #[.int .i64 kd,.slice A j c]/\(∃ css F,OX mxE wi (wo.heap.size+1) 37 A j c css ((ps.map aq).take j) F)/\Below wo.heap.size wo wi
def JA (wo:World) (kd:Int) (ps:List (Mx×Mx)) (wi:World) (j:Nat) (A:Option Addr) (c g cap:Nat):Prop :=
 Blk wi wo.heap.size 80 #[.int .i64 kd,.slice A j c]/\(∃ css F,OX mxE wi (wo.heap.size+1) 37 (some ⟨g,0,none⟩) (j+1) cap css ((ps.map aq).take (j+1)) F)/\Below wo.heap.size wo wi
section
variable {wo wi wJ w1:World} {kd:Int} {ps:List (Mx×Mx)} {j c g cap cp:Nat} {A Ap:Option Addr} {p:Mx×Mx} {o:Obj} {css:List (List Value)} {F:List Nat}
theorem JI.start (wo:World) (kd:Int) (ps:List (Mx×Mx)):JI wo kd ps (wo.alloc (.cells #[.int .i64 kd,.slice none 0 0] 80)) 0 none 0 :=
 ⟨Blk.new _ _ _,⟨[],[],OX.nil _ _ _⟩,Qb.alloc Ql _⟩
theorem JI.below (h:JI wo kd ps wi j A c) (hb:Below wi.heap.size wi wJ):JI wo kd ps wJ j A c:=by
 obtain⟨h1,⟨css,F,h2⟩,h3⟩:=h
 exact⟨h1.aa hb,⟨css,F,h2.below hb⟩,h3.trans (hb.mono h3.size)⟩
theorem JI.app (h1:Blk wi wo.heap.size 80 #[.int .i64 kd,.slice A j c]) (hox:OX mxE wi (wo.heap.size+1) 37 A j c css ((ps.map aq).take j) F) (h3:Below wo.heap.size wo wi) (hb:Below wi.heap.size wi wJ)
  (hp:ps[j]?=some p) (hos:OS wJ wi.heap.size Ap (aq p).v.length cp (aq p).v)
  (hown:w1.ownsRow (wo.heap.size+1) 37 mxE.s (.slice (some ⟨g,0,none⟩) (j+1) cap) (j+1) (css.flatten++[.int .i64 (aq p).r,.int .i64 (aq p).c,.slice Ap (aq p).v.length cp]))
  (hg:(wJ.alloc o).grownBy w1 (Value.slice A j c).ownBlock) (hat:(Value.slice A j c).ownBlock=some g\/g=wJ.heap.size+1):JA wo kd ps w1 j A c g cap:=by
 have hwi:wo.heap.size<wi.heap.size:=h1.lt;have hsz:=hb.size;have hf:Fr wJ (wo.heap.size+1) (fpI Ap (aq p).v.length):=(ek hos).mono (by omega)
 have hd:∀ g',g'∈fpI Ap (aq p).v.length->g'∉F/\blk A≠some g':=fun g' hg'=>by
  have:=((ek hos).2 g' hg').1
  exact⟨fun h=>by have:=hox.lt g' h;omega,fun h=>by have:=(hox.aj g' h).2;omega⟩
 have h3':Below wo.heap.size wo wJ:=h3.trans (hb.mono (by omega))
 obtain⟨k1,k2,k3⟩:=OX.push (hox.below hb) (x:=aq p) ⟨Ap,cp,rfl,MF.aB hos⟩ hf hd h3' (by omega) (by omega) hown hg hat
 rw[<-aW (jb hp)] at k1
 exact⟨(h1.aa hb).bR k3 (hox.1.gu h1 (by decide)),⟨_,_,k1⟩,k2⟩
theorem JA.next (h:JA wo kd ps wi j A c g cap):JI wo kd ps (wi.setCell ⟨wo.heap.size,1,none⟩ (.slice (some ⟨g,0,none⟩) (j+1) cap)) (j+1) (some ⟨g,0,none⟩) cap:=by
 obtain⟨h1,⟨css,F,h2⟩,h3⟩:=h
 exact⟨h1.dc 1 _,⟨css,F,h2.lX (by dsimp only;omega) _⟩,h3.setCell (by dsimp only;omega) _⟩
end
end
section
attribute [local go_sem ↓] Go.wp_at_zero Go.wp_at_succ
theorem aZ.ofS {g:Nat} {A:Option Addr} {a b c:World} (h:aZ g a b) (k:bJ A b c) (hA:∀ g',blk A=some g'->a.heap.size<=g'):aZ g a c :=
 ⟨k.os.trans h.os,k.tape.trans h.tape,k.output.trans h.output,Nat.le_trans h.size k.size,fun i hi hne=>(k.block i (Nat.lt_of_lt_of_le hi h.size) (fun e=>by have:=hA i e.symm;omega)).trans (h.block i hi hne)⟩
def KI (wo:World) (base gj n:Nat) (kd:Int) (pre rest:List Value) (ps:List (Mx×Mx)) (wi:World) (j:Nat) (A:Option Addr) (c:Nat):Prop :=
 VO wi base 80 2 (some ⟨gj,0,none⟩) n n (pre++([.int .i64 kd] ++ .slice A j c::rest))/\(∃ css F,OX mxE wi wo.heap.size 37 A j c css ((ps.map aq).take j) F)/\aZ gj wo wi
def KA (wo:World) (base gj n:Nat) (kd:Int) (pre rest:List Value) (ps:List (Mx×Mx)) (wi:World) (j:Nat) (A:Option Addr) (c g cap:Nat):Prop :=
 VO wi base 80 2 (some ⟨gj,0,none⟩) n n (pre++([.int .i64 kd] ++ .slice A j c::rest))/\(∃ css F,OX mxE wi wo.heap.size 37 (some ⟨g,0,none⟩) (j+1) cap css ((ps.map aq).take (j+1)) F)/\aZ gj wo wi
section
variable {wo wi wJ w1:World} {kd:Int} {ps:List (Mx×Mx)} {j c g cap cp base gj n:Nat} {A Ap:Option Addr} {p:Mx×Mx} {o:Obj} {css:List (List Value)} {F:List Nat} {pre rest:List Value}
theorem KI.start {u:Value} (h:VO wo base 80 2 (some ⟨gj,0,none⟩) n n (pre++(u :: .slice none 0 0::rest))) (o:Obj) (hi:n+n=n*2) {i:Nat} (hpre:i=pre.length) :
  KI wo base gj n kd pre rest ps ((wo.setCell ⟨gj,i,none⟩ (.int .i64 kd)).alloc o) 0 none 0:=by
 refine⟨?_,⟨[],[],OX.nil _ _ _⟩,((aZ.refl gj wo).setCell (.inl rfl) _).alloc o⟩;have:=FX.put (E:=kE mxE) (a:=[]) (pre:=pre) (u:=u) (b:= .slice none 0 0::rest) h (j:=i) (by simp[hpre]) (.int .i64 kd)
 exact this.alloc o
theorem KI.app (hv:VO wi base 80 2 (some ⟨gj,0,none⟩) n n (pre++([.int .i64 kd] ++ .slice A j c::rest))) (hox:OX mxE wi wo.heap.size 37 A j c css ((ps.map aq).take j) F) (h3:aZ gj wo wi) (hgj:gj<wo.heap.size) (hb:Below wi.heap.size wi wJ)
  (hp:ps[j]?=some p) (hos:OS wJ wi.heap.size Ap (aq p).v.length cp (aq p).v)
  (hown:w1.ownsRow wo.heap.size 37 mxE.s (.slice (some ⟨g,0,none⟩) (j+1) cap) (j+1) (css.flatten++[.int .i64 (aq p).r,.int .i64 (aq p).c,.slice Ap (aq p).v.length cp]))
  (hg:(wJ.alloc o).grownBy w1 (Value.slice A j c).ownBlock) (hat:(Value.slice A j c).ownBlock=some g\/g=wJ.heap.size+1):KA wo base gj n kd pre rest ps w1 j A c g cap:=by
 have hwi:=h3.size;have hsz:=hb.size;have hf:Fr wJ wo.heap.size (fpI Ap (aq p).v.length):=(ek hos).mono (by omega)
 have hd:∀ g',g'∈fpI Ap (aq p).v.length->g'∉F/\blk A≠some g':=fun g' hg'=>by
  have:=((ek hos).2 g' hg').1
  exact⟨fun h=>by have:=hox.lt g' h;omega,fun h=>by have:=(hox.aj g' h).2;omega⟩
 obtain⟨k1,_,k3⟩:=OX.push (hox.below hb) (x:=aq p) ⟨Ap,cp,rfl,MF.aB hos⟩ hf hd (Below.refl wo.heap.size wJ) Ql (by omega) hown hg hat
 rw[<-aW (jb hp)] at k1;refine⟨(hv.below hb).bR k3 (fun g' hg' hA=>?_),⟨_,_,k1⟩,(h3.below hb).ofS k3 (fun g' hg'=>(hox.aj g' hg').1)⟩
 have e:gj=g':=by simpa [blk] using hg'
 have:=(hox.aj g' hA).1
 omega
theorem KA.next (h:KA wo base gj n kd pre rest ps wi j A c g cap) (hgj:gj<wo.heap.size) {i:Nat} (hi:i=pre.length+1):KI wo base gj n kd pre rest ps (wi.setCell ⟨gj,i,none⟩ (.slice (some ⟨g,0,none⟩) (j+1) cap)) (j+1) (some ⟨g,0,none⟩) cap:=by
 obtain⟨h1,⟨css,F,h2⟩,h3⟩:=h
 exact⟨FX.put (E:=kE mxE) h1 (by simpa using hi) _,⟨css,F,h2.lX (by dsimp only;omega) _⟩,h3.setCell (.inl rfl) _⟩
end
theorem FV (A:Option Addr) (n cap:Nat) (net:List (Int×List (Mx×Mx))) (F:List Nat) (w:World) (hx:RI (kE smE) w A n cap net F) (hs:gG (kS smS) net) :
  Calls prog 14 #[.slice A n cap] w (JN net w):=by
 obtain⟨i0,hi,hz0,hz1,hz2⟩:=info_parts rI;have HLN:=Qh hx.1;have HS:=Qh hs.2;have HX:=Qh hx;clear hx hs
 by_cases n4:4<n
 ·have HNO:Hid (bu net=false):=Eo (by rw[HLN.out];exact n4)
  have t4:(4:Int)<(n:Int):=by omega
  go_enter func14,ntmps14
  go_wp2
  go_ret2
  have:=JN.no (w':=w) (A:=none) HNO.out (Below.refl w.heap.size w);rw[HNO.out] at this
  exact this
 have t4:(n:Int)<=4:=by omega
 have hmk:=fun W:World=>CG n (by omega) W
 have H0:Hid (∃ css F',FX (kE mxE) (w.alloc (.cells (madeCells ZL (n*ZL.size)) 80)) w.heap.size 80 w.heap.size n css (List.replicate (n-0) ZL.toList).flatten ((net.map df).take 0) F'):=⟨_,_,FX.made w _ ZL (by decide) rfl n (by unfold maxLen;omega)⟩
 have B0:Hid (Below w.heap.size w (w.alloc (.cells (madeCells ZL (n*ZL.size)) 80))):=Qb.alloc Ql _;obtain⟨O,hO⟩:∃ O,O=(Obj.cells (madeCells ZL (n*ZL.size)) 80):=⟨_,rfl⟩;rw[<-hO] at H0 B0 hmk;clear hO
 go_enter func14,ntmps14
 go_wp2
 go_loopw [17] (fun i wr=>∃ k:Nat,k<=n/\i= .int .i64 k/\Hid (∃ css F',FX (kE mxE) wr w.heap.size 80 w.heap.size n css (List.replicate (n-k) ZL.toList).flatten ((net.map df).take k) F')/\Hid (Below w.heap.size w wr)/\Hid (∀ q l,q<k->net[q]?=some l->aL l.1 (l.2.map aq)=true)) (fun i _=>n-(intOf i).toNat)
 case atStart=>exact⟨0,Nat.zero_le _,rfl,H0,B0,fun q l hq=>absurd hq (by omega)⟩
 case round =>
 obtain⟨k,hk,rfl,hfx,hob,hval⟩:=hrel;clear H0 B0 hmk;obtain⟨wo,rfl⟩:∃ u:World,u=wr:=⟨_,rfl⟩
 by_cases hlt:k<n
 ·obtain⟨x,hxk,hmem⟩:=aH (xs:=net) (j:=k) (by have:=HLN.out;omega)
  have HXK:=Qh hxk;obtain⟨hsm,hsx⟩:=HS.out x hmem;have HSX:=Qh hsx;have hwo:w.heap.size<=wo.heap.size:=hob.out.size;obtain⟨b,off,cs,Fx,rfl,hbl,hc,_,Aw,cw,rfl,hrw⟩:=HX.out.cells hxk 2 rfl;obtain⟨m,hm⟩:∃ m,m=x.2.length:=⟨_,rfl⟩;rw[<-hm] at hc hrw hsm;have HM:=Qh hm;have d0:wo.cell? ⟨b,off+k*2,none⟩=some (.int .i64 x.1):=(hob.out.cell (p:=⟨b,off+k*2,none⟩) hbl).trans (hc 0 (by omega))
  have d1:wo.cell? ⟨b,off+k*2+1,none⟩=some (.slice Aw m cw):=(hob.out.cell (p:=⟨b,off+k*2+1,none⟩) hbl).trans (hc 1 (by omega))
  have HRW:=Qh hrw;have k0:(0:Int)<=(k:Int):=by omega
  have k1:(k:Int)<(n:Int):=by omega
  obtain⟨css,FO,hF⟩:=hfx.out;have hgl:w.heap.size<wo.heap.size:=hF.glt.2;have hnk:(List.replicate (n-k) ZL.toList).flatten= .int .i64 0 :: .slice none 0 0::(List.replicate (n-(k+1)) ZL.toList).flatten:=by
   rw[show n-k=(n-(k+1))+1 by omega,List.replicate_succ,List.flatten_cons]
   rfl
  rw[hnk] at hF;have hpl:css.flatten.length=k*2:=by
   rw[dS hF.2.1,List.length_take,List.length_map,HLN.out,Nat.min_eq_left (by omega)]
   rfl
  have HPL:=Qh hpl;have HFO:=Qh hF;obtain⟨pre,hpre⟩:∃ pre,pre=css.flatten:=⟨_,rfl⟩;obtain⟨rest,hrest⟩:∃ rest,rest=(List.replicate (n-(k+1)) ZL.toList).flatten:=⟨_,rfl⟩;have hv:=hF.1;rw[<-hpre,<-hrest] at hv;rw[<-hpre] at HPL;have HPRE:=Qh hpre;have HREST:=Qh hrest;have hv0:wo.cell? ⟨w.heap.size,k*2,none⟩=some (.int .i64 0):=eG (a:=[]) hv (by rw[HPL.out];rfl)
  have hf0:wo.frozen? ⟨w.heap.size,k*2,none⟩=false:=hv.frozen _;have J0:Hid (KI wo w.heap.size w.heap.size n x.1 pre rest x.2 ((wo.setCell ⟨w.heap.size,k*2,none⟩ (.int .i64 x.1)).alloc (.cells #[.int .i64 x.1,.slice Aw m cw] 99)) 0 none 0):=KI.start hv _ (by omega) (by rw[HPL.out])
  clear hc hxk hmem hm hrw hsx hF hnk hpl hpre hrest hv hfx;go_wp2;clear hv0 hf0
  go_loopw [31] (fun i wr=>∃ (j c':Nat) (A'':Option Addr),j<=m/\i= .int .i64 j/\Hid (KI wo w.heap.size w.heap.size n x.1 pre rest x.2 wr j A'' c')) (fun i _=>m-(intOf i).toNat)
  case atStart=>exact⟨0,0,none,Nat.zero_le _,rfl,J0⟩
  case round =>
  obtain⟨j,cI,AI,hj,rfl,hji⟩:=hrel;clear J0;have hsz:wo.heap.size<=wr.heap.size:=hji.out.2.2.size;have zl:w.heap.size<wr.heap.size:=by omega
  have HBW:Hid (Below w.heap.size w wr):=hob.out.trans (hji.out.2.2.toBelow Ql (by omega))
  by_cases hjm:j<m
  ·obtain⟨p,hpj,hpm⟩:=aH (xs:=x.2) (j:=j) (by have:=HM.out;omega)
   have HPJ:=Qh hpj;obtain⟨hs1,hs2⟩:=HSX.out p hpm;obtain⟨b2,off2,cs,Fp,rfl,hbl2,hc,_,P1,q1,P2,q2,Fa,Fb,rfl,hp1,hp2,_⟩:=(HRW.out.below HBW.out).cells hpj 6 rfl;have a0:wr.cell? ⟨b2,off2+j*6,none⟩=some (.int .i64 p.1.r):=hc 0 (by omega)
   have a1:wr.cell? ⟨b2,off2+j*6+1,none⟩=some (.int .i64 p.1.c):=hc 1 (by omega)
   have a2:wr.cell? ⟨b2,off2+j*6+2,none⟩=some (.slice P1 p.1.v.length q1):=hc 2 (by omega)
   have a3:wr.cell? ⟨b2,off2+j*6+3,none⟩=some (.int .i64 p.2.r):=hc 3 (by omega)
   have a4:wr.cell? ⟨b2,off2+j*6+4,none⟩=some (.int .i64 p.2.c):=hc 4 (by omega)
   have a5:wr.cell? ⟨b2,off2+j*6+5,none⟩=some (.slice P2 p.2.v.length q2):=hc 5 (by omega)
   have j0:(0:Int)<=(j:Int):=by omega
   have j1:(j:Int)<(m:Int):=by omega
   have HJN:Hid (∀ W:World,Below wr.heap.size wr W->Calls prog 55 #[SMV p.1.r p.1.c P1 p.1.v.length q1 p.2.r p.2.c P2 p.2.v.length q2] W (bD (aq p) W)):=fun W hW=>j_ p.1.r p.1.c p.2.r p.2.c p.1.v p.2.v P1 P2 _ q1 _ q2 W (hp1.1.below hW) (hp2.1.below hW) hs1 hs2
   clear hc hpj hpm hp1 hp2 hs1 hs2;obtain⟨hV,⟨cssI,FI,hoxI⟩,hOn⟩:=hji.out;have cj:wr.cell? ⟨w.heap.size,k*2+1,none⟩=some (.slice AI j cI):=eG (a:=[.int .i64 x.1]) hV (by rw[HPL.out];rfl)
   have HV:=Qh hV;have HOXI:=Qh hoxI;have HON:=Qh hOn;have hcs:=hoxI.dC;clear hV hoxI hOn;obtain⟨mj,hmj⟩:∃ mj,mj=aq p:=⟨_,rfl⟩;rw[<-hmj] at HJN;have HMJ:=Qh hmj;clear hmj;have H1:Hid (∀ (Ap:Option Addr) (cp:Nat),∀ u∈[Value.int .i64 mj.r,Value.int .i64 mj.c,Value.slice Ap mj.v.length cp],u.oneCell'=true):=by
    intro Ap cp u hu;simp at hu;rcases hu with rfl|rfl|rfl <;> rfl
   have H2:Hid (j+1<=maxLen):=by unfold maxLen;show j+1<=_;omega
   have H3:Hid ((j+1)*40<=140737488355328):=by show (j+1)*40<=_;omega
   go_wp2_with fail
   obtain⟨wm,hwm⟩:∃ u,u=(wr.alloc (.cells #[.int .i64 p.1.r,.int .i64 p.1.c,.slice P1 p.1.v.length q1,.int .i64 p.2.r,.int .i64 p.2.c,.slice P2 p.2.v.length q2] 82)):=⟨_,rfl⟩;rw[<-hwm];have hbm:Below wr.heap.size wr wm:=by rw[hwm];exact Qb.alloc Ql _
   have hkm:Blk wm wr.heap.size 82 #[.int .i64 p.1.r,.int .i64 p.1.c,.slice P1 p.1.v.length q1,.int .i64 p.2.r,.int .i64 p.2.c,.slice P2 p.2.v.length q2]:=by rw[hwm];exact Blk.new _ _ _
   clear hwm a0 a1 a2 a3 a4 a5;have b0:wm.cell? ⟨wr.heap.size,0,none⟩=some (.int .i64 p.1.r):=hkm.cell 0;have b1:wm.cell? ⟨wr.heap.size,1,none⟩=some (.int .i64 p.1.c):=hkm.cell 1;have b2':wm.cell? ⟨wr.heap.size,2,none⟩=some (.slice P1 p.1.v.length q1):=hkm.cell 2;have b3:wm.cell? ⟨wr.heap.size,3,none⟩=some (.int .i64 p.2.r):=hkm.cell 3;have b4:wm.cell? ⟨wr.heap.size,4,none⟩=some (.int .i64 p.2.c):=hkm.cell 4;have b5:wm.cell? ⟨wr.heap.size,5,none⟩=some (.slice P2 p.2.v.length q2):=hkm.cell 5;have zm:wr.heap.size<wm.heap.size:=hkm.lt;have cjm:wm.cell? ⟨w.heap.size,k*2+1,none⟩=some (.slice AI j cI):=(hbm.cell (p:=⟨w.heap.size,k*2+1,none⟩) zl).trans cj;have HBM:=Qh hbm;clear hkm cj hbm
   first
    | go_region_law (first
      | (refine step_append_lies _ (by rfl) _ _ _ (by rfl) wo.heap.size 37 i0 (.agg #[.int .i64 0,.int .i64 0,.slice none 0 0]) 3 40 underlying69 hi hz0 hz1 hz2 rfl (by omega) (.slice AI j cI) j _ (by rfl) (World.ownsRow.alloc (HOXI.out.below HBJ.out).1 _) ⟨wJ.heap.size,0,none⟩ 1 1 [.int .i64 mj.r,.int .i64 mj.c,.slice Ap mj.v.length cp] (by rfl) rfl (fun jj u h=>dz _ _ _ jj u h) (H1.out Ap cp) (by omega) H2.out H3.out (by simp;omega) (wJ.heap.size+1) (by simp) ?_;intro g cap5 w5 hown hgrow hat hlt5;rw[HMJ.out] at hown;have HA:=Qh (KI.app HV.out HOXI.out HON.out hgl HBJ.out HPJ.out HOS.out hown hgrow hat);clear hown hgrow hat;have kT:w5.cell? ⟨w.heap.size,k*2+1,none⟩=some (.slice AI j cI):=eG (a:=[.int .i64 x.1]) HA.out.1 (by rw[HPL.out];rfl);have fT:w5.frozen? ⟨w.heap.size,k*2+1,none⟩=false:=HA.out.1.frozen _)
      | (go_simp;go_at_call 55;(with_reducible refine(HJN.out _ (by first|exact HBM.out|exact HBM.out.drew)).mono ?_);rintro e wJ ⟨Ap,cp,rfl,hos,hb⟩;have hbm':Below wm.heap.size wm wJ:=bp hb (by first|exact Nat.le_refl _|simp) (by first|exact Below.refl _ _|exact Qb.drew);have hbJ:Below wr.heap.size wr wJ:=HBM.out.trans (hbm'.mono HBM.out.size);have HBJ:=Qh hbJ;have HOS:Hid (OS wJ wr.heap.size Ap (aq p).v.length cp (aq p).v):=(by rw[<-HMJ.out];exact hos.mono (by first|exact HBM.out.size|(simp;exact HBM.out.size)));have g1:wJ.cell? ⟨w.heap.size,k*2+1,none⟩=some (.slice AI j cI):=(hbJ.cell (p:=⟨w.heap.size,k*2+1,none⟩) zl).trans (eG (a:=[.int .i64 x.1]) HV.out (by rw[HPL.out];rfl));have gs:=hbJ.size;have gz:w.heap.size<wJ.heap.size:=(by omega);clear hos hb hbJ hbm')
      | fail)
    | fail
   all_goals
    go_wp2
    go_roundw
    case rel=>exact⟨j+1,cap5,some ⟨g,0,none⟩,by omega,by go_num,Qh (KA.next HA.out hgl (by rw[HPL.out]))⟩
    case measure=>simp[intOf];omega
  ·obtain rfl:j=m:=by omega
   obtain⟨hV,⟨cssI,FI,hoxI⟩,hOn⟩:=hji.out;rw[List.take_of_length_le (by rw[List.length_map,HM.out];exact Nat.le_refl _)] at hoxI
   obtain⟨F2,hr2,hf2⟩:=hoxI.ri;have q0:wr.cell? ⟨w.heap.size,k*2,none⟩=some (.int .i64 x.1):=eG (a:=[]) hV (by rw[HPL.out];rfl)
   have q1:wr.cell? ⟨w.heap.size,k*2+1,none⟩=some (.slice AI j cI):=eG (a:=[.int .i64 x.1]) hV (by rw[HPL.out];rfl)
   have HV:=Qh hV;have HON:=Qh hOn;have HR2:=Qh hr2;have HF2:=Qh hf2;clear hV hoxI hOn hr2 hf2 hji
   go_wp2_with fail
   refine(Ec x.1 AI j cI (x.2.map aq) F2 wr HR2.out jJ hsm).mono ?_;rintro e w5 ⟨rfl,hb5⟩;have HB5:=Qh hb5;have HBW5:Hid (Below w.heap.size w w5):=HBW.out.trans (hb5.mono (by omega))
   clear hb5
   cases hl:aL x.1 (x.2.map aq)
   ·have HNO:Hid (bu net=false):=wH HXK.out hl;clear hl;go_wp2
    go_ret2
    have:=JN.no (A:=none) HNO.out HBW5.out;rw[HNO.out] at this
    exact this
   ·have HVV:Hid (∀ q l,q<k+1->net[q]?=some l->aL l.1 (l.2.map aq)=true):=by
     intro q l hq hl'
     by_cases hqk:q<k
     ·exact hval.out q l hqk hl'
     ·obtain rfl:q=k:=by omega
      rw[HXK.out] at hl';injection hl' with hl';subst hl'
      exact hl
    have hQ:(kE mxE).P w5 [.int .i64 x.1,.slice AI j cI] (df x) F2:=⟨AI,cI,by simp[df,HM.out],by have:=HR2.out.below HB5.out;simpa [df,HM.out] using this⟩
    have K1:Hid (∃ css F',FX (kE mxE) w5 w.heap.size 80 w.heap.size n css (List.replicate (n-(k+1)) ZL.toList).flatten ((net.map df).take (k+1)) F'):=by
     have hF:=HFO.out;have hfO:∀ g',g'∈FO->w5.heap[g']?=wo.heap[g']?:=fun g' hg'=>(HB5.out.block g' (by have:=hF.2.1.lt g' hg';omega)).trans (HON.out.block g' (hF.2.1.lt g' hg') (fun e=>hF.2.2.2 (by injection e with e;rw[<-e];exact hg')))
     have hv5:=HV.out.below HB5.out;rw[HPRE.out,HREST.out] at hv5;have:=FX.step (E:=kE mxE) (css:=css) (g:=w.heap.size) (ys:=[.int .i64 x.1,.slice AI j cI]) hv5 hF.2.1 hF.2.2.1 hF.2.2.2 hfO hQ ((HF2.out.below HB5.out).mono hwo)
      (fun g' hg'=>⟨fun h=>by have:=hF.2.1.lt g' h;have:=(HF2.out.2 g' hg').1;omega,fun h=>by have:=(HF2.out.2 g' hg').1;omega⟩)
     rw[<-aW (jb HXK.out)] at this
     exact⟨_,_,this⟩
    clear hl hQ hval;go_wp2
    go_roundw
    case rel=>exact⟨k+1,by omega,by go_num,K1,HBW5,HVV⟩
    case measure=>simp[intOf];omega
 ·obtain rfl:k=n:=by omega
  have hy:bu net=true:=uj (by rw[HLN.out];omega) (fun q l hq hl=>hval.out q l (by rw[<-HLN.out];exact hq) hl)
  have HJN:Hid (JN net w (.returned (.tuple #[.slice (some ⟨w.heap.size,0,none⟩) k k,.bool true])) wo):=by
   obtain⟨css,F',hF⟩:=hfx.out;rw[Nat.sub_self,List.take_of_length_le (by rw[List.length_map,HLN.out];exact Nat.le_refl _)] at hF
   obtain⟨F2,hr2,hf2⟩:=FX.ri hF (by rw[List.length_map,HLN.out])
   exact⟨some ⟨w.heap.size,0,none⟩,k,k,F2,by rw[hy],by rw[eL hy];exact hr2,hf2,hob.out⟩
  clear hy hfx;go_wp2
  go_ret2
  exact HJN.out
end
section
attribute [local go_sem ↓] Go.wp_at_zero Go.wp_at_succ
theorem je (A:Option Addr) (n cap:Nat) (net:List (Int×List (Mx×Mx))) (F:List Nat) (w:World) (hx:RI (kE smE) w A n cap net F) (hs:gG (kS smS) net) :
  Calls prog 43 #[.slice A n cap] w (JN net w):=by
 obtain⟨i0,hi,hz0,hz1,hz2⟩:=info_parts rI;obtain⟨i2,hi2,hy0,hy1,hy2⟩:=info_parts we;have bn:n<=1048576:=by rw[<-hx.1];exact hs.1
 have HLN:=Qh hx.1;have HS:=Qh hs.2;have hcall:Calls prog 85 #[.slice A n cap] w (fun e w'=>∃ A1 c1 F1,e= .returned (.slice A1 n c1)/\RI (kE smE) w' A1 n c1 net F1/\Below w.heap.size w w'):=by
  refine(bW A n cap net F w hx bn hs.2).mono ?_;rintro e w' ⟨A1,c1,F1,he,h1,_,h3⟩;rw[hx.1] at he h1
  exact⟨A1,c1,F1,he,h1,h3⟩
 have HCALL:=Qh hcall;clear hcall hx hs
 go_enter func43,ntmps43
 go_wp2_with fail
 refine HCALL.out.mono ?_;rintro e w1 ⟨A1,c1,F1,rfl,hri,hb⟩;have H0:Hid (∃ css F',OX (kE mxE) (w1.alloc (.cells #[] 80)) w1.heap.size 80 (some ⟨w1.heap.size,0,none⟩) 0 0 css ((net.map df).take 0) F'):=⟨_,_,OX.kG w1 Ql _⟩;have HLT:Hid (∀ g,g∈F1->g<w1.heap.size):=hri.lt;have hw1:w.heap.size<=w1.heap.size:=hb.size;have HU0:w1.heap.size<=(w1.alloc (.cells #[] 80)).heap.size:=by simp
 have R0:Hid (RI (kE smE) (w1.alloc (.cells #[] 80)) A1 n c1 net F1):=hri.alloc _;have B0:Hid (Below w.heap.size w (w1.alloc (.cells #[] 80))):=hb.alloc hb.size _;clear hri hb HCALL;go_wp2
 go_loopw [4,5] (fun v i wr=>∃ (k c':Nat) (A':Option Addr),k<=n/\i= .int .i64 k/\v= .slice A' k c'/\Hid (∃ css F',OX (kE mxE) wr w1.heap.size 80 A' k c' css ((net.map df).take k) F')/\Hid (RI (kE smE) wr A1 n c1 net F1)/\Hid (Below w.heap.size w wr)/\Hid (∀ q l,q<k->net[q]?=some l->aL l.1 (l.2.map aq)=true)/\Hid (k=0\/n<=4)/\w1.heap.size<=wr.heap.size) (fun _ i _=>n-(intOf i).toNat)
 case atStart=>exact⟨0,0,_,Nat.zero_le _,rfl,rfl,H0,R0,B0,fun q l hq=>absurd hq (by omega),Or.inl rfl,HU0⟩
 case round =>
 obtain⟨k,cA,A',hk,rfl,rfl,hox,hri,hob,hval,hfour,hw1o⟩:=hrel;clear H0 R0 B0 HU0;obtain⟨wo,rfl⟩:∃ u:World,u=wr:=⟨_,rfl⟩
 by_cases hlt:k<n
 ·obtain⟨x,hxk,hmem⟩:=aH (xs:=net) (j:=k) (by have:=HLN.out;omega)
  have HXK:=Qh hxk;obtain⟨hsm,hsx⟩:=HS.out x hmem;have HSX:=Qh hsx;have hwo:w.heap.size<=wo.heap.size:=hob.out.size;obtain⟨b,off,cs,Fx,rfl,hbl,hc,_,Aw,cw,rfl,hrw⟩:=hri.out.cells hxk 2 rfl;obtain⟨m,hm⟩:∃ m,m=x.2.length:=⟨_,rfl⟩;rw[<-hm] at hc hrw hsm;have HM:=Qh hm;have d0:wo.cell? ⟨b,off+k*2,none⟩=some (.int .i64 x.1):=hc 0 (by omega)
  have d1:wo.cell? ⟨b,off+k*2+1,none⟩=some (.slice Aw m cw):=hc 1 (by omega)
  have HRW:=Qh hrw;have k0:(0:Int)<=(k:Int):=by omega
  have k1:(k:Int)<(n:Int):=by omega
  have J0:Hid (JI wo x.1 x.2 (wo.alloc (.cells #[.int .i64 x.1,.slice none 0 0] 80)) 0 none 0):=JI.start wo x.1 x.2;clear hc hxk hmem hm hrw hsx;go_wp2
  go_loopw [7] (fun i wr=>∃ (j c':Nat) (A'':Option Addr),j<=m/\i= .int .i64 j/\Hid (JI wo x.1 x.2 wr j A'' c')) (fun i _=>m-(intOf i).toNat)
  case atStart=>exact⟨0,0,none,Nat.zero_le _,rfl,J0⟩
  case round =>
  obtain⟨j,cI,AI,hj,rfl,hji⟩:=hrel;clear J0;have cl0:wr.cell? ⟨wo.heap.size,0,none⟩=some (.int .i64 x.1):=hji.out.1.cell 0;have cl1:wr.cell? ⟨wo.heap.size,1,none⟩=some (.slice AI j cI):=hji.out.1.cell 1;have zl:wo.heap.size<wr.heap.size:=hji.out.1.lt;have zb:b<wr.heap.size:=by omega
  have e1:wr.cell? ⟨b,off+k*2+1,none⟩=some (.slice Aw m cw):=(hji.out.2.2.cell (p:=⟨b,off+k*2+1,none⟩) hbl).trans d1
  by_cases hjm:j<m
  ·obtain⟨p,hpj,hpm⟩:=aH (xs:=x.2) (j:=j) (by have:=HM.out;omega)
   have HPJ:=Qh hpj;obtain⟨hs1,hs2⟩:=HSX.out p hpm;obtain⟨b2,off2,cs,Fp,rfl,hbl2,hc,_,P1,q1,P2,q2,Fa,Fb,rfl,hp1,hp2,_⟩:=(HRW.out.below hji.out.2.2).cells hpj 6 rfl;have a0:wr.cell? ⟨b2,off2+j*6,none⟩=some (.int .i64 p.1.r):=hc 0 (by omega)
   have a1:wr.cell? ⟨b2,off2+j*6+1,none⟩=some (.int .i64 p.1.c):=hc 1 (by omega)
   have a2:wr.cell? ⟨b2,off2+j*6+2,none⟩=some (.slice P1 p.1.v.length q1):=hc 2 (by omega)
   have a3:wr.cell? ⟨b2,off2+j*6+3,none⟩=some (.int .i64 p.2.r):=hc 3 (by omega)
   have a4:wr.cell? ⟨b2,off2+j*6+4,none⟩=some (.int .i64 p.2.c):=hc 4 (by omega)
   have a5:wr.cell? ⟨b2,off2+j*6+5,none⟩=some (.slice P2 p.2.v.length q2):=hc 5 (by omega)
   have j0:(0:Int)<=(j:Int):=by omega
   have j1:(j:Int)<(m:Int):=by omega
   have HJN:Hid (∀ W:World,Below wr.heap.size wr W->Calls prog 48 #[SMV p.1.r p.1.c P1 p.1.v.length q1 p.2.r p.2.c P2 p.2.v.length q2] W (bD (aq p) W)):=fun W hW=>kL p.1.r p.1.c p.2.r p.2.c p.1.v p.2.v P1 P2 _ q1 _ q2 W (hp1.1.below hW) (hp2.1.below hW) hs1 hs2
   clear hc hpj hpm hp1 hp2 hs1 hs2;obtain⟨hB1,⟨css,FI,hoxI⟩,hB3⟩:=hji.out;have HB1:=Qh hB1;have HOXI:=Qh hoxI;have HB3:=Qh hB3;have hcs:=hoxI.dC;clear hB1 hoxI hB3;obtain⟨mj,hmj⟩:∃ mj,mj=aq p:=⟨_,rfl⟩;rw[<-hmj] at HJN;have HMJ:=Qh hmj;clear hmj;have H1:Hid (∀ (Ap:Option Addr) (cp:Nat),∀ u∈[Value.int .i64 mj.r,Value.int .i64 mj.c,Value.slice Ap mj.v.length cp],u.oneCell'=true):=by
    intro Ap cp u hu;simp at hu;rcases hu with rfl|rfl|rfl <;> rfl
   have H2:Hid (j+1<=maxLen):=by unfold maxLen;show j+1<=_;omega
   have H3:Hid ((j+1)*40<=140737488355328):=by show (j+1)*40<=_;omega
   go_upto_region 10 with fail
   first
    | go_region_law (first
      | (refine step_append_lies _ (by rfl) _ _ _ (by rfl) (wo.heap.size+1) 37 i0 (.agg #[.int .i64 0,.int .i64 0,.slice none 0 0]) 3 40 underlying69 hi hz0 hz1 hz2 rfl (by omega) (.slice AI j cI) j _ (by rfl) (World.ownsRow.alloc (HOXI.out.below HBJ.out).1 _) ⟨wJ.heap.size,0,none⟩ 1 1 [.int .i64 mj.r,.int .i64 mj.c,.slice Ap mj.v.length cp] (by rfl) rfl (fun jj u h=>dz _ _ _ jj u h) (H1.out Ap cp) (by omega) H2.out H3.out (by simp;omega) (wJ.heap.size+1) (by simp) ?_;intro g cap5 w5 hown hgrow hat hlt5;rw[HMJ.out] at hown;have HA:=Qh (JI.app HB1.out HOXI.out HB3.out HBJ.out HPJ.out HOS.out hown hgrow hat);clear hown hgrow hat;have kT:w5.cell? ⟨wo.heap.size,1,none⟩=some (.slice AI j cI):=HA.out.1.cell 1;have fT:=HA.out.1.frozen 1;have zT:=HA.out.1.lt)
      | (go_simp;go_at_call 48;(with_reducible refine(HJN.out _ (by first|exact Below.refl _ _|exact Qb.drew)).mono ?_);rintro e wJ ⟨Ap,cp,rfl,hos,hb⟩;have hbJ:Below wr.heap.size wr wJ:=bp hb (by first|exact Nat.le_refl _|simp) (by first|exact Below.refl _ _|exact Qb.drew);have HBJ:=Qh hbJ;have HOS:Hid (OS wJ wr.heap.size Ap (aq p).v.length cp (aq p).v):=(by rw[<-HMJ.out];exact hos);have g1:wJ.cell? ⟨wo.heap.size,1,none⟩=some (.slice AI j cI):=(HB1.out.aa hbJ).cell 1;have gz:wo.heap.size<wJ.heap.size:=(HB1.out.aa hbJ).lt;have gs:=hbJ.size;clear hos hb hbJ)
      | fail)
    | fail
   all_goals
    go_wp2
    go_roundw
    case rel=>exact⟨j+1,cap5,some ⟨g,0,none⟩,by omega,by go_num,Qh (JA.next HA.out)⟩
    case measure=>simp[intOf];omega
  ·obtain rfl:j=m:=by omega
   obtain⟨hB1,⟨css,FI,hoxI⟩,hB3⟩:=hji.out;rw[List.take_of_length_le (by rw[List.length_map,HM.out];exact Nat.le_refl _)] at hoxI
   obtain⟨F2,hr2,hf2⟩:=hoxI.ri;have HB1:=Qh hB1;have HB3:=Qh hB3;have HR2:=Qh hr2;have HF2:=Qh hf2;clear hB1 hoxI hB3 hr2 hf2 hji
   go_wp2_with fail
   refine(dx x.1 AI j cI (x.2.map aq) F2 wr HR2.out jJ hsm).mono ?_;rintro e w5 ⟨rfl,hb5⟩;have HB5:=Qh hb5;have p0:w5.cell? ⟨wo.heap.size,0,none⟩=some (.int .i64 x.1):=(HB1.out.aa hb5).cell 0;have p1:w5.cell? ⟨wo.heap.size,1,none⟩=some (.slice AI j cI):=(HB1.out.aa hb5).cell 1;have z5:wo.heap.size<w5.heap.size:=(HB1.out.aa hb5).lt;have HBo:Hid (Below wo.heap.size wo w5):=HB3.out.trans (hb5.mono (by omega))
   have HBW:Hid (Below w.heap.size w w5):=hob.out.trans (HBo.out.mono hwo);clear hb5
   cases hl:aL x.1 (x.2.map aq)
   ·have HNO:Hid (bu net=false):=wH HXK.out hl;have HFIN:Hid (Below w.heap.size w (w5.alloc (.cells #[] 80))):=HBW.out.alloc HBW.out.size _;clear hl;go_wp2
    go_ret2
    have:=JN.no (A:=some ⟨w5.heap.size,0,none⟩) HNO.out HFIN.out;rw[HNO.out] at this
    exact this
   ·by_cases n4:4<n
    ·have HNO:Hid (bu net=false):=Eo (by rw[HLN.out];exact n4)
     have HFIN:Hid (Below w.heap.size w (w5.alloc (.cells #[] 80))):=HBW.out.alloc HBW.out.size _;have t4:(4:Int)<(n:Int):=by omega
     clear hl;go_wp2
     go_ret2
     have:=JN.no (A:=some ⟨w5.heap.size,0,none⟩) HNO.out HFIN.out;rw[HNO.out] at this
     exact this
    ·have HV:Hid (∀ q l,q<k+1->net[q]?=some l->aL l.1 (l.2.map aq)=true):=by
      intro q l hq hl'
      by_cases hqk:q<k
      ·exact hval.out q l hqk hl'
      ·obtain rfl:q=k:=by omega
       rw[HXK.out] at hl';injection hl' with hl';subst hl'
       exact hl
     have t4:(n:Int)<=4:=by omega
     obtain⟨cssO,FO,hoxO⟩:=hox.out;have HOXO:=Qh (hoxO.below HBo.out);have HQ:Hid ((kE mxE).P w5 [.int .i64 x.1,.slice AI j cI] (df x) F2):=⟨AI,cI,by simp[df,HM.out],by have:=HR2.out.below HB5.out;simpa [df,HM.out] using this⟩
     have HG:Hid (Fr w5 w1.heap.size F2):=(HF2.out.below HB5.out).mono (by omega)
     have HD:Hid (∀ g,g∈F2->g∉FO/\blk A'≠some g):=fun g hg=>⟨fun h=>by have:=hoxO.lt g h;have:=(HF2.out.2 g hg).1;omega,fun h=>by have:=(hoxO.aj g h).2;have:=(HF2.out.2 g hg).1;omega⟩
     clear hl hoxO hox hval
     go_wp2_with (at_builtin;refine wpList_append_lies _ rfl _ _ 32 rfl w1.heap.size 80 i2 (.agg #[.int .i64 0,.slice none 0 0]) 2 32 underlying32 hi2 hy0 hy1 hy2 rfl (by decide) (.slice A' k cA) k _ rfl (World.ownsRow.alloc HOXO.out.1 _) ⟨w5.heap.size,0,none⟩ 1 1 [.int .i64 x.1,.slice AI j cI] rfl rfl ?c1 ?c2 ?c3 ?c4 ?c5 ?c6 (w5.heap.size+1) ?c7 ?_)
     case c1=>exact dz w5 _ _
     case c2=>intro u hu;simp at hu;rcases hu with rfl|rfl <;> rfl
     case c3=>omega
     case c4=>unfold maxLen;omega
     case c5=>omega
     case c6=>simp;omega
     case c7=>simp
     intro g cap6 w6 hown hgrow hat hlt6;obtain⟨r1,r2,r3⟩:=OX.push HOXO.out HQ.out HG.out HD.out HBW.out hw1 (by omega) hown hgrow hat
     rw[<-aW (jb HXK.out)] at r1;have K1:Hid (∃ css F',OX (kE mxE) w6 w1.heap.size 80 (some ⟨g,0,none⟩) (k+1) cap6 css ((net.map df).take (k+1)) F'):=⟨_,_,r1⟩;have K2:=Qh r2;have K3:Hid (RI (kE smE) w6 (some ⟨b,off,none⟩) n c1 net F1):=(hri.out.below HBo.out).au fun g' hg'=>r3.block g' ((hri.out.below HBo.out).lt g' hg') (fun e=>by have:=(HOXO.out.aj g' e.symm).1;have:=HLT.out g' hg';omega)
     have hw6:w1.heap.size<=w6.heap.size:=by have:=r3.size;have:=HBo.out.size;omega
     clear r1 r2 r3 hown hgrow hat HOXO HQ HG HD HBW;go_wp2
     go_roundw
     case rel=>exact⟨k+1,cap6,_,by omega,by go_num,rfl,K1,K3,K2,HV,Qh (Or.inr (by omega)),hw6⟩
     case measure=>simp[intOf];omega
 ·obtain rfl:k=n:=by omega
  have HYES:Hid (k<=4->bu net=true):=fun h4=>uj (by rw[HLN.out];exact h4) (fun q l hq hl=>hval.out q l (by rw[<-HLN.out];exact hq) hl)
  have h4:k<=4:=by rcases hfour.out with h|h <;> omega
  obtain⟨css,F',hox'⟩:=hox.out;have HB:=Qh hob.out;have HJN:Hid (JN net w (.returned (.tuple #[.slice A' k cA,.bool true])) wo):=by
   have hy:=HYES.out h4;rw[List.take_of_length_le (by rw[List.length_map,HLN.out];exact Nat.le_refl _)] at hox'
   obtain⟨F2,hr2,hf2⟩:=hox'.ri
   exact⟨A',k,cA,F2,by rw[hy],by rw[eL hy];exact hr2,hf2.mono hw1,hob.out⟩
  clear hox' hox;go_wp2
  go_ret2
  exact HJN.out
end
def tB:Elt (List (Int×List (Mx×Mx))×Int) where
 s:=2
 P:=fun w cs x F=>∃ A c,cs=[.slice A x.1.length c,.int .i64 x.2]/\RI (kE smE) w A x.1.length c x.1 F
 len:=by rintro w cs x F ⟨A,c,rfl,_⟩;rfl
 au:=by rintro w w' cs x F ⟨A,c,rfl,h⟩ hk;exact⟨A,c,rfl,h.au hk⟩
 lt:=by rintro w cs x F ⟨A,c,rfl,h⟩;exact h.lt
def svS (x:List (Int×List (Mx×Mx))×Int):Prop:=gG (kS smS) x.1
end Go.Proofs.YtjciicheoghcdaaGreatDoor

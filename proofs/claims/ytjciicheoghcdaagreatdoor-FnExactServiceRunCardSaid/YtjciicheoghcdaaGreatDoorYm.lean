/- Part of the proof that the law FnExactServiceRun of the given program returns true for every input. -/
import Derived.Deep.RegionHeld3
import Derived.Test.YtjciicheoghcdaaGreatDoorYa
import Derived.Test.YtjciicheoghcdaaGreatDoorYd
import Derived.Test.YtjciicheoghcdaaGreatDoorYe
import Derived.Test.YtjciicheoghcdaaGreatDoorYg
import Derived.Test.YtjciicheoghcdaaGreatDoorYj
import Derived.Test.YtjciicheoghcdaaGreatDoorYk
import Derived.Test.YtjciicheoghcdaaGreatDoorYl
namespace Go.Proofs.YtjciicheoghcdaaGreatDoor
open Go.RowKit
set_option linter.unusedSimpArgs false
set_option linter.unusedVariables false
set_option maxRecDepth 20000
set_option maxHeartbeats 16000000
def SzP (S:Prop) (left:Int) (w:World) (e:Ending) (w':World):Prop:=∃ v:Int,e= .returned (.int .i64 v)/\ -1<=v/\(0<=v->v<=left/\S)/\Below w.heap.size w w'
def tB:Elt (List (Int×List (Mx×Mx))×Int) where
 s:=2
 P:=fun w cs x F=>∃ A c,cs=[.slice A x.1.length c,.int .i64 x.2]/\RI (kE smE) w A x.1.length c x.1 F
 len:=by rintro w cs x F ⟨A,c,rfl,_⟩;rfl
 au:=by rintro w w' cs x F ⟨A,c,rfl,h⟩ hk;exact ⟨A,c,rfl,h.au hk⟩
 lt:=by rintro w cs x F ⟨A,c,rfl,h⟩;exact h.lt
def svS (x:List (Int×List (Mx×Mx))×Int):Prop:=gG (kS smS) x.1
theorem lA (w:World) (cs:List Value) (x:Mx×Mx) (F:List Nat) (h:smE.P w cs x F) (left:Int) (h0:0<=left) (h1:left<=1048576) :
  Calls Tryz.prog 203 #[.agg cs.toArray,.int .i64 left] w (SzP (smS x) left w):=by
 obtain ⟨A,c,B,d,F1,F2,rfl,⟨_,p1,p2,_⟩,⟨_,p3,p4,_⟩,_⟩:=h
 show Calls Tryz.prog 203 #[.agg #[.int .i64 x.1.r,.int .i64 x.1.c,.slice A x.1.v.length c,.int .i64 x.2.r,.int .i64 x.2.c,.slice B x.2.v.length d],_] w _
 have b1:x.1.v.length<=maxLen:=Nat.le_trans p1 p2;have b2:x.2.v.length<=maxLen:=Nat.le_trans p3 p4
 by_cases g1:(x.1.v.length:Int)<=left
 ·have t1:0<=left-(x.1.v.length:Int):=by omega
  by_cases g2:(x.2.v.length:Int)<=left-(x.1.v.length:Int)
  ·have t2:0<=left-(x.1.v.length:Int)-(x.2.v.length:Int):=by omega
   refine zE ?_;intro u1 H;refine zB ((show Calls Tryz.prog 243 #[_,_] u1 (fun e w'=>e= .returned (.int .i64 (left-(x.1.v.length:Int)))/\Below u1.heap.size u1 w') from (uR g1) ▸ fp x.1.r x.1.c A x.1.v.length c left h0 h1 b1 u1)) ?_;clear H;intro w2 u2 H
   refine zB ((show Calls Tryz.prog 243 #[_,_] u2 (fun e w'=>e= .returned (.int .i64 (left-(x.1.v.length:Int)-(x.2.v.length:Int)))/\Below u2.heap.size u2 w') from (uR g2) ▸ fp x.2.r x.2.c B x.2.v.length d (left-(x.1.v.length:Int)) (by omega) (by omega) b2 u2)) ?_;clear H;intro w3 u3 H
   refine zR ?_;clear H;intro u4 H
   exact ⟨left-(x.1.v.length:Int)-(x.2.v.length:Int),rfl,by omega,fun h=>⟨by omega,by unfold smS mS;omega⟩,H.O⟩
  ·replace g2:=Int.not_le.1 g2;refine zE ?_;intro u1 H;refine zB ((show Calls Tryz.prog 243 #[_,_] u1 (fun e w'=>e= .returned (.int .i64 (left-(x.1.v.length:Int)))/\Below u1.heap.size u1 w') from (uR g1) ▸ fp x.1.r x.1.c A x.1.v.length c left h0 h1 b1 u1)) ?_;clear H;intro w2 u2 H
   refine zB ((show Calls Tryz.prog 243 #[_,_] u2 (fun e w'=>e= .returned (.int .i64 (-1))/\Below u2.heap.size u2 w') from (wA (Int.not_le.2 g2)) ▸ fp x.2.r x.2.c B x.2.v.length d (left-(x.1.v.length:Int)) (by omega) (by omega) b2 u2)) ?_;clear H;intro w3 u3 H
   refine zR ?_;clear H;intro u4 H
   exact ⟨-1,rfl,by omega,fun h=>by omega,H.O⟩
 ·replace g1:=Int.not_le.1 g1;refine zE ?_;intro u1 H;refine zB ((show Calls Tryz.prog 243 #[_,_] u1 (fun e w'=>e= .returned (.int .i64 (-1))/\Below u1.heap.size u1 w') from (wA (Int.not_le.2 g1)) ▸ fp x.1.r x.1.c A x.1.v.length c left h0 h1 b1 u1)) ?_;clear H;intro w2 u2 H
  refine zR ?_;clear H;intro u3 H
  exact ⟨-1,rfl,by omega,fun h=>by omega,H.O⟩
theorem kC (A:Option Addr) (n cap:Nat) (xs:List (Mx×Mx)) (F:List Nat) (w:World) (hx:RI smE w A n cap xs F) (left:Int) (h0:0<=left) (h1:left<=1048576) :
  Calls Tryz.prog 156 #[.slice A n cap,.int .i64 left] w (SzP (gG smS xs) left w):=by
 have HLN:=Lib.hid hx.1;have HX:=Lib.hid hx;have bn:n<=maxLen:=Nat.le_trans hx.2.1 hx.2.2.1;unfold maxLen at bn;clear hx;have hq0:=IntWalk.i64_in (left-(n:Int)) (by omega)
 by_cases g:(n:Int)<=left
 ·have t1:¬ left-(n:Int)<0:=by omega
  go_enter Tryz.func156,Tryz.ntmps156
  go_wp2
  go_loopw [1,5] (fun l i wr=>∃ (j:Nat) (lv:Int),j<=n/\i= .int .i64 j/\l= .int .i64 lv/\0<=lv/\lv<=left-(n:Int)/\Hid (Below w.heap.size w wr)/\Hid (∀ q x,q<j->xs[q]?=some x->smS x)) (fun _ i _=>n-(intOf i).toNat)
  case atStart=>exact ⟨0,left-(n:Int),Nat.zero_le _,rfl,rfl,by omega,by omega,Below.refl _ _,fun q x hq=>absurd hq (by omega)⟩
  case round =>
  obtain ⟨j,lv,hj,rfl,rfl,hl0,hl1,hob,hval⟩:=hrel
  by_cases hlt:j<n
  ·obtain ⟨x,hxj,hmem⟩:=aH (xs:=xs) (j:=j) (by have:=HLN.out;omega)
   have HXJ:=Lib.hid hxj;obtain ⟨b,off,cs,F1,rfl,hbl,hc,_,hP⟩:=(HX.out.below hob.out).cells hxj 6 rfl;have HP:=Lib.hid hP;obtain ⟨Aa,ca,Ab,cb,Fa,Fb,rfl,hm1,hm2,_⟩:=hP;have d0:wr.cell? ⟨b,off+j*6,none⟩=some (.int .i64 x.1.r):=hc 0 (by omega)
   have d1:wr.cell? ⟨b,off+j*6+1,none⟩=some (.int .i64 x.1.c):=hc 1 (by omega)
   have d2:wr.cell? ⟨b,off+j*6+2,none⟩=some (.slice Aa x.1.v.length ca):=hc 2 (by omega)
   have d3:wr.cell? ⟨b,off+j*6+3,none⟩=some (.int .i64 x.2.r):=hc 3 (by omega)
   have d4:wr.cell? ⟨b,off+j*6+4,none⟩=some (.int .i64 x.2.c):=hc 4 (by omega)
   have d5:wr.cell? ⟨b,off+j*6+5,none⟩=some (.slice Ab x.2.v.length cb):=hc 5 (by omega)
   have i0':(0:Int)<=(j:Int):=by omega
   have i1:(j:Int)<(n:Int):=by omega
   clear hc hxj hmem
   go_wp2_with fail
   refine (lA wr _ x _ HP.out lv hl0 (by omega)).mono ?_
   rintro e w4 ⟨v,rfl,hv0,hv1,hb4⟩;have HV1:=Lib.hid hv1;have HB4:Hid (Below w.heap.size w w4):=hob.out.trans (hb4.mono hob.out.size);clear hb4 hob hv1
   by_cases gv:v<0
   ·go_wp2
    go_ret
    exact ⟨-1,rfl,by omega,fun h=>by omega,HB4.out⟩
   ·obtain ⟨u1,u2⟩:=HV1.out (by omega)
    have HV:Hid (∀ q x,q<j+1->xs[q]?=some x->smS x):=by
     intro q y hq hy
     by_cases hqj:q<j
     ·exact hval.out q y hqj hy
     ·obtain rfl:q=j:=by omega
      rw [HXJ.out] at hy;injection hy with hy;subst hy
      exact u2
    clear u2 hval;go_wp2
    go_roundw
    case rel=>exact ⟨j+1,v,by omega,by go_num,rfl,by omega,by omega,HB4,HV⟩
    case measure=>simp [intOf];omega
  ·obtain rfl:j=n:=by omega
   have HS:Hid (gG smS xs):=⟨by rw [HLN.out];omega,fun y hy=>by
    obtain ⟨q,hq⟩:=List.getElem?_of_mem hy
    exact hval.out q y (by have:=(List.getElem?_eq_some_iff.1 hq).1;have:=HLN.out;omega) hq⟩
   clear hval;go_wp2
   go_ret
   exact ⟨lv,rfl,by omega,fun h=>⟨by omega,HS.out⟩,hob.out⟩
 ·have t1:left-(n:Int)<0:=by omega
  clear g
  go_enter Tryz.func156,Tryz.ntmps156
  go_wp2
  go_ret
  exact ⟨-1,rfl,by omega,fun h=>by omega,Below.refl _ _⟩
theorem mH (w:World) (cs:List Value) (x:Int×List (Mx×Mx)) (F:List Nat) (h:(kE smE).P w cs x F) (left:Int) (h0:0<=left) (h1:left<=1048576) :
  Calls Tryz.prog 115 #[.agg cs.toArray,.int .i64 left] w (SzP (kS smS x) left w):=by
 obtain ⟨A,c,rfl,hr⟩:=h
 show Calls Tryz.prog 115 #[.agg #[.int .i64 x.1,.slice A x.2.length c],_] w _
 have HX:=Lib.hid hr;clear hr;refine zE ?_;intro u1 H;refine zG (kC A _ c x.2 F u1 (HX.out.below H.O) left h0 h1) ?_;rintro e w2 ⟨v,rfl,hv0,hv1,hb⟩;replace H:=H.b hb;have HV1:=Lib.hid hv1;clear hv1 hb
 by_cases gv:v<0
 ·refine zR ?_;clear H;intro u3 H
  exact ⟨-1,rfl,by omega,fun h=>by omega,H.O⟩
 ·replace gv:=Int.not_lt.1 gv;refine zR ?_;clear H;intro u3 H
  exact ⟨v,rfl,by omega,fun h=>⟨(HV1.out h).1,(HV1.out h).2⟩,H.O⟩
theorem lz (A:Option Addr) (n cap:Nat) (xs:List (Int×List (Mx×Mx))) (F:List Nat) (w:World) (hx:RI (kE smE) w A n cap xs F) (left:Int) (h0:0<=left) (h1:left<=1048576) :
  Calls Tryz.prog 64 #[.slice A n cap,.int .i64 left] w (SzP (gG (kS smS) xs) left w):=by
 have HLN:=Lib.hid hx.1;have HX:=Lib.hid hx;have bn:n<=maxLen:=Nat.le_trans hx.2.1 hx.2.2.1;unfold maxLen at bn;clear hx;have hq0:=IntWalk.i64_in (left-(n:Int)) (by omega)
 by_cases g:(n:Int)<=left
 ·have t1:¬ left-(n:Int)<0:=by omega
  go_enter Tryz.func64,Tryz.ntmps64
  go_wp2
  go_loopw [1,5] (fun l i wr=>∃ (j:Nat) (lv:Int),j<=n/\i= .int .i64 j/\l= .int .i64 lv/\0<=lv/\lv<=left-(n:Int)/\Hid (Below w.heap.size w wr)/\Hid (∀ q x,q<j->xs[q]?=some x->(kS smS) x)) (fun _ i _=>n-(intOf i).toNat)
  case atStart=>exact ⟨0,left-(n:Int),Nat.zero_le _,rfl,rfl,by omega,by omega,Below.refl _ _,fun q x hq=>absurd hq (by omega)⟩
  case round =>
  obtain ⟨j,lv,hj,rfl,rfl,hl0,hl1,hob,hval⟩:=hrel
  by_cases hlt:j<n
  ·obtain ⟨x,hxj,hmem⟩:=aH (xs:=xs) (j:=j) (by have:=HLN.out;omega)
   have HXJ:=Lib.hid hxj;obtain ⟨b,off,cs,F1,rfl,hbl,hc,_,hP⟩:=(HX.out.below hob.out).cells hxj 2 rfl;have HP:=Lib.hid hP;obtain ⟨Aa,ca,rfl,hm1⟩:=hP;have d0:wr.cell? ⟨b,off+j*2,none⟩=some (.int .i64 x.1):=hc 0 (by omega)
   have d1:wr.cell? ⟨b,off+j*2+1,none⟩=some (.slice Aa x.2.length ca):=hc 1 (by omega)
   have i0':(0:Int)<=(j:Int):=by omega
   have i1:(j:Int)<(n:Int):=by omega
   clear hc hxj hmem
   go_wp2_with fail
   refine (mH wr _ x _ HP.out lv hl0 (by omega)).mono ?_
   rintro e w4 ⟨v,rfl,hv0,hv1,hb4⟩;have HV1:=Lib.hid hv1;have HB4:Hid (Below w.heap.size w w4):=hob.out.trans (hb4.mono hob.out.size);clear hb4 hob hv1
   by_cases gv:v<0
   ·go_wp2
    go_ret
    exact ⟨-1,rfl,by omega,fun h=>by omega,HB4.out⟩
   ·obtain ⟨u1,u2⟩:=HV1.out (by omega)
    have HV:Hid (∀ q x,q<j+1->xs[q]?=some x->(kS smS) x):=by
     intro q y hq hy
     by_cases hqj:q<j
     ·exact hval.out q y hqj hy
     ·obtain rfl:q=j:=by omega
      rw [HXJ.out] at hy;injection hy with hy;subst hy
      exact u2
    clear u2 hval;go_wp2
    go_roundw
    case rel=>exact ⟨j+1,v,by omega,by go_num,rfl,by omega,by omega,HB4,HV⟩
    case measure=>simp [intOf];omega
  ·obtain rfl:j=n:=by omega
   have HS:Hid (gG (kS smS) xs):=⟨by rw [HLN.out];omega,fun y hy=>by
    obtain ⟨q,hq⟩:=List.getElem?_of_mem hy
    exact hval.out q y (by have:=(List.getElem?_eq_some_iff.1 hq).1;have:=HLN.out;omega) hq⟩
   clear hval;go_wp2
   go_ret
   exact ⟨lv,rfl,by omega,fun h=>⟨by omega,HS.out⟩,hob.out⟩
 ·have t1:left-(n:Int)<0:=by omega
  clear g
  go_enter Tryz.func64,Tryz.ntmps64
  go_wp2
  go_ret
  exact ⟨-1,rfl,by omega,fun h=>by omega,Below.refl _ _⟩
theorem rO (w:World) (cs:List Value) (x:List (Int×List (Mx×Mx))×Int) (F:List Nat) (h:tB.P w cs x F) (left:Int) (h0:0<=left) (h1:left<=1048576) :
  Calls Tryz.prog 17 #[.agg cs.toArray,.int .i64 left] w (SzP (svS x) left w):=by
 obtain ⟨A,c,rfl,hr⟩:=h
 show Calls Tryz.prog 17 #[.agg #[.slice A x.1.length c,.int .i64 x.2],_] w _
 have HX:=Lib.hid hr;clear hr;refine zE ?_;intro u1 H;refine zG (lz A _ c x.1 F u1 (HX.out.below H.O) left h0 h1) ?_;rintro e w2 ⟨v,rfl,hv0,hv1,hb⟩;replace H:=H.b hb;have HV1:=Lib.hid hv1;clear hv1 hb
 by_cases gv:v<0
 ·refine zR ?_;clear H;intro u3 H
  exact ⟨-1,rfl,by omega,fun h=>by omega,H.O⟩
 ·replace gv:=Int.not_lt.1 gv;refine zR ?_;clear H;intro u3 H
  exact ⟨v,rfl,by omega,fun h=>⟨(HV1.out h).1,(HV1.out h).2⟩,H.O⟩
def sdB (n:Int):Bool:=decide (1<=n/\n<=2147483646)
def svB (x:List (Int×List (Mx×Mx))×Int):Bool:=bu x.1 && sdB x.2
theorem xP (n:Int) (w:World):Calls Tryz.prog 70 #[.int .i64 n] w fun e w'=>e= .returned (.bool (sdB n))/\w=w':=by
 by_cases h1:1<=n
 ·by_cases h2:n<=2147483646
  ·have e:sdB n=true:=decide_eq_true ⟨h1,h2⟩;rw [e];clear e
   go_enter Tryz.func70,Tryz.ntmps70
   go_wp2
   go_ret
   exact ⟨rfl,rfl⟩
  ·have e:sdB n=false:=decide_eq_false (fun h=>h2 h.2)
   rw [e];clear e
   go_enter Tryz.func70,Tryz.ntmps70
   go_wp2
   go_ret
   exact ⟨rfl,rfl⟩
 ·have e:sdB n=false:=decide_eq_false (fun h=>h1 h.1)
  rw [e];clear e
  go_enter Tryz.func70,Tryz.ntmps70
  go_wp2
  go_ret
  exact ⟨rfl,rfl⟩
theorem pJ (n:Int) (w:World):Calls Tryz.prog 53 #[.int .i64 n,.int .i64 1,.int .i64 2147483646] w fun e w'=>e= .returned (.bool (sdB n))/\w=w':=by
 by_cases h1:1<=n
 ·by_cases h2:n<=2147483646
  ·have e:sdB n=true:=decide_eq_true ⟨h1,h2⟩;rw [e];clear e
   go_enter Tryz.func53,Tryz.ntmps53
   go_wp2
   go_ret
   exact ⟨rfl,rfl⟩
  ·have e:sdB n=false:=decide_eq_false (fun h=>h2 h.2)
   rw [e];clear e
   go_enter Tryz.func53,Tryz.ntmps53
   go_wp2
   go_ret
   exact ⟨rfl,rfl⟩
 ·have e:sdB n=false:=decide_eq_false (fun h=>h1 h.1)
  rw [e];clear e
  go_enter Tryz.func53,Tryz.ntmps53
  go_wp2
  go_ret
  exact ⟨rfl,rfl⟩
theorem iM (W:World) (cs:List Value) (x:List (Int×List (Mx×Mx))×Int) (F:List Nat) (h:tB.P W cs x F) (hs:svS x):Calls Tryz.prog 29 #[.agg cs.toArray] W fun e w'=>e= .returned (.bool (svB x))/\Below W.heap.size W w':=by
 obtain ⟨A,c,rfl,h1⟩:=h;have HX:=Lib.hid h1;have HS:Hid (gG (kS smS) x.1):=hs;clear h1 hs
 go_enter Tryz.func29,Tryz.ntmps29
 go_wp2_with fail
 obtain ⟨u1,hu1⟩:∃ u,u=(W.alloc (.cells #[.slice A x.1.length c,.int .i64 x.2] 25)):=⟨_,rfl⟩;rw [<- hu1];have hzu1:u1.heap.size<=W.heap.size+1:=by rw [hu1];simp
 have hyu1:W.heap.size+1<=u1.heap.size:=by rw [hu1];simp
 have B1_1:Blk u1 (W.heap.size) 25 #[.slice A x.1.length c,.int .i64 x.2]:=by rw [hu1];have h:=(Blk.new W 25 #[.slice A x.1.length c,.int .i64 x.2]);simpa using h
 have xb1:W.heap.size<=W.heap.size:=by omega
 have O1:Below W.heap.size W u1:=by rw [hu1];exact ((Below.refl W.heap.size W).alloc (by first | omega | (simp;done) | (simp;omega)) _)
 have m1:W.heap.size<=u1.heap.size:=by omega
 clear hu1;have hjn:=gB A _ c x.1 F u1 (HX.out.below O1) HS.out;refine hjn.mono ?_;clear hjn;rintro e w2 ⟨A',n',c',F',rfl,-,-,hb⟩;have B2_1:=(B1_1.aa hb);have O2:=O1.trans (hb.mono (by omega))
 have m2:W.heap.size<=w2.heap.size:=by have:=hb.size;omega
 clear B1_1 O1 hb;have z2_1:W.heap.size<w2.heap.size:=B2_1.lt;have c2_1_0:w2.cell? ⟨W.heap.size,0,none⟩=some (.slice A x.1.length c):=B2_1.cell 0;have f2_1_0:w2.frozen? ⟨W.heap.size,0,none⟩=false:=B2_1.frozen 0;have c2_1_1:w2.cell? ⟨W.heap.size,1,none⟩=some (.int .i64 x.2):=B2_1.cell 1;have f2_1_1:w2.frozen? ⟨W.heap.size,1,none⟩=false:=B2_1.frozen 1
 cases hk:bu x.1
 ·have HE:Hid (svB x=false):=(show svB x=false by unfold svB;rw [hk];rfl)
  clear hk;go_wp2
  go_ret
  exact ⟨by first | exact HE.out | (rw [HE.out];rfl),O2⟩
 ·have HE:Hid (svB x=sdB x.2):=(show svB x=sdB x.2 by unfold svB;rw [hk];rfl)
  clear hk
  go_wp2_with fail
  refine (xP x.2 w2).mono ?_;rintro e w' ⟨rfl,rfl⟩;go_wp2
  go_ret
  exact ⟨by first | exact HE.out | (rw [HE.out];rfl) | rw [HE.out],O2⟩
theorem iS (W:World) (cs:List Value) (x:List (Int×List (Mx×Mx))×Int) (F:List Nat) (h:tB.P W cs x F) (hs:svS x):Calls Tryz.prog 12 #[.agg cs.toArray] W fun e w'=>e= .returned (.bool (svB x))/\Below W.heap.size W w':=by
 obtain ⟨A,c,rfl,h1⟩:=h;have HX:=Lib.hid h1;have HS:Hid (gG (kS smS) x.1):=hs;clear h1 hs
 go_enter Tryz.func12,Tryz.ntmps12
 go_wp2_with fail
 obtain ⟨u1,hu1⟩:∃ u,u=(W.alloc (.cells #[.slice A x.1.length c,.int .i64 x.2] 25)):=⟨_,rfl⟩;rw [<- hu1];have hzu1:u1.heap.size<=W.heap.size+1:=by rw [hu1];simp
 have hyu1:W.heap.size+1<=u1.heap.size:=by rw [hu1];simp
 have B1_1:Blk u1 (W.heap.size) 25 #[.slice A x.1.length c,.int .i64 x.2]:=by rw [hu1];have h:=(Blk.new W 25 #[.slice A x.1.length c,.int .i64 x.2]);simpa using h
 have xb1:W.heap.size<=W.heap.size:=by omega
 have O1:Below W.heap.size W u1:=by rw [hu1];exact ((Below.refl W.heap.size W).alloc (by first | omega | (simp;done) | (simp;omega)) _)
 have m1:W.heap.size<=u1.heap.size:=by omega
 clear hu1;have hjn:=je A _ c x.1 F u1 (HX.out.below O1) HS.out;refine hjn.mono ?_;clear hjn;rintro e w2 ⟨A',n',c',F',rfl,-,-,hb⟩;have B2_1:=(B1_1.aa hb);have O2:=O1.trans (hb.mono (by omega))
 have m2:W.heap.size<=w2.heap.size:=by have:=hb.size;omega
 clear B1_1 O1 hb;have z2_1:W.heap.size<w2.heap.size:=B2_1.lt;have c2_1_0:w2.cell? ⟨W.heap.size,0,none⟩=some (.slice A x.1.length c):=B2_1.cell 0;have f2_1_0:w2.frozen? ⟨W.heap.size,0,none⟩=false:=B2_1.frozen 0;have c2_1_1:w2.cell? ⟨W.heap.size,1,none⟩=some (.int .i64 x.2):=B2_1.cell 1;have f2_1_1:w2.frozen? ⟨W.heap.size,1,none⟩=false:=B2_1.frozen 1
 cases hk:bu x.1
 ·have HE:Hid (svB x=false):=(show svB x=false by unfold svB;rw [hk];rfl)
  clear hk;go_wp2
  go_ret
  exact ⟨by first | exact HE.out | (rw [HE.out];rfl),O2⟩
 ·have HE:Hid (svB x=sdB x.2):=(show svB x=sdB x.2 by unfold svB;rw [hk];rfl)
  clear hk
  go_wp2_with fail
  refine (pJ x.2 w2).mono ?_;rintro e w' ⟨rfl,rfl⟩;go_wp2
  go_ret
  exact ⟨by first | exact HE.out | (rw [HE.out];rfl) | rw [HE.out],O2⟩
section
attribute [local go_sem] af ah ae
def nm (r c:Int):Nat:=(r*c).toNat
def cT (r c s:Int):Mx:=⟨r,c,fl (rn s) (nm r c)⟩
def cH (m:Mx) (s:Int):(Mx×Mx)×Int:=if (mvB m && sdB s)=true then ((cT m.r m.c s,aE bC m (cT m.r m.c s)),sds s (nm m.r m.c)) else ((Mx.z,Mx.z),0)
theorem lS {m:Mx} {s:Int} (h1:mvB m=true) (h2:sdB s=true):cH m s=((cT m.r m.c s,aE bC m (cT m.r m.c s)),sds s (nm m.r m.c)):=by unfold cH;rw [h1,h2];rfl
theorem xk {m:Mx} {s:Int} (h:(mvB m && sdB s)=false):cH m s=((Mx.z,Mx.z),0):=by unfold cH;rw [h];rfl
theorem dH {s:Int} (h:sdB s=true):1<=s/\s<=2147483646:=of_decide_eq_true h
theorem zh {r c:Int} (h1:side r=true) (h2:side c=true):r*c=(nm r c:Int)/\1<=nm r c/\nm r c<=25:=by
 have:=e6 h1 h2;unfold nm
 omega
theorem cz (n:Int) {b:Bool} (h:sdB n=b) (w:World):Calls Tryz.prog 53 #[.int .i64 n,.int .i64 1,.int .i64 2147483646] w fun e w'=>e= .returned (.bool b)/\w=w':=by
 subst h
 exact pJ n w
def ij (m:Mx) (k:Int) (w:World) (e:Ending) (w':World):Prop:=∃ (A:Option Addr) (c:Nat),e= .returned (.tuple #[MV m.r m.c A m.v.length c,.int .i64 k])/\OS w' w.heap.size A m.v.length c m.v/\Below w.heap.size w w'
def Fh {α:Type} (E:Elt α) (x:α) (k:Int) (w:World) (e:Ending) (w':World):Prop:=∃ cs F,e= .returned (.tuple #[.agg cs.toArray,.int .i64 k])/\E.P w' cs x F/\Fr w' w.heap.size F/\Below w.heap.size w w'
def vB (p:Mx×Mx) (k:Int) (w:World) (e:Ending) (w':World):Prop:=∃ (A B:Option Addr) (c d:Nat),e= .returned (.tuple #[SMV p.1.r p.1.c A p.1.v.length c p.2.r p.2.c B p.2.v.length d,.int .i64 k])/\OS w' w.heap.size A p.1.v.length c p.1.v/\OS w' w.heap.size B p.2.v.length d p.2.v/\eJ A B/\Below w.heap.size w w'
theorem b9 {r c s:Int} (hr:side r=true) (hc:side c=true) (hs:sdB s=true) (w:World):Calls Tryz.prog 93 #[.int .i64 r,.int .i64 c,.int .i64 s] w (ij (cT r c s) (sds s (nm r c)) w):=by
 have hsd:=dH hs;obtain ⟨h1,h2,h3⟩:=zh hr hc;obtain ⟨n,hnm⟩:∃ n,n=nm r c:=⟨_,rfl⟩;rw [<- hnm] at h1 h2 h3;have HNM:=Lib.hid hnm;have hn:n<=4096:=by omega
 have hwN:IntKind.i64.wrap (r*c)=(n:Int):=by rw [h1];exact IntWalk.i64_in _ (by omega)
 clear hnm h1;refine zE ?_;intro u1 H;refine zP (cz s hs u1) ?_;clear H;intro u2 H;refine zP (aT r hr u2) ?_;clear H;intro u3 H;refine zP (aT c hc u3) ?_;clear H;intro u4 H;refine zO (kQ hsd n hn u4) ?_;clear H;intro w5 A ca u5 H;refine zS_ ?_;clear H;intro u6 H
 exact ⟨A,ca,by rw [HNM.out];simp [cT,aD,<- HNM.out],by simp only [cT,aD];rw [<- HNM.out];exact (H.o 0),H.O⟩
theorem e_ (W:World) (cs:List Value) (m:Mx) (F:List Nat) (h:mxE.P W cs m F) (hb:mS m) (s:Int):Calls Tryz.prog 45 #[.agg cs.toArray,.int .i64 s] W (vB (cH m s).1 (cH m s).2 W):=by
 obtain ⟨A,c,rfl,h1⟩:=h;have HX:=Lib.hid h1.1;clear h1;unfold mS at hb;have hmS:=hb;obtain ⟨w,rfl⟩:∃ w:World,w=W:=⟨_,rfl⟩;refine zE ?_;intro u1 H;refine zG (aQ m.r m.c m.v A _ c u1 (SI.below HX.out H.O) hmS) ?_;rintro e w2 ⟨Aa,ca,rfl,hos,hb⟩;replace H:=H.os hb hos;clear hos
 dsimp only at H ⊢
 refine zN ?_;clear H;intro u3 H;refine zG (aM m.r m.c m.v Aa _ ca u3 (OS.si (H.o 0)) (by omega)) ?_
 rintro e w4 ⟨rfl,hb⟩;replace H:=H.b hb
 cases g1:mvB ⟨m.r,m.c,m.v⟩
 ·have HE:Hid (cH m s=((Mx.z,Mx.z),0)):=xk (by have:mvB m=false:=g1;rw [this];rfl)
  refine zS_ ?_;clear H;intro u5 H
  exact (by rw [HE.out];exact ⟨none,none,0,0,rfl,OS.nil _ _,OS.nil _ _,fun g h=>by (cases h),H.O⟩)
 ·cases g2:sdB s
  ·refine zN ?_;clear H;intro u5 H;refine zP (cz s g2 u5) ?_;clear H;intro u6 H;have HE:Hid (cH m s=((Mx.z,Mx.z),0)):=xk (by rw [g2,Bool.and_false])
   refine zS_ ?_;clear H;intro u7 H
   exact (by rw [HE.out];exact ⟨none,none,0,0,rfl,OS.nil _ _,OS.nil _ _,fun g h=>by (cases h),H.O⟩)
  ·refine zN ?_;clear H;intro u5 H;refine zP (cz s g2 u5) ?_;clear H;intro u6 H;obtain ⟨hsr,hsc⟩:side m.r=true/\side m.c=true:=⟨(cZ (m:=m) g1).2.1,(cZ (m:=m) g1).2.2.1⟩;have HE:Hid (cH m s=((cT m.r m.c s,aE bC m (cT m.r m.c s)),sds s (nm m.r m.c))):=lS (m:=m) g1 g2;obtain ⟨R,hR⟩:∃ R,R=cT m.r m.c s:=⟨_,rfl⟩;obtain ⟨k,hk⟩:∃ k,k=sds s (nm m.r m.c):=⟨_,rfl⟩;have HRM:Hid (∀ u:World,Calls Tryz.prog 93 #[.int .i64 m.r,.int .i64 m.c,.int .i64 s] u (fun e w'=>∃ (A:Option Addr) (c:Nat),e= .returned (.tuple #[MV m.r m.c A R.v.length c,.int .i64 k])/\OS w' u.heap.size A R.v.length c R.v/\Below u.heap.size u w')):=by rw [hR,hk];exact fun u=>b9 hsr hsc g2 u
   have hRr:R.r=m.r/\R.c=m.c/\R.v.length<=25:=by rw [hR];exact ⟨rfl,rfl,by simp only [cT,aD];exact (zh hsr hsc).2.2⟩
   obtain ⟨hRr,hRc,hRl⟩:=hRr;rw [<- hR,<- hk] at HE;obtain ⟨D,hD⟩:∃ D,D=aE bC m R:=⟨_,rfl⟩;rw [<- hD] at HE;have HSB:Hid (∀ (u:World) (Ax:Option Addr) (cx:Nat) (Ay:Option Addr) (cy:Nat),SI u Ax m.v.length m.v->SI u Ay R.v.length R.v->Calls Tryz.prog 94 #[MV m.r m.c Ax m.v.length cx,MV m.r m.c Ay R.v.length cy] u (bD D u)):=fun u Ax cx Ay cy h1 h2=>by
    have h:=jx m.r m.c m.r m.c m.v R.v Ax Ay _ cx _ cy u h1 h2 hmS (by omega)
    rw [hD];have e:(⟨m.r,m.c,R.v⟩:Mx)=R:=by rw [<- hRr,<- hRc]
    rw [e] at h
    exact h
   clear hR hk hsr hsc g1 g2 hD;refine zO (HRM.out u6) ?_;clear H;intro w7 Ar cr u7 H;refine zX (tg [w7.heap.size,w.heap.size]) ?_;clear H;intro S w8 hne H;refine zD ((And.intro (H.c 0) (H.c 4))) ?_;intro G;refine yO (HSB.out w8 Aa ca Ar cr (OS.si (H.o 2)) (OS.si (H.o 1))) ?_;clear H;intro w9 Ad cd H;refine yS ?_;clear H;intro w10 H;refine yN ?_;clear H G;intro u11 H;refine zS_ ?_;clear H;intro u12 H
   exact (by rw [HE.out];exact ⟨Ar,Ad,cr,cd,by first | (rw [hRr,hRc];done) | (rw [hRr,hRc];rfl),(H.o 2),(H.o 0),fun g h1 h2=>H.noo 0 2 g h2 h1,H.O⟩)
theorem D9 (W:World) (cs:List Value) (m:Mx) (F:List Nat) (h:mxE.P W cs m F) (hb:mS m) (s:Int):Calls Tryz.prog 45 #[.agg cs.toArray,.int .i64 s] W (Fh smE (cH m s).1 (cH m s).2 W) :=
 (e_ W cs m F h hb s).mono fun e w' ⟨A,B,c,d,he,h1,h2,h3,hb⟩=>⟨[.int .i64 (cH m s).1.1.r,.int .i64 (cH m s).1.1.c,.slice A (cH m s).1.1.v.length c,.int .i64 (cH m s).1.2.r,.int .i64 (cH m s).1.2.c,.slice B (cH m s).1.2.v.length d],_,he,⟨A,c,B,d,_,_,rfl,MF.aB h1,MF.aB h2,rfl⟩,Fr.app (ek h1) (ek h2) (fun g a b=>h3 g (bz a).2 (bz b).2),hb⟩
end
@[reducible] def T2 (a b:Int):Value:= .agg #[.int .i64 a,.int .i64 b]
def sv (a b:Int):Bool:=rv a && rv b
theorem fY {a b:Int} (h:sv a b=true):(0<=a/\a<=4095)/\0<=b/\b<=4095:=by
 simp only [sv,Bool.and_eq_true] at h
 exact ⟨kJ h.1,kJ h.2⟩
theorem fX {a b:Int} (h1:0<=a/\a<=4095) (h2:0<=b/\b<=4095):sv a b=true:=by simp [sv,aR h1,aR h2]
theorem dX {x y:Int} (h1:0<=x/\x<=4095) (h2:0<=y/\y<=4095):aJ x y=(x+y)%4096:=by simp [aJ,aR h1,aR h2]
theorem qL {x y:Int} (h1:0<=x/\x<=4095) (h2:0<=y/\y<=4095):bC x y=(x-y)%4096:=by simp [bC,aR h1,aR h2]
def bd (v:Bool) (x:Int):Int:=if v=true then x else -1
theorem oO (a b:Int) (w:World):Calls Tryz.prog 285 #[T2 a b] w fun e w'=>e= .returned (.bool (sv a b))/\Below w.heap.size w w':=by
 cases h1:rv a <;> cases h2:rv b
 all_goals
  go_enter Tryz.func285,Tryz.ntmps285
  go_wp2_with (go_at_call 54;refine (iL _ _).mono ?_;rintro e w' ⟨rfl,rfl⟩)
  go_ret
  exact ⟨by simp [sv,h1,h2],(by repeat (first | assumption | exact Below.refl _ _ | apply Below.drew | (refine Below.setCell ?_ (by (first | omega | (simp <;> omega))) _) | (refine Below.alloc ?_ (by (first | omega | (simp <;> omega))) _) | (refine bp (by assumption) (by (first | omega | (simp <;> omega))) ?_)))⟩
theorem bQ {a b:Int} (h:sv a b=true) (w:World):Calls Tryz.prog 285 #[T2 a b] w fun e w'=>e= .returned (.bool true)/\Below w.heap.size w w':=by
 have:=oO a b w
 rwa [h] at this
theorem DZ (a b:Int) (w:World):Calls Tryz.prog 230 #[T2 a b] w fun e w'=>e= .returned (.bool (sv a b))/\Below w.heap.size w w':=by
 cases h1:rv a <;> cases h2:rv b
 all_goals
  go_enter Tryz.func230,Tryz.ntmps230
  go_wp2_with (go_at_call 133;refine (iQ _ _).mono ?_;rintro e w' ⟨rfl,rfl⟩)
  go_ret
  exact ⟨by simp [sv,h1,h2],(by repeat (first | assumption | exact Below.refl _ _ | apply Below.drew | (refine Below.setCell ?_ (by (first | omega | (simp <;> omega))) _) | (refine Below.alloc ?_ (by (first | omega | (simp <;> omega))) _) | (refine bp (by assumption) (by (first | omega | (simp <;> omega))) ?_)))⟩
theorem a8 {a b:Int} (h:sv a b=true) (w:World):Calls Tryz.prog 230 #[T2 a b] w fun e w'=>e= .returned (.bool true)/\Below w.heap.size w w':=by
 have:=DZ a b w
 rwa [h] at this
theorem oV {a b c d:Int} (h:sv a b=true) (h2:sv c d=true) (w:World):Calls Tryz.prog 233 #[T2 a b,T2 c d] w fun e w'=>e= .returned (T2 ((a+c)%4096) ((b+d)%4096))/\Below w.heap.size w w':=by
 obtain ⟨ha,hb⟩:=fY h;obtain ⟨hc,hd⟩:=fY h2
 go_enter Tryz.func233,Tryz.ntmps233
 go_wp2_with fail
 refine (a8 h _).mono ?_;rintro e w1 ⟨rfl,hb1⟩;obtain ⟨hc1,hf1⟩:=tM hb1;have hs1:=hb1.size
 try simp at hs1
 have z1:w.heap.size<w1.heap.size:=by omega
 have z1':w.heap.size+1<w1.heap.size:=by omega
 have z1'':w.heap.size+1+1<w1.heap.size:=by omega
 clear hs1
 go_wp2_with fail
 refine (a8 h2 _).mono ?_;rintro e w2 ⟨rfl,hb2⟩;obtain ⟨hc2,hf2⟩:=tM hb2;have hs2:=hb2.size
 try simp at hs2
 have z2:w.heap.size<w2.heap.size:=by omega
 have z2':w.heap.size+1<w2.heap.size:=by omega
 have z2'':w.heap.size+1+1<w2.heap.size:=by omega
 clear hs2;have e1:IntKind.i64.wrap (a+c)=a+c:=IntWalk.i64_in _ (by omega)
 have e2:IntKind.i64.wrap (b+d)=b+d:=IntWalk.i64_in _ (by omega)
 have q0:w2.cell? ⟨w.heap.size,0,none⟩=some (.int .i64 a):=by
  rw [hc2 _ _ (by first | omega | assumption),hc1 _ _ (by simp <;> omega)]
  simp [go_sem,World.cell?_alloc_past]
 have q1:w2.cell? ⟨w.heap.size,1,none⟩=some (.int .i64 b):=by
  rw [hc2 _ _ (by first | omega | assumption),hc1 _ _ (by simp <;> omega)]
  simp [go_sem,World.cell?_alloc_past]
 have q2:w2.cell? ⟨w.heap.size+1,0,none⟩=some (.int .i64 c):=by
  rw [hc2 _ _ (by first | omega | assumption),hc1 _ _ (by simp <;> omega)]
  simp [go_sem,World.cell?_alloc_past]
 have q3:w2.cell? ⟨w.heap.size+1,1,none⟩=some (.int .i64 d):=by
  rw [hc2 _ _ (by first | omega | assumption),hc1 _ _ (by simp <;> omega)]
  simp [go_sem,World.cell?_alloc_past]
 go_wp2_with fail
 go_region_held3 (fun w'=>w'.cell? ⟨w.heap.size,0,none⟩=some (.int .i64 a)/\w'.cell? ⟨w.heap.size,1,none⟩=some (.int .i64 b)/\w'.cell? ⟨w.heap.size+1,0,none⟩=some (.int .i64 c)/\w'.cell? ⟨w.heap.size+1,1,none⟩=some (.int .i64 d)) (first | (simp [go_sem,q0,q1,q2,q3];done) | exact ⟨q0,q1,q2,q3⟩)
  ((go_at_call 132;refine (bG _ _).mono ?_;rintro e w' ⟨rfl,rfl⟩))
 all_goals
  go_wp2
  exact bodyPost_ret (v:=T2 ((a+c)%4096) ((b+d)%4096)) (by simp [results,Tryz.results233,go_sem,T2,hc1,hf1,z1,z1',z1'',hc2,hf2,z2,z2',z2'']) rfl ⟨rfl,(by repeat (first | assumption | exact Below.refl _ _ | apply Below.drew | (refine Below.setCell ?_ (by (first | omega | (simp <;> omega))) _) | (refine Below.alloc ?_ (by (first | omega | (simp <;> omega))) _) | (refine bp (by assumption) (by (first | omega | (simp <;> omega))) ?_)))⟩
theorem jy {a b c d:Int} (h:sv a b=true) (h2:sv c d=true) (w:World):Calls Tryz.prog 267 #[T2 a b,T2 c d] w fun e w'=>e= .returned (T2 ((a-c)%4096) ((b-d)%4096))/\Below w.heap.size w w':=by
 obtain ⟨ha,hb⟩:=fY h;obtain ⟨hc,hd⟩:=fY h2
 go_enter Tryz.func267,Tryz.ntmps267
 go_wp2_with fail
 refine (a8 h _).mono ?_;rintro e w1 ⟨rfl,hb1⟩;obtain ⟨hc1,hf1⟩:=tM hb1;have hs1:=hb1.size
 try simp at hs1
 have z1:w.heap.size<w1.heap.size:=by omega
 have z1':w.heap.size+1<w1.heap.size:=by omega
 have z1'':w.heap.size+1+1<w1.heap.size:=by omega
 clear hs1
 go_wp2_with fail
 refine (a8 h2 _).mono ?_;rintro e w2 ⟨rfl,hb2⟩;obtain ⟨hc2,hf2⟩:=tM hb2;have hs2:=hb2.size
 try simp at hs2
 have z2:w.heap.size<w2.heap.size:=by omega
 have z2':w.heap.size+1<w2.heap.size:=by omega
 have z2'':w.heap.size+1+1<w2.heap.size:=by omega
 clear hs2;have e1:IntKind.i64.wrap (a-c)=a-c:=IntWalk.i64_in _ (by omega)
 have e2:IntKind.i64.wrap (b-d)=b-d:=IntWalk.i64_in _ (by omega)
 have q0:w2.cell? ⟨w.heap.size,0,none⟩=some (.int .i64 a):=by
  rw [hc2 _ _ (by first | omega | assumption),hc1 _ _ (by simp <;> omega)]
  simp [go_sem,World.cell?_alloc_past]
 have q1:w2.cell? ⟨w.heap.size,1,none⟩=some (.int .i64 b):=by
  rw [hc2 _ _ (by first | omega | assumption),hc1 _ _ (by simp <;> omega)]
  simp [go_sem,World.cell?_alloc_past]
 have q2:w2.cell? ⟨w.heap.size+1,0,none⟩=some (.int .i64 c):=by
  rw [hc2 _ _ (by first | omega | assumption),hc1 _ _ (by simp <;> omega)]
  simp [go_sem,World.cell?_alloc_past]
 have q3:w2.cell? ⟨w.heap.size+1,1,none⟩=some (.int .i64 d):=by
  rw [hc2 _ _ (by first | omega | assumption),hc1 _ _ (by simp <;> omega)]
  simp [go_sem,World.cell?_alloc_past]
 go_wp2_with fail
 go_region_held3 (fun w'=>w'.cell? ⟨w.heap.size,0,none⟩=some (.int .i64 a)/\w'.cell? ⟨w.heap.size,1,none⟩=some (.int .i64 b)/\w'.cell? ⟨w.heap.size+1,0,none⟩=some (.int .i64 c)/\w'.cell? ⟨w.heap.size+1,1,none⟩=some (.int .i64 d)) (first | (simp [go_sem,q0,q1,q2,q3];done) | exact ⟨q0,q1,q2,q3⟩)
  ((go_at_call 132;refine (bG _ _).mono ?_;rintro e w' ⟨rfl,rfl⟩))
 all_goals
  go_wp2
  exact bodyPost_ret (v:=T2 ((a-c)%4096) ((b-d)%4096)) (by simp [results,Tryz.results267,go_sem,T2,hc1,hf1,z1,z1',z1'',hc2,hf2,z2,z2',z2'']) rfl ⟨rfl,(by repeat (first | assumption | exact Below.refl _ _ | apply Below.drew | (refine Below.setCell ?_ (by (first | omega | (simp <;> omega))) _) | (refine Below.alloc ?_ (by (first | omega | (simp <;> omega))) _) | (refine bp (by assumption) (by (first | omega | (simp <;> omega))) ?_)))⟩
theorem bL (a b:Int) (w:World):Calls Tryz.prog 284 #[T2 a b] w fun e w'=>e= .returned (.int .i64 (aJ a b))/\Below w.heap.size w w':=by
 go_enter Tryz.func284,Tryz.ntmps284
 go_wp2_with fail
 refine (iX a b _).mono ?_;rintro e w' ⟨rfl,rfl⟩;go_wp2
 go_ret
 exact ⟨rfl,(by repeat (first | assumption | exact Below.refl _ _ | apply Below.drew | (refine Below.setCell ?_ (by (first | omega | (simp <;> omega))) _) | (refine Below.alloc ?_ (by (first | omega | (simp <;> omega))) _) | (refine bp (by assumption) (by (first | omega | (simp <;> omega))) ?_)))⟩
theorem bV (a b:Int) (w:World):Calls Tryz.prog 229 #[T2 a b] w fun e w'=>e= .returned (.int .i64 (aJ a b))/\Below w.heap.size w w':=by
 go_enter Tryz.func229,Tryz.ntmps229
 go_wp2_with fail
 refine (pG a b _).mono ?_;rintro e w' ⟨rfl,rfl⟩;go_wp2
 go_ret
 exact ⟨rfl,(by repeat (first | assumption | exact Below.refl _ _ | apply Below.drew | (refine Below.setCell ?_ (by (first | omega | (simp <;> omega))) _) | (refine Below.alloc ?_ (by (first | omega | (simp <;> omega))) _) | (refine bp (by assumption) (by (first | omega | (simp <;> omega))) ?_)))⟩
@[reducible] def T6 (a b c d e f:Int):Value:= .agg #[.int .i64 a,.int .i64 b,.int .i64 c,.int .i64 d,.int .i64 e,.int .i64 f]
theorem pj (a b c d e f:Int) (w:World):Calls Tryz.prog 299 #[T6 a b c d e f] w fun x w'=>x= .returned (.int .i64 (mulR (aJ a b) (aJ c d)))/\Below w.heap.size w w':=by
 refine zE ?_;intro u1 H;refine zX (tg [w.heap.size]) ?_;clear H;intro S w2 hne H;refine zD (H.c 0) ?_;intro G;refine yB (bL _ _ w2) ?_;clear H;intro w3 H;refine yB (bL _ _ w3) ?_;clear H;intro w4 H;refine yP (uN _ _ w4) ?_;refine yN ?_;clear H G;intro u5 H;refine zR ?_;clear H;intro u6 H
 exact ⟨rfl,H.O⟩
theorem oP {x r:Int} (hx:0<=x/\x<=4095) (hr:0<=r/\r<=4095) (w:World):Calls Tryz.prog 298 #[.int .i64 x,.int .i64 r] w fun e w'=>e= .returned (T2 r ((x-r)%4096))/\Below w.heap.size w w':=by
 have H9:=gD x r;rw [show bC x r=(x-r)%4096 from qL hx hr] at H9
 refine zE ?_;intro u1 H;refine zP (an _ hx u1) ?_;clear H;intro u2 H;refine zP (an _ hr u2) ?_;clear H;intro u3 H;refine zP (H9 u3) ?_;clear H;intro u4 H;refine zS_ ?_;clear H;intro u5 H
 exact ⟨rfl,H.O⟩
theorem o7 {x r:Int} (hx:0<=x/\x<=4095) (hr:0<=r/\r<=4095) (w:World):Calls Tryz.prog 264 #[.int .i64 x,.int .i64 r] w fun e w'=>e= .returned (T2 r ((x-r)%4096))/\Below w.heap.size w w':=by
 have q1:=IntWalk.i64_in (x-r) (by omega)
 refine zE ?_;intro u1 H;refine zP (ak _ hx u1) ?_;clear H;intro u2 H;refine zP (ak _ hr u2) ?_;clear H;intro u3 H;refine zP (bG _ u3) ?_;clear H;intro u4 H;refine zS_ ?_;clear H;intro u5 H
 exact ⟨rfl,H.O⟩
theorem oR {a b c d e f:Int} (h1:sv a b=true) (h2:sv c d=true) (h3:sv e f=true) (h4:aJ e f=mulR (aJ a b) (aJ c d)) (w:World):Calls Tryz.prog 300 #[T6 a b c d e f] w fun x w'=>x= .returned (.bool true)/\Below w.heap.size w w':=by
 refine zE ?_;intro u1 H;refine zB (bQ h1 u1) ?_;clear H;intro w2 u2 H;refine zB (bQ h2 u2) ?_;clear H;intro w3 u3 H;refine zB (bQ h3 u3) ?_;clear H;intro w4 u4 H;refine zX (tg [w.heap.size]) ?_;clear H;intro S w5 hne H;refine zD (H.c 0) ?_;intro G;refine yB (bL _ _ w5) ?_;clear H;intro w6 H;refine yB (pj _ _ _ _ _ _ w6) ?_;clear H;intro w7 H;refine yN ?_;clear H G;intro u8 H;refine zR ?_;clear H;intro u9 H
 exact ⟨by simp [h4],H.O⟩
theorem o8 {a b c d e f:Int} (h1:sv a b=true) (h2:sv c d=true) (h3:sv e f=true) (h4:aJ e f=mulR (aJ a b) (aJ c d)) (w:World):Calls Tryz.prog 266 #[T6 a b c d e f] w fun x w'=>x= .returned (.bool true)/\Below w.heap.size w w':=by
 refine zE ?_;intro u1 H;refine zX (tg [w.heap.size]) ?_;clear H;intro S w2 hne H;refine zD (H.c 0) ?_;intro G;refine yB (a8 h1 w2) ?_;clear H;intro w3 H;refine yB (a8 h2 w3) ?_;clear H;intro w4 H;refine yL ?_;refine yB (a8 h3 w4) ?_;clear H;intro w5 H;refine yL ?_;refine yB (bV _ _ w5) ?_;clear H;intro w6 H;refine yB (bV _ _ w6) ?_;clear H;intro w7 H;refine yB (bV _ _ w7) ?_;clear H;intro w8 H;refine yP (pH _ _ w8) ?_;refine yL ?_;refine yN ?_;clear H G;intro u9 H;refine zR ?_;clear H;intro u10 H
 exact ⟨by simp [h4],H.O⟩
end Go.Proofs.YtjciicheoghcdaaGreatDoor

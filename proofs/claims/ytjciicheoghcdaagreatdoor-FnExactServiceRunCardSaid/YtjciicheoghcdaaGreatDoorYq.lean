/- Part of the proof that the law FnExactServiceRun of the given program returns true for every input. -/
import Derived.Deep.AppendLies
import Derived.Test.YtjciicheoghcdaaGreatDoorYd
import Derived.Test.YtjciicheoghcdaaGreatDoorYg
import Derived.Test.YtjciicheoghcdaaGreatDoorYj
import Derived.Test.YtjciicheoghcdaaGreatDoorYo
import Derived.Test.YtjciicheoghcdaaGreatDoorYp
namespace Go.Proofs.YtjciicheoghcdaaGreatDoor
open Go.RowKit
set_option linter.unusedSimpArgs false
set_option linter.unusedVariables false
set_option maxRecDepth 20000
set_option maxHeartbeats 16000000
section
attribute [local go_sem] af ah ae
theorem RI.raw {α:Type} {E:Elt α} {w:World} {A:Option Addr} {n cap:Nat} {xs:List α} {F:List Nat} (h:RI E w A n cap xs F):∃ css F',dJ E w css xs F'/\(∀ g,g∈F'->g∈F)/\(0<n->∃ b off,A=some ⟨b,off,none⟩/\b<w.heap.size/\∀ j u,css.flatten[j]?=some u->w.cell? ⟨b,off+j,none⟩=some u):=by
 obtain ⟨h1,h2,h3,h4 | ⟨b,off,css,F',rfl,hb,rfl,he,hc⟩⟩:=h
 ·obtain rfl:=h4.1;obtain rfl:xs=[]:=List.eq_nil_of_length_eq_zero h1
  exact ⟨[],[],rfl,(fun g hg=>by cases hg),fun h=>absurd h (by omega)⟩
 ·refine ⟨css,F',he,fun g hg=>List.mem_cons_of_mem _ hg,fun _=>⟨b,off,rfl,hb,fun j u hj=> ?_⟩⟩
  have hl:=he.lens;have hs:0<E.s:=by
   rcases Nat.eq_zero_or_pos E.s with h0 | h0
   ·have:css.flatten.length=0:=by rw [dS he,h0,Nat.mul_zero]
    rw [List.eq_nil_of_length_eq_zero this] at hj
    cases hj
   ·exact h0
  have hjl:=(List.getElem?_eq_some_iff.1 hj).1;rw [dS he,<- he.length] at hjl;have hi:j/E.s<css.length:=(Nat.div_lt_iff_lt_mul hs).2 hjl;have hg:=iG (rest:=[]) hl (j/E.s) css[j/E.s] (List.getElem?_eq_getElem hi) (j%E.s) (Nat.mod_lt _ hs);have hc2:=hc (j/E.s) css[j/E.s] (List.getElem?_eq_getElem hi) (j%E.s) (Nat.mod_lt _ hs);rw [<- hg] at hc2;rw [List.append_nil] at hc2;rw [show j/E.s*E.s+j%E.s=j by rw [Nat.mul_comm];exact Nat.div_add_mod j E.s] at hc2
  rw [hc2,hj]
def One {α:Type} (E:Elt α):Prop:=∀ w cs x F,E.P w cs x F->∀ u,u∈cs->u.oneCell'=true
theorem AS:One smE:=by
 rintro w cs p F ⟨A,c,B,d,F1,F2,rfl,_⟩ u hu
 simp at hu;rcases hu with rfl | rfl | rfl | rfl | rfl | rfl <;> rfl
theorem BV {α:Type} (E:Elt α):One (kE E):=by
 rintro w cs p F ⟨A,c,rfl,_⟩ u hu
 simp at hu;rcases hu with rfl | rfl <;> rfl
theorem dJ.one {α:Type} {E:Elt α} (h:One E) {w:World}:∀ {css:List (List Value)} {xs:List α} {F:List Nat},dJ E w css xs F->∀ u,u∈css.flatten->u.oneCell'=true:=by
 intro css xs F he u hu;obtain ⟨cs,hcs,hu⟩:=List.mem_flatten.1 hu;obtain ⟨i,hi,rfl⟩:=List.mem_iff_getElem.1 hcs;have hx:i<xs.length:=by rw [<- he.length];exact hi
 obtain ⟨cs',F',h1,_,h3⟩:=he.at i xs[i] (List.getElem?_eq_getElem hx);rw [List.getElem?_eq_getElem hi] at h1;injection h1 with h1;rw [<- h1] at h3
 exact h _ _ _ _ h3 u hu
def Bm {α:Type} (E:Elt α) (T:TypeId) (n:Nat) (xs:List α) (w0 w:World) (e:Ending) (w':World):Prop:=∃ A c css F,e= .returned (.slice A n c)/\VO w' w.heap.size T E.s A n c css.flatten/\dJ E w0 css xs F/\Below w.heap.size w w'
theorem uJ {xs:List _} {n cap:Nat} {A:Option Addr} {F:List Nat} (w0 w:World) (hx:RI (kE smE) w0 A n cap xs F) (hbw:Below w0.heap.size w0 w) (hn:n<=1000):Calls Tryz.prog 80 #[.slice A n cap] w (Bm (kE smE) 99 n xs w0 w):=by
 obtain ⟨i0,hi,hz0,hz1,hz2⟩:=info_parts nJ;have heq:∀ W:World,(binOp .eql 23 (.slice A n cap) (.slice none 0 0)).run Tryz.prog W= .ok (.bool A.isNone) W:=fun W=>Lib.run_eql_slice_nil W _ _ _ _ _ _ _ rfl
 obtain ⟨css,F',he,-,hr⟩:=hx.raw;have hlen:=dS he;rw [hx.len] at hlen
 by_cases n0:n=0
 ·subst n0;have hc0:css.flatten=[]:=List.eq_nil_of_length_eq_zero (by rw [hlen,Nat.zero_mul])
  clear hr hx hlen hbw
  cases A with
  | none =>
   go_enter Tryz.func80,Tryz.ntmps80
   go_wp2
   go_ret
   exact ⟨none,0,css,F',rfl,by rw [hc0];exact VO.nil _ _ _ _,he,Below.refl _ _⟩
  | some a =>
   go_enter Tryz.func80,Tryz.ntmps80
   go_wp2
   go_ret
   exact ⟨_,_,css,F',rfl,by rw [hc0];exact VO.kG w (Nat.le_refl _) _ _,he,(Below.refl _ _).alloc (Nat.le_refl _) _⟩
 ·obtain ⟨b,off,rfl,hb,hc⟩:=hr (by omega)
  obtain ⟨u,hu⟩:∃ u,u=w.alloc (.cells #[] 99):=⟨_,rfl⟩;have O:Below w.heap.size w u:=Below.cast hu ((Below.refl _ _).alloc (Nat.le_refl _) _);have HO:Hid (VO u w.heap.size 99 2 (some ⟨w.heap.size,0,none⟩) 0 0 []):=by rw [hu];exact VO.kG w (Nat.le_refl _) _ _
  have HC:Hid (∀ j v,css.flatten[j]?=some v->u.cell? ((⟨b,off,none⟩:Addr).add j)=some v):=fun j v hv=>by
   have hadd:(⟨b,off,none⟩:Addr).add j=⟨b,off+j,none⟩:=by unfold Addr.add;split <;> simp_all
   rw [hadd]
   exact ((hbw.trans (O.mono hbw.size)).cell (p:=⟨b,off+j,none⟩) hb).trans (hc j v hv)
  have H1:=Lib.hid (he.one (BV smE));have HE:=Lib.hid he;have HL:Hid (css.flatten.length=n*2):=hlen;have HU:=Lib.hid O;have HUE:=Lib.hid hu;have n1:0<n:=by omega
  have zb:b<u.heap.size:=by have:=hbw.size;have:=O.size;omega
  have H2:Hid (0+n<=maxLen):=by unfold maxLen;show 0+n<=_;omega
  have H3:Hid ((0+n)*32<=140737488355328):=by show (0+n)*32<=_;omega
  clear hc hx hlen he O hu hbw hr
  go_enter Tryz.func80,Tryz.ntmps80
  go_wp2_with (at_builtin;(try rw [<- HUE.out]);refine wpList_append_lies u rfl _ _ _ (by rfl) w.heap.size 99 i0 (.agg #[.int .i64 0,.slice none 0 0]) 2 32 Tryz.underlying23 hi hz0 hz1 hz2 rfl (by omega) (.slice (some ⟨w.heap.size,0,none⟩) 0 0) 0 [] (by rfl) HO.out ⟨b,off,none⟩ n cap css.flatten (by rfl) HL.out HC.out H1.out n1 H2.out H3.out HU.out.size u.heap.size rfl ?_)
  intro g c w2 hown hgr hat hlt;have O2:Below w.heap.size w w2:=HU.out.trans (bJ.toBelow (A:=some ⟨w.heap.size,0,none⟩) (by unfold bJ;rw [<- aO (some ⟨w.heap.size,0,none⟩) 0 0];exact hgr) (B:=w.heap.size) (fun g hg=>by injection hg with hg;subst hg;exact Nat.le_refl _) HU.out.size)
  have HW:Hid (VO w2 w.heap.size 99 2 (some ⟨g,0,none⟩) n c css.flatten):=by
   have h:=hown
   (try simp only [List.nil_append,Nat.zero_add] at h)
   exact h
  clear hown hgr hat hlt HO HC H1 HU HUE heq;go_wp2
  go_ret
  exact ⟨some ⟨g,0,none⟩,c,css,F',by simp,HW.out,HE.out,O2⟩
theorem uK {xs:List _} {n cap:Nat} {A:Option Addr} {F:List Nat} (w0 w:World) (hx:RI (smE) w0 A n cap xs F) (hbw:Below w0.heap.size w0 w) (hn:n<=1000):Calls Tryz.prog 81 #[.slice A n cap] w (Bm (smE) 82 n xs w0 w):=by
 obtain ⟨i0,hi,hz0,hz1,hz2⟩:=info_parts lq;have heq:∀ W:World,(binOp .eql 97 (.slice A n cap) (.slice none 0 0)).run Tryz.prog W= .ok (.bool A.isNone) W:=fun W=>Lib.run_eql_slice_nil W _ _ _ _ _ _ _ rfl
 obtain ⟨css,F',he,-,hr⟩:=hx.raw;have hlen:=dS he;rw [hx.len] at hlen
 by_cases n0:n=0
 ·subst n0;have hc0:css.flatten=[]:=List.eq_nil_of_length_eq_zero (by rw [hlen,Nat.zero_mul])
  clear hr hx hlen hbw
  cases A with
  | none =>
   go_enter Tryz.func81,Tryz.ntmps81
   go_wp2
   go_ret
   exact ⟨none,0,css,F',rfl,by rw [hc0];exact VO.nil _ _ _ _,he,Below.refl _ _⟩
  | some a =>
   go_enter Tryz.func81,Tryz.ntmps81
   go_wp2
   go_ret
   exact ⟨_,_,css,F',rfl,by rw [hc0];exact VO.kG w (Nat.le_refl _) _ _,he,(Below.refl _ _).alloc (Nat.le_refl _) _⟩
 ·obtain ⟨b,off,rfl,hb,hc⟩:=hr (by omega)
  obtain ⟨u,hu⟩:∃ u,u=w.alloc (.cells #[] 82):=⟨_,rfl⟩;have O:Below w.heap.size w u:=Below.cast hu ((Below.refl _ _).alloc (Nat.le_refl _) _);have HO:Hid (VO u w.heap.size 82 6 (some ⟨w.heap.size,0,none⟩) 0 0 []):=by rw [hu];exact VO.kG w (Nat.le_refl _) _ _
  have HC:Hid (∀ j v,css.flatten[j]?=some v->u.cell? ((⟨b,off,none⟩:Addr).add j)=some v):=fun j v hv=>by
   have hadd:(⟨b,off,none⟩:Addr).add j=⟨b,off+j,none⟩:=by unfold Addr.add;split <;> simp_all
   rw [hadd]
   exact ((hbw.trans (O.mono hbw.size)).cell (p:=⟨b,off+j,none⟩) hb).trans (hc j v hv)
  have H1:=Lib.hid (he.one AS);have HE:=Lib.hid he;have HL:Hid (css.flatten.length=n*6):=hlen;have HU:=Lib.hid O;have HUE:=Lib.hid hu;have n1:0<n:=by omega
  have zb:b<u.heap.size:=by have:=hbw.size;have:=O.size;omega
  have H2:Hid (0+n<=maxLen):=by unfold maxLen;show 0+n<=_;omega
  have H3:Hid ((0+n)*80<=140737488355328):=by show (0+n)*80<=_;omega
  clear hc hx hlen he O hu hbw hr
  go_enter Tryz.func81,Tryz.ntmps81
  go_wp2_with (at_builtin;(try rw [<- HUE.out]);refine wpList_append_lies u rfl _ _ _ (by rfl) w.heap.size 82 i0 (.agg #[.int .i64 0,.int .i64 0,.slice none 0 0,.int .i64 0,.int .i64 0,.slice none 0 0]) 6 80 Tryz.underlying97 hi hz0 hz1 hz2 rfl (by omega) (.slice (some ⟨w.heap.size,0,none⟩) 0 0) 0 [] (by rfl) HO.out ⟨b,off,none⟩ n cap css.flatten (by rfl) HL.out HC.out H1.out n1 H2.out H3.out HU.out.size u.heap.size rfl ?_)
  intro g c w2 hown hgr hat hlt;have O2:Below w.heap.size w w2:=HU.out.trans (bJ.toBelow (A:=some ⟨w.heap.size,0,none⟩) (by unfold bJ;rw [<- aO (some ⟨w.heap.size,0,none⟩) 0 0];exact hgr) (B:=w.heap.size) (fun g hg=>by injection hg with hg;subst hg;exact Nat.le_refl _) HU.out.size)
  have HW:Hid (VO w2 w.heap.size 82 6 (some ⟨g,0,none⟩) n c css.flatten):=by
   have h:=hown
   (try simp only [List.nil_append,Nat.zero_add] at h)
   exact h
  clear hown hgr hat hlt HO HC H1 HU HUE heq;go_wp2
  go_ret
  exact ⟨some ⟨g,0,none⟩,c,css,F',by simp,HW.out,HE.out,O2⟩
end
section
attribute [local go_sem] af ah ae
theorem dD {a b:Mx} (h:az a b=true) (A B:Option Addr) (p q:Nat) (w:World) (hx:SI w A a.v.length a.v) (hy:SI w B b.v.length b.v) :
  Calls Tryz.prog 169 #[SMV a.r a.c A a.v.length p b.r b.c B b.v.length q] w fun e w'=>e= .returned (.bool true)/\Below w.heap.size w w':=by
 obtain ⟨ha,hb,hr,hc⟩:=i_ h;have HA:=Lib.hid ha;have HB:=Lib.hid hb;have HS:Hid (bS a b=true):=py h;have HX:=Lib.hid hx;have HY:=Lib.hid hy;clear h ha hb hr hc hx hy
 go_enter Tryz.func169,Tryz.ntmps169
 go_wp2_with fail
 obtain ⟨u1,hu⟩:∃ u,u=(w.alloc (.cells #[.int .i64 a.r,.int .i64 a.c,.slice A a.v.length p,.int .i64 b.r,.int .i64 b.c,.slice B b.v.length q] 82)):=⟨_,rfl⟩;rw [<- hu];have B1:Blk u1 (w.heap.size) 82 #[.int .i64 a.r,.int .i64 a.c,.slice A a.v.length p,.int .i64 b.r,.int .i64 b.c,.slice B b.v.length q]:=Blk.cast hu (Blk.iA (by first | omega | (simp;done) | (simp;omega)))
 have O:Below w.heap.size w u1:=Below.cast hu ((Below.refl _ _).alloc (by first | omega | (simp;done) | (simp;omega)) _)
 have mw:=O.size;clear hu;refine (bP HA.out u1 (SI.below HX.out O)).mono ?_;rintro e w2 ⟨rfl,hb⟩;replace B1:=B1.aa hb;replace O:=O.trans (hb.mono mw);replace mw:=O.size;clear hb;obtain ⟨z1,c1_0,f1_0,c1_1,f1_1,c1_2,f1_2,c1_3,f1_3,c1_4,f1_4,c1_5,f1_5⟩:=B1.f6
 go_wp2_with fail
 refine (bP HB.out w2 (SI.below HY.out O)).mono ?_;rintro e w3 ⟨rfl,hb⟩;replace B1:=B1.aa hb;replace O:=O.trans (hb.mono mw);replace mw:=O.size;clear z1 c1_0 f1_0 c1_1 f1_1 c1_2 f1_2 c1_3 f1_3 c1_4 f1_4 c1_5 f1_5;clear hb;obtain ⟨z1,c1_0,f1_0,c1_1,f1_1,c1_2,f1_2,c1_3,f1_3,c1_4,f1_4,c1_5,f1_5⟩:=B1.f6
 go_wp2_with fail
 refine (gg HS.out w3).mono ?_;rintro e w4 ⟨rfl,hb⟩;replace B1:=B1.aa hb;replace O:=O.trans (hb.mono mw);replace mw:=O.size;clear z1 c1_0 f1_0 c1_1 f1_1 c1_2 f1_2 c1_3 f1_3 c1_4 f1_4 c1_5 f1_5;clear hb;obtain ⟨z1,c1_0,f1_0,c1_1,f1_1,c1_2,f1_2,c1_3,f1_3,c1_4,f1_4,c1_5,f1_5⟩:=B1.f6;go_wp2
 go_ret
 exact ⟨rfl,O⟩
theorem iv {a b c d:Mx} (h1:az a b=true) (h2:az c d=true) (h3:az a c=true) (A B C D:Option Addr) (p q r s:Nat) (w:World) (ha:SI w A a.v.length a.v) (hb:SI w B b.v.length b.v) (hc:SI w C c.v.length c.v) (hd:SI w D d.v.length d.v) :
  Calls Tryz.prog 213 #[SMV a.r a.c A a.v.length p b.r b.c B b.v.length q,SMV c.r c.c C c.v.length r d.r d.c D d.v.length s] w (jW (jX (a,b) (c,d)) w):=by
 have la:a.v.length<=25:=(bt h1).2.2;have lb:b.v.length<=25:=(ee h1).2;have lc:c.v.length<=25:=(bt h2).2.2;have ld:d.v.length<=25:=(ee h2).2;replace h3:bS a c=true:=py h3;have HA:=Lib.hid ha;have HB:=Lib.hid hb;have HC:=Lib.hid hc;have HD:=Lib.hid hd;have H1:=Lib.hid h1;have H2:=Lib.hid h2;have H3:=Lib.hid h3;clear ha hb hc hd h1 h2 h3
 go_enter Tryz.func213,Tryz.ntmps213
 go_wp2_with fail
 obtain ⟨u1,hu⟩:∃ u,u=(((w.alloc (.cells #[.int .i64 a.r,.int .i64 a.c,.slice A a.v.length p,.int .i64 b.r,.int .i64 b.c,.slice B b.v.length q] 82)).alloc (.cells #[.int .i64 c.r,.int .i64 c.c,.slice C c.v.length r,.int .i64 d.r,.int .i64 d.c,.slice D d.v.length s] 82)).alloc (.cells #[.int .i64 0,.int .i64 0,.slice none 0 0,.int .i64 0,.int .i64 0,.slice none 0 0] 82)):=⟨_,rfl⟩;rw [<- hu]
 (try simp only [Nat.add_assoc,Nat.reduceAdd])
 have B1:Blk u1 (w.heap.size) 82 #[.int .i64 a.r,.int .i64 a.c,.slice A a.v.length p,.int .i64 b.r,.int .i64 b.c,.slice B b.v.length q]:=Blk.cast hu (((Blk.iA (by first | omega | (simp;done) | (simp;omega))).alloc _).alloc _)
 have B2:Blk u1 (w.heap.size+1) 82 #[.int .i64 c.r,.int .i64 c.c,.slice C c.v.length r,.int .i64 d.r,.int .i64 d.c,.slice D d.v.length s]:=Blk.cast hu ((Blk.iA (by first | omega | (simp;done) | (simp;omega))).alloc _)
 have B3:Blk u1 (w.heap.size+2) 82 #[.int .i64 0,.int .i64 0,.slice none 0 0,.int .i64 0,.int .i64 0,.slice none 0 0]:=Blk.cast hu (Blk.iA (by first | omega | (simp;done) | (simp;omega)))
 have O:Below w.heap.size w u1:=Below.cast hu ((((Below.refl _ _).alloc (by first | omega | (simp;done) | (simp;omega)) _).alloc (by first | omega | (simp;done) | (simp;omega)) _).alloc (by first | omega | (simp;done) | (simp;omega)) _)
 have mw:=O.size;clear hu;refine (dD H1.out A B p q u1 (SI.below HA.out O) (SI.below HB.out O)).mono ?_;rintro e w2 ⟨rfl,hb⟩;replace B1:=B1.aa hb;replace B2:=B2.aa hb;replace B3:=B3.aa hb;replace O:=O.trans (hb.mono mw);replace mw:=O.size;clear hb;obtain ⟨z1,c1_0,f1_0,c1_1,f1_1,c1_2,f1_2,c1_3,f1_3,c1_4,f1_4,c1_5,f1_5⟩:=B1.f6;obtain ⟨z2,c2_0,f2_0,c2_1,f2_1,c2_2,f2_2,c2_3,f2_3,c2_4,f2_4,c2_5,f2_5⟩:=B2.f6;obtain ⟨z3,c3_0,f3_0,c3_1,f3_1,c3_2,f3_2,c3_3,f3_3,c3_4,f3_4,c3_5,f3_5⟩:=B3.f6
 go_wp2_with fail
 refine (dD H2.out C D r s w2 (SI.below HC.out O) (SI.below HD.out O)).mono ?_;rintro e w3 ⟨rfl,hb⟩;replace B1:=B1.aa hb;replace B2:=B2.aa hb;replace B3:=B3.aa hb;replace O:=O.trans (hb.mono mw);replace mw:=O.size;clear z1 c1_0 f1_0 c1_1 f1_1 c1_2 f1_2 c1_3 f1_3 c1_4 f1_4 c1_5 f1_5 z2 c2_0 f2_0 c2_1 f2_1 c2_2 f2_2 c2_3 f2_3 c2_4 f2_4 c2_5 f2_5 z3 c3_0 f3_0 c3_1 f3_1 c3_2 f3_2 c3_3 f3_3 c3_4 f3_4 c3_5 f3_5;clear hb;obtain ⟨z1,c1_0,f1_0,c1_1,f1_1,c1_2,f1_2,c1_3,f1_3,c1_4,f1_4,c1_5,f1_5⟩:=B1.f6;obtain ⟨z2,c2_0,f2_0,c2_1,f2_1,c2_2,f2_2,c2_3,f2_3,c2_4,f2_4,c2_5,f2_5⟩:=B2.f6;obtain ⟨z3,c3_0,f3_0,c3_1,f3_1,c3_2,f3_2,c3_3,f3_3,c3_4,f3_4,c3_5,f3_5⟩:=B3.f6
 go_wp2_with fail
 refine (gg H3.out w3).mono ?_;rintro e w4 ⟨rfl,hb⟩;replace B1:=B1.aa hb;replace B2:=B2.aa hb;replace B3:=B3.aa hb;replace O:=O.trans (hb.mono mw);replace mw:=O.size;clear z1 c1_0 f1_0 c1_1 f1_1 c1_2 f1_2 c1_3 f1_3 c1_4 f1_4 c1_5 f1_5 z2 c2_0 f2_0 c2_1 f2_1 c2_2 f2_2 c2_3 f2_3 c2_4 f2_4 c2_5 f2_5 z3 c3_0 f3_0 c3_1 f3_1 c3_2 f3_2 c3_3 f3_3 c3_4 f3_4 c3_5 f3_5;clear hb;obtain ⟨z1,c1_0,f1_0,c1_1,f1_1,c1_2,f1_2,c1_3,f1_3,c1_4,f1_4,c1_5,f1_5⟩:=B1.f6;obtain ⟨z2,c2_0,f2_0,c2_1,f2_1,c2_2,f2_2,c2_3,f2_3,c2_4,f2_4,c2_5,f2_5⟩:=B2.f6;obtain ⟨z3,c3_0,f3_0,c3_1,f3_1,c3_2,f3_2,c3_3,f3_3,c3_4,f3_4,c3_5,f3_5⟩:=B3.f6
 go_wp2_with fail
 clear z1 c1_0 f1_0 c1_1 f1_1 c1_2 f1_2 c1_3 f1_3 c1_4 f1_4 c1_5 f1_5 z2 c2_0 f2_0 c2_1 f2_1 c2_2 f2_2 c2_3 f2_3 c2_4 f2_4 c2_5 f2_5 z3 c3_0 f3_0 c3_1 f3_1 c3_2 f3_2 c3_3 f3_3 c3_4 f3_4 c3_5 f3_5;obtain ⟨S,KP,KQ,KA,G1,G2⟩:=BI B1 B2;obtain ⟨g1_0,g1_1,g1_2,g1_3,g1_4,g1_5⟩:=Cs.f6 G1;obtain ⟨g2_0,g2_1,g2_2,g2_3,g2_4,g2_5⟩:=Cs.f6 G2;refine jB S (by kernel_rfl) (by kernel_rfl) (KP.out _ (Below.refl _ _).drew) ?_
 intro hne;have hb:=(Below.refl w4.heap.size w4).drew;obtain ⟨w5,hd⟩:∃ u,u=w4.drew:=⟨_,rfl⟩;rw [<- hd] at hb ⊢
 (try simp only [Nat.add_assoc,Nat.reduceAdd])
 clear hd;have X:=Lib.hid hb;replace B1:=B1.aa hb;replace B2:=B2.aa hb;replace B3:=B3.aa hb;replace O:=O.trans (hb.mono mw);replace mw:=O.size;clear hb
 repeat (first | (refine aF (by rfl) (by rfl) ?_;intro K hK;go_big_quiet_op;go_big_quiet_on) | (refine aG (by rfl) ?_))
 refine bj (by rfl) (by rfl) (fun K hK=> ?_)
 unfold Oper.gives
 go_simp
 refine (eT _ _ _ _ _ _ _ _ _ _ _ _ w5 (SI.below HA.out O) (SI.below HC.out O) (by omega) (by omega)).mono ?_
 rintro e w6 ⟨P,cP,rfl,hos,hb⟩;replace X:=Lib.hid (X.out.trans (hb.mono X.out.size));refine ⟨_,rfl,hK _ _ ⟨⟨_,KP.out _ X.out⟩,rfl⟩ ?_⟩;clear hK K;have FP:=hos.mono (base':=w.heap.size) mw;replace B1:=B1.aa hb;replace B2:=B2.aa hb;replace B3:=B3.aa hb;replace O:=O.trans (hb.mono mw);replace mw:=O.size;clear hos;clear hb
 repeat (first | (refine aF (by rfl) (by rfl) ?_;intro K hK;go_big_quiet_op;go_big_quiet_on) | (refine aG (by rfl) ?_))
 refine bj (by rfl) (by rfl) (fun K hK=> ?_)
 unfold Oper.gives
 go_simp
 refine (eT _ _ _ _ _ _ _ _ _ _ _ _ w6 (SI.below HB.out O) (SI.below HD.out O) (by omega) (by omega)).mono ?_
 rintro e w7 ⟨Q,cQ,rfl,hos,hb⟩;replace X:=Lib.hid (X.out.trans (hb.mono X.out.size));refine ⟨_,rfl,hK _ _ ⟨⟨_,KP.out _ X.out⟩,rfl⟩ ?_⟩;clear hK K;have FQ:=hos.mono (base':=w.heap.size) mw;replace B1:=B1.aa hb;replace B2:=B2.aa hb;replace B3:=B3.aa hb;replace FP:=FP.below hb;replace O:=O.trans (hb.mono mw);replace mw:=O.size;clear hos;clear hb
 repeat (first | (refine aF (by rfl) (by rfl) ?_;intro K hK;go_big_quiet_op;go_big_quiet_on) | (refine aG (by rfl) ?_))
 obtain ⟨z3,c3_0,f3_0,c3_1,f3_1,c3_2,f3_2,c3_3,f3_3,c3_4,f3_4,c3_5,f3_5⟩:=B3.f6;refine bj (by rfl) (by rfl) (fun K hK=> ?_)
 unfold Oper.gives
 go_simp
 refine hK _ _ ⟨⟨_,(KQ _ _ _ (by dsimp only;omega) (by dsimp only;omega)  (KQ _ _ _ (by dsimp only;omega) (by dsimp only;omega)  (KQ _ _ _ (by dsimp only;omega) (by dsimp only;omega)  (KQ _ _ _ (by dsimp only;omega) (by dsimp only;omega)  (KQ _ _ _ (by dsimp only;omega) (by dsimp only;omega)  (KQ _ _ _ (by dsimp only;omega) (by dsimp only;omega)  (KP.out _ X.out)))))))⟩,rfl⟩ ?_
 clear hK K;clear z3 c3_0 f3_0 c3_1 f3_1 c3_2 f3_2 c3_3 f3_3 c3_4 f3_4 c3_5 f3_5
 repeat (first | (refine aF (by rfl) (by rfl) ?_;intro K hK;go_big_quiet_op;go_big_quiet_on) | (refine aG (by rfl) ?_))
 refine aI ?_;clear hne KP KQ KA X g1_0 g1_1 g1_2 g1_3 g1_4 g1_5 G1 g2_0 g2_1 g2_2 g2_3 g2_4 g2_5 G2;obtain ⟨z1,c1_0,f1_0,c1_1,f1_1,c1_2,f1_2,c1_3,f1_3,c1_4,f1_4,c1_5,f1_5⟩:=B1.f6;obtain ⟨z2,c2_0,f2_0,c2_1,f2_1,c2_2,f2_2,c2_3,f2_3,c2_4,f2_4,c2_5,f2_5⟩:=B2.f6;obtain ⟨z3,c3_0,f3_0,c3_1,f3_1,c3_2,f3_2,c3_3,f3_3,c3_4,f3_4,c3_5,f3_5⟩:=B3.f6;go_wp2
 exact bodyPost_ret (v:=SMV (aE aJ a c).r (aE aJ a c).c P (aE aJ a c).v.length cP (aE aJ b d).r (aE aJ b d).c Q (aE aJ b d).v.length cQ) (by simp [results,Tryz.results213,go_sem,z1,c1_0,f1_0,c1_1,f1_1,c1_2,f1_2,c1_3,f1_3,c1_4,f1_4,c1_5,f1_5,z2,c2_0,f2_0,c2_1,f2_1,c2_2,f2_2,c2_3,f2_3,c2_4,f2_4,c2_5,f2_5,z3,c3_0,f3_0,c3_1,f3_1,c3_2,f3_2,c3_3,f3_3,c3_4,f3_4,c3_5,f3_5,(by omega:¬ w.heap.size=w.heap.size+2),(by omega:¬ w.heap.size+2=w.heap.size),(by omega:¬ w.heap.size+1=w.heap.size+2),(by omega:¬ w.heap.size+2=w.heap.size+1)]) rfl ⟨P,Q,cP,cQ,rfl,(OS.Ep FP B3 (by decide) (aZ.refl _ _).s1.s1.s1.s1.s1.s1),(OS.Ep FQ B3 (by decide) (aZ.refl _ _).s1.s1.s1.s1.s1.s1),((((((O.setCell (by dsimp only;omega) _).setCell (by dsimp only;omega) _).setCell (by dsimp only;omega) _).setCell (by dsimp only;omega) _).setCell (by dsimp only;omega) _).setCell (by dsimp only;omega) _)⟩
end
section
attribute [local go_sem] af ah ae
theorem uM {v:List Int} {n:Nat} (hn:1<=n/\n<=25) {A B:Option Addr} {c d:Nat} (w:World) (hx:SI w A n v) (hy:SI w B n v):Calls Tryz.prog 304 #[.slice A n c,.slice B n d] w fun e w'=>e= .returned (.bool true)/\∃ q,w'=w.drewN q:=by
 obtain ⟨a,o,rfl,_,hc⟩:=hx.2 (by omega)
 obtain ⟨a',o',rfl,_,hc'⟩:=hy.2 (by omega)
 have HC:=Lib.hid hc;have HC':=Lib.hid hc';clear hx hy hc hc'
 go_enter Tryz.func304,Tryz.ntmps304
 go_wp2
 go_loopw [13] (fun i wr=>∃ j q:Nat,j<=n/\i= .int .i64 j/\Hid (wr=w.drewN q)) (fun i _=>n-(intOf i).toNat)
 case atStart=>exact ⟨0,0,Nat.zero_le _,rfl,Lib.hid rfl⟩
 case round =>
 obtain ⟨j,q,hj,rfl,hw⟩:=hrel;have hw':=hw.out;subst hw'
 by_cases hlt:j<n
 ·have cx:=HC.out j hlt;have cy:=HC'.out j hlt;have j0:(0:Int)<=(j:Int):=by omega
  have j1:(j:Int)<(n:Int):=by omega
  go_wp2_with fail
  go_quiet (fail)
  go_wp2
  go_roundw
  case rel=>exact ⟨j+1,_,by omega,by go_num,Lib.hid rfl⟩
  case measure=>simp [intOf];omega
 ·obtain rfl:j=n:=by omega
  go_wp2
  go_ret
  exact ⟨rfl,q,rfl⟩
theorem uL {v:List Int} {n:Nat} (hn:1<=n/\n<=25) {A B:Option Addr} {c d:Nat} (w:World) (hx:SI w A n v) (hy:SI w B n v):Calls Tryz.prog 304 #[.slice A n c,.slice B n d] w fun e w'=>e= .returned (.bool true)/\Below w.heap.size w w':=(uM hn w hx hy).mono fun _ _ h=>⟨h.1,by obtain ⟨q,rfl⟩:=h.2;exact below_drewN (Below.refl _ _) _⟩
theorem nH {m:Mx} (h:mvB m=true) {x y:Value} (w:World) (hx:RM w x m) (hy:RM w y m):Calls Tryz.prog 301 #[x,y] w fun e w'=>e= .returned (.bool true)/\Below w.heap.size w w':=by
 have hl:=dy h;obtain ⟨A,c,rfl,h1,h2,h3⟩:=hx;obtain ⟨B,d,rfl,k1,k2,k3⟩:=hy;have HX:=Lib.hid (RM.mk h1 h2 h3);have HY:=Lib.hid (RM.mk k1 k2 k3);have HX1:=Lib.hid h1;have HY1:=Lib.hid k1;clear h h1 h2 h3 k1 k2 k3;refine zE ?_;intro u1 H;refine zB (sZ rfl rfl u1 (RM.below HX.out H.O) (RM.below HY.out H.O)) ?_;clear H;intro w2 u2 H;refine zB (uL hl u2 (SI.below HX1.out H.O) (SI.below HY1.out H.O)) ?_;clear H;intro w3 u3 H;refine zR ?_;clear H;intro u4 H
 exact ⟨rfl,H.O⟩
theorem gC {p:Mx×Mx} (h:okS p=true) {x:Value} (w:World) (hx:RS w x p):Calls Tryz.prog 169 #[x] w fun e w'=>e= .returned (.bool true)/\Below w.heap.size w w':=by
 obtain ⟨A,B,c,d,rfl,h1,_,_,h2,_⟩:=hx
 exact dD h A B c d w h1 h2
theorem wU {w:World} {a b c:Mx×Mx} {A1 A2 B1 B2 C1 C2:Option Addr} {p1 p2 q1 q2 r1 r2:Nat} (h1:RS w (SMV a.1.r a.1.c A1 a.1.v.length p1 a.2.r a.2.c A2 a.2.v.length p2) a) (h2:RS w (SMV b.1.r b.1.c B1 b.1.v.length q1 b.2.r b.2.c B2 b.2.v.length q2) b) (h3:RS w (SMV c.1.r c.1.c C1 c.1.v.length r1 c.2.r c.2.c C2 c.2.v.length r2) c):RT w (MTV a b c A1 A2 B1 B2 C1 C2 p1 p2 q1 q2 r1 r2) a b c:=⟨A1,A2,B1,B2,C1,C2,p1,p2,q1,q2,r1,r2,rfl,h1,h2,h3⟩
theorem iw {a b c:Mx×Mx} (h:TOK a b c) {x:Value} (w:World) (ht:RT w x a b c):Calls Tryz.prog 294 #[x] w fun e w'=>e= .returned (.bool true)/\Below w.heap.size w w':=by
 have HT0:=Lib.hid ht;obtain ⟨A1,A2,B1,B2,C1,C2,p1,p2,q1,q2,r1,r2,rfl,ha,hb,hc⟩:=ht;have HT:=HT0;unfold MTV;obtain ⟨h1,h2,h3,h4,h5⟩:=h;have HM:=Lib.hid (eV (eZ h1 h2 h4)).1;have HA:=Lib.hid h1;have HB:=Lib.hid h2;have HC:=Lib.hid h3;have HAB:=Lib.hid h4;have HJ:=Lib.hid h5;have HX:=Lib.hid ha;have HY:=Lib.hid hb;have HZ:=Lib.hid hc;clear h1 h2 h3 h4 h5 ha hb hc HT0;refine zE ?_;intro u1 H;refine zB (gC HA.out u1 (RS.below HX.out H.O)) ?_;clear H;intro w2 u2 H;refine zB (gC HB.out u2 (RS.below HY.out H.O)) ?_;clear H;intro w3 u3 H;refine zB (gC HC.out u3 (RS.below HZ.out H.O)) ?_;clear H;intro w4 u4 H;refine zX (tg [w.heap.size]) ?_;clear H;intro S w5 hne H;refine zD (H.c 0) ?_;intro G;refine yO (iJ HC.out w5 (RS.below HZ.out H.O)) ?_;clear H;intro w6 P cP H;refine yO (nw (c:=c) HA.out HB.out HAB.out w6 (RT.below HT.out H.O)) ?_;clear H;intro w7 Q cQ H;refine yB (nH HM.out w7 (Eq.mp (congrArg (RM _ _) HJ.out) (RM.aB (H.o 1))) (RM.aB (H.o 0))) ?_;clear H;intro w8 H;refine yN ?_;clear H G;intro u9 H;refine zR ?_;clear H;intro u10 H
 exact ⟨rfl,H.O⟩
end
section
attribute [local go_sem] af ah ae
theorem Al {f m1 m2:Mx} (h1:az f m1=true) (h2:az (aE aJ f m1) m2=true) {A0 A1 A2:Option Addr} {c0 c1 c2 gO:Nat} (w:World) (hf:RM w (MV f.r f.c A0 f.v.length c0) f) (k1:RM w (MV m1.r m1.c A1 m1.v.length c1) m1) (k2:RM w (MV m2.r m2.c A2 m2.v.length c2) m2) (hO:Blk w gO 37 #[.int .i64 m1.r,.int .i64 m1.c,.slice A1 m1.v.length c1,.int .i64 m2.r,.int .i64 m2.c,.slice A2 m2.v.length c2]) :
  Calls Tryz.prog 295 #[MV f.r f.c A0 f.v.length c0,.slice (some ⟨gO,0,none⟩) 2 2] w (bD (aE aJ (aE aJ f m1) m2) w):=by
 have HF:=Lib.hid hf;have H1:=Lib.hid h1;have H2:=Lib.hid h2;have K1:=Lib.hid k1;have K2:=Lib.hid k2;clear hf h1 h2 k1 k2;refine zD hO.el ?_;intro Z
 go_in;have H:=Hq.start w
 go_wp2_with fail
 refine wp_loop_rounds 3 ?_;rw [rounds_succ];refine zM ?_;clear H;intro u1 H;refine zN ?_;clear H;intro u2 H;refine zG (rp H1.out u2 (RM.below HF.out H.O) (RM.below K1.out H.O)) ?_;rintro e w3 ⟨P1,p1,rfl,hos,hb⟩;replace H:=H.os hb hos;clear hb;refine zC ?_;intro C;intros
 go_wp2_with fail
 rw [rounds_succ];refine zM ?_;clear H C;intro u4 H;refine zN ?_;clear H;intro u5 H;refine zG (rp H2.out u5 (RM.aB (H.o 1)) (RM.below K2.out H.O)) ?_;rintro e w6 ⟨P2,p2,rfl,hos,hb⟩;replace H:=H.os hb hos;clear hb;refine zC ?_;intro C;intros
 go_wp2_with fail
 rw [rounds_succ];refine zM ?_;clear H C;intro u7 H;refine zS_ ?_;clear H;intro u8 H
 exact ⟨P2,p2,rfl,(H.o 0),H.O⟩
theorem An {f m1 m2 m3:Mx} (h1:az f m1=true) (h2:az (aE aJ f m1) m2=true) (h3:az (aE aJ (aE aJ f m1) m2) m3=true) {A0 A1 A2 A3:Option Addr} {c0 c1 c2 c3 gO:Nat} (w:World) (hf:RM w (MV f.r f.c A0 f.v.length c0) f) (k1:RM w (MV m1.r m1.c A1 m1.v.length c1) m1) (k2:RM w (MV m2.r m2.c A2 m2.v.length c2) m2) (k3:RM w (MV m3.r m3.c A3 m3.v.length c3) m3) (hO:Blk w gO 37 #[.int .i64 m1.r,.int .i64 m1.c,.slice A1 m1.v.length c1,.int .i64 m2.r,.int .i64 m2.c,.slice A2 m2.v.length c2,.int .i64 m3.r,.int .i64 m3.c,.slice A3 m3.v.length c3]) :
  Calls Tryz.prog 295 #[MV f.r f.c A0 f.v.length c0,.slice (some ⟨gO,0,none⟩) 3 3] w (bD (aE aJ (aE aJ (aE aJ f m1) m2) m3) w):=by
 have HF:=Lib.hid hf;have H1:=Lib.hid h1;have H2:=Lib.hid h2;have H3:=Lib.hid h3;have K1:=Lib.hid k1;have K2:=Lib.hid k2;have K3:=Lib.hid k3;clear hf h1 h2 h3 k1 k2 k3;refine zD hO.el ?_;intro Z
 go_in;have H:=Hq.start w
 go_wp2_with fail
 refine wp_loop_rounds 4 ?_;rw [rounds_succ];refine zM ?_;clear H;intro u1 H;refine zN ?_;clear H;intro u2 H;refine zG (rp H1.out u2 (RM.below HF.out H.O) (RM.below K1.out H.O)) ?_;rintro e w3 ⟨P1,p1,rfl,hos,hb⟩;replace H:=H.os hb hos;clear hb;refine zC ?_;intro C;intros
 go_wp2_with fail
 rw [rounds_succ];refine zM ?_;clear H C;intro u4 H;refine zN ?_;clear H;intro u5 H;refine zG (rp H2.out u5 (RM.aB (H.o 1)) (RM.below K2.out H.O)) ?_;rintro e w6 ⟨P2,p2,rfl,hos,hb⟩;replace H:=H.os hb hos;clear hb;refine zC ?_;intro C;intros
 go_wp2_with fail
 rw [rounds_succ];refine zM ?_;clear H C;intro u7 H;refine zN ?_;clear H;intro u8 H;refine zG (rp H3.out u8 (RM.aB (H.o 1)) (RM.below K3.out H.O)) ?_;rintro e w9 ⟨P3,p3,rfl,hos,hb⟩;replace H:=H.os hb hos;clear hb;refine zC ?_;intro C;intros
 go_wp2_with fail
 rw [rounds_succ];refine zM ?_;clear H C;intro u10 H;refine zS_ ?_;clear H;intro u11 H
 exact ⟨P3,p3,rfl,(H.o 0),H.O⟩
def vz (x y:Mx×Mx) (t:MTr) (w:World) (e:Ending) (w':World):Prop:=∃ A B D E c1 c2 d e',e= .returned (.tuple #[SMV (dw x y t).r (dw x y t).c A (dw x y t).v.length c1 (dF x y t).r (dF x y t).c B (dF x y t).v.length c2,MV (pD x t).r (pD x t).c D (pD x t).v.length d,MV (pE y t).r (pE y t).c E (pE y t).v.length e',.bool true])/\OS w' w.heap.size A (dw x y t).v.length c1 (dw x y t).v/\OS w' w.heap.size B (dF x y t).v.length c2 (dF x y t).v/\OS w' w.heap.size D (pD x t).v.length d (pD x t).v/\OS w' w.heap.size E (pE y t).v.length e' (pE y t).v/\Below w.heap.size w w'
theorem RS.fst {w:World} {p:Mx×Mx} {r r' c c':Int} {A B:Option Addr} {n a m b:Nat} (h:RS w (SMV r c A n a r' c' B m b) p):RM w (MV r c A n a) p.1/\RM w (MV r' c' B m b) p.2:=by
 obtain ⟨A',B',a',b',e,h1,h2,h3,h4,h5,h6⟩:=h;injection e with e;injection e with e;simp only [List.cons.injEq,Value.int.injEq,Value.slice.injEq,true_and,and_true] at e;obtain ⟨rfl,rfl,⟨rfl,rfl,rfl⟩,rfl,rfl,rfl,rfl,rfl⟩:=e
 exact ⟨RM.mk h1 h2 h3,RM.mk h4 h5 h6⟩
theorem iy {x y:Mx×Mx} {t:MTr} (hP:POK x y t) {u v z:Value} (w:World) (hx:RS w u x) (hy:RS w v y) (ht:RT w z t.a t.b t.c):Calls Tryz.prog 281 #[u,v,z] w (vz x y t w):=by
 obtain ⟨X1,X2,x1,x2,rfl,a1,a2,a3,a4,a5,a6⟩:=hx;obtain ⟨Y1,Y2,y1,y2,rfl,b1,b2,b3,b4,b5,b6⟩:=hy;have hT:=ht;obtain ⟨TA1,TA2,TB1,TB2,TC1,TC2,p1,p2,q1,q2,r1,r2,rfl,ha,hb,hc⟩:=ht;have hX:=RS.mk a1 a2 a3 a4 a5 a6;have hX1:=RM.mk a1 a2 a3;have hY:=RS.mk b1 b2 b3 b4 b5 b6;have hY1:=RM.mk b1 b2 b3;obtain ⟨hA1,hA2⟩:=ha.fst;obtain ⟨hB1,hB2⟩:=hb.fst;obtain ⟨hC1,hC2⟩:=hc.fst;have hA:=ha;have hB:=hb;clear a1 a2 a3 a4 a5 a6 b1 b2 b3 b4 b5 b6 ha hb hc;have HP:=Lib.hid hP;have HT:=Lib.hid hT;have HX:=Lib.hid hX;have HX1:=Lib.hid hX1;have HY:=Lib.hid hY;have HY1:=Lib.hid hY1;have HA:=Lib.hid hA;have HB:=Lib.hid hB;have HA1:=Lib.hid hA1;have HA2:=Lib.hid hA2;have HB1:=Lib.hid hB1;have HB2:=Lib.hid hB2;have HC1:=Lib.hid hC1;have HC2:=Lib.hid hC2;clear hP hT hX hX1 hY hY1 hA hB hA1 hA2 hB1 hB2 hC1 hC2;unfold MTV;refine zE ?_;intro u1 H;refine zB (gC HP.out.ox u1 (RS.below HX.out H.O)) ?_;clear H;intro w2 u2 H;refine zG (gC HP.out.oy u2 (RS.below HY.out H.O)) ?_;rintro e w3 ⟨rfl,hb⟩;replace H:=H.b hb;clear hb;refine zC ?_;intro C;intros
 go_wp2_with (with_reducible refine lT 244 rfl ?_)
 refine zM ?_;clear H C;intro u4 H;intros;refine Lib.hid ?_;refine b_ (by rfl) rfl rfl (H.k 3) Tryz.underlying244 rfl (by kernel_rfl) ?_
 refine zN ?_;clear H;intro u5 H;refine zB (iw HP.out.tk u5 (RT.below HT.out H.O)) ?_;clear H;intro w6 u6 H;refine zB (sZ HP.out.ar HP.out.ac u6 (RM.below HX1.out H.O) (RM.below HA1.out H.O)) ?_;clear H;intro w7 u7 H;refine zB (sZ HP.out.br HP.out.bc u7 (RM.below HY1.out H.O) (RM.below HB1.out H.O)) ?_;clear H;intro w8 u8 H;have E:=H.el;refine zXF (tgF [w.heap.size+2,w.heap.size] 6 10 (.cells #[.int .i64 0,.int .i64 0,.slice none 0 0] 37)) ?_;clear H;intro S w9 hne H;refine zD ((And.intro (H.c 3) (H.c 5))) ?_;intro G;refine fO (fun w10 (hb:Bw w9 w10)=>iJ HP.out.ox w10 (RS.below HX.out (H.b hb).O)) ?_;clear H;intro w11 Q1 cQ1 H
 refine fO (fun w12 (hb:Bw w11 w12)=>iJ HP.out.tk.va w12 (RS.below HA.out (H.b hb).O)) ?_;clear H;intro w13 Q2 cQ2 H
 refine fO (fun w14 (hb:Bw w13 w14)=>(show Calls Tryz.prog 168 #[_,_] w14 (bD (pD x t) w14) from tY HP.out.ld w14 (RM.aB ((H.b hb).o 1)) (RM.aB ((H.b hb).o 0)))) ?_;clear H;intro w15 D1 cD1 H
 refine yG ?_;clear H;intro w16 g16 hg16 H;refine yS ?_;clear H;intro w17 H;refine yN ?_;clear H G;intro u18 H;replace H:=H.d 3;replace H:=H.d 2;have E:=H.el;refine zXF (tgF [w.heap.size+2,w.heap.size+1] 6 11 (.cells #[.int .i64 0,.int .i64 0,.slice none 0 0] 37)) ?_;clear H;intro S w19 hne H;refine zD ((And.intro (H.c 5) (H.c 6))) ?_;intro G;refine fO (fun w20 (hb:Bw w19 w20)=>iJ HP.out.oy w20 (RS.below HY.out (H.b hb).O)) ?_;clear H;intro w21 Q1 cQ1 H
 refine fO (fun w22 (hb:Bw w21 w22)=>iJ HP.out.tk.vb w22 (RS.below HB.out (H.b hb).O)) ?_;clear H;intro w23 Q2 cQ2 H
 refine fO (fun w24 (hb:Bw w23 w24)=>(show Calls Tryz.prog 168 #[_,_] w24 (bD (pE y t) w24) from tY HP.out.le w24 (RM.aB ((H.b hb).o 1)) (RM.aB ((H.b hb).o 0)))) ?_;clear H;intro w25 E1 cE1 H
 refine yG ?_;clear H;intro w26 g26 hg26 H;refine yS ?_;clear H;intro w27 H;refine yN ?_;clear H G;intro u28 H;replace H:=H.d 3;replace H:=H.d 2;have E:=H.el;refine zXF (tgF [g26,g16,w.heap.size+2] 18 12 (.cells #[.int .i64 0,.int .i64 0,.slice none 0 0] 37)) ?_;clear H;intro S w29 hne H;refine zD ((And.intro (H.c 0) (And.intro (H.c 2) (H.c 7)))) ?_;intro G;refine fO (fun w30 (hb:Bw w29 w30)=>pg HP.out.db1 w30 (RM.aB ((H.b hb).o 3)) (RM.below HB1.out (H.b hb).O)) ?_;clear H;intro w31 Q1 cQ1 H
 refine fO (fun w32 (hb:Bw w31 w32)=>pg HP.out.ae1 w32 (RM.below HA1.out (H.b hb).O) (RM.aB ((H.b hb).o 2))) ?_;clear H;intro w33 Q2 cQ2 H
 refine fO (fun w34 (hb:Bw w33 w34)=>pg HP.out.de w34 (RM.aB ((H.b hb).o 5)) (RM.aB ((H.b hb).o 3))) ?_;clear H;intro w35 Q3 cQ3 H
 refine fM ?_;clear H;intro w36 w37 H;refine fO (fun w38 (hb:Bw w37 w38)=>(show Calls Tryz.prog 295 #[_,_] w38 (bD (dw x y t) w38) from An HP.out.c1 HP.out.s1 HP.out.l1 w38 (RM.below HC1.out (H.b hb).O) (RM.aB ((H.b hb).o 3)) (RM.aB ((H.b hb).o 2)) (RM.aB ((H.b hb).o 1)) ((H.b hb).k 0))) ?_;clear H;intro w39 O1 cO1 H
 replace H:=H.d 1;refine yG ?_;clear H;intro w40 g40 hg40 H;refine yS ?_;clear H;intro w41 H;refine yN ?_;clear H G;intro u42 H;replace H:=H.d 4;replace H:=H.d 3;replace H:=H.d 2;have E:=H.el;refine zXF (tgF [g26,g16,w.heap.size+2] 15 13 (.cells #[.int .i64 0,.int .i64 0,.slice none 0 0] 37)) ?_;clear H;intro S w43 hne H;refine zD ((And.intro (H.c 2) (And.intro (H.c 4) (H.c 9)))) ?_;intro G;refine fO (fun w44 (hb:Bw w43 w44)=>pg HP.out.db2 w44 (RM.aB ((H.b hb).o 5)) (RM.below HB2.out (H.b hb).O)) ?_;clear H;intro w45 Q1 cQ1 H
 refine fO (fun w46 (hb:Bw w45 w46)=>pg HP.out.ae2 w46 (RM.below HA2.out (H.b hb).O) (RM.aB ((H.b hb).o 4))) ?_;clear H;intro w47 Q2 cQ2 H
 refine fM ?_;clear H;intro w48 w49 H;refine fO (fun w50 (hb:Bw w49 w50)=>(show Calls Tryz.prog 295 #[_,_] w50 (bD (dF x y t) w50) from Al HP.out.c2 HP.out.s2 w50 (RM.below HC2.out (H.b hb).O) (RM.aB ((H.b hb).o 2)) (RM.aB ((H.b hb).o 1)) ((H.b hb).k 0))) ?_;clear H;intro w51 O2 cO2 H
 replace H:=H.d 1;refine yG ?_;clear H;intro w52 g52 hg52 H;refine yS ?_;clear H;intro w53 H;refine yN ?_;clear H G;intro u54 H;replace H:=H.d 3;replace H:=H.d 2;refine zX (tg [g52,g40,g26,g16]) ?_;clear H;intro S w55 hne H;refine zD ((And.intro (H.c 0) (And.intro (H.c 2) (And.intro (H.c 4) (H.c 6))))) ?_;intro G;refine yS ?_;clear H;intro w56 H;refine yS ?_;clear H;intro w57 H;refine yS ?_;clear H;intro w58 H;refine yN ?_;clear H G;intro u59 H;refine zRe ?_;clear H;intro u60 H
 exact bodyPost_ret (mh rfl rfl rfl rfl (H.k 10) (H.k 9) (H.k 8) Tryz.underlying82 Tryz.underlying37 Tryz.underlying37 rfl rfl rfl (by kernel_rfl) (by kernel_rfl) (by kernel_rfl)) rfl ⟨O1,O2,D1,E1,cO1,cO2,cD1,cE1,rfl,(H.o 3),(H.o 1),(H.o 7),(H.o 5),H.O⟩
end
section
attribute [local go_sem] af ah ae
def xA (a b c:Mx×Mx) (s:Int) (w:World) (e:Ending) (w':World):Prop:=∃ A1 A2 B1 B2 C1 C2 p1 p2 q1 q2 r1 r2,e= .returned (.tuple #[MTV a b c A1 A2 B1 B2 C1 C2 p1 p2 q1 q2 r1 r2,.int .i64 s])/\OS w' w.heap.size A1 a.1.v.length p1 a.1.v/\OS w' w.heap.size A2 a.2.v.length p2 a.2.v/\OS w' w.heap.size B1 b.1.v.length q1 b.1.v/\OS w' w.heap.size B2 b.2.v.length q2 b.2.v/\OS w' w.heap.size C1 c.1.v.length r1 c.1.v/\OS w' w.heap.size C2 c.2.v.length r2 c.2.v/\Below w.heap.size w w'
theorem iK {r i c s:Int} (hr:side r=true) (hi:side i=true) (hc:side c=true) (hs:sdB s=true) (w:World):Calls Tryz.prog 280 #[.int .i64 r,.int .i64 i,.int .i64 c,.int .i64 s] w (xA (ig r i c s).a (ig r i c s).b (ig r i c s).c (oC r i c s) w):=by
 obtain ⟨s1,hd1⟩:∃ x,x=sds s (nm r i):=⟨_,rfl⟩;obtain ⟨s2,hd2⟩:∃ x,x=sds s1 (nm r i):=⟨_,rfl⟩;obtain ⟨s3,hd3⟩:∃ x,x=sds s2 (nm i c):=⟨_,rfl⟩;obtain ⟨s4,hd4⟩:∃ x,x=sds s3 (nm i c):=⟨_,rfl⟩;obtain ⟨s5,hd5⟩:∃ x,x=sds s4 (nm r c):=⟨_,rfl⟩;obtain ⟨ma,hma⟩:∃ x,x=cT r i s:=⟨_,rfl⟩;obtain ⟨mb,hmb⟩:∃ x,x=cT r i s1:=⟨_,rfl⟩;obtain ⟨mc,hmc⟩:∃ x,x=cT i c s2:=⟨_,rfl⟩;obtain ⟨md,hmd⟩:∃ x,x=cT i c s3:=⟨_,rfl⟩;obtain ⟨me,hme⟩:∃ x,x=cT r c s4:=⟨_,rfl⟩;have HS1:Hid (sdB s1=true):=hd1 ▸ cS hs _;have HS2:Hid (sdB s2=true):=hd2 ▸ cS HS1.out _;have HS3:Hid (sdB s3=true):=hd3 ▸ cS HS2.out _;have HS4:Hid (sdB s4=true):=hd4 ▸ cS HS3.out _;have oa:okS (ma,mb)=true:=by rw [hma,hmb];exact aY (bU hr hi) (bU hr hi) rfl rfl
 have ob:okS (mc,md)=true:=by rw [hmc,hmd];exact aY (bU hi hc) (bU hi hc) rfl rfl
 have hab:ma.c=mc.r:=by rw [hma,hmc];rfl
 have hmm:=eV (eZ oa ob hab);have hlk:az (mulM (aq (ma,mb)) (aq (mc,md))) me=true:=aY hmm.1 (by rw [hme];exact bU hr hc) (by rw [hmm.2.1,(aN oa).2.1,hme];show ma.r=r;rw [hma];rfl) (by rw [hmm.2.2,(aN ob).2.2,hme];show mc.c=c;rw [hmc];rfl)
 have HT:Hid (ig r i c s=⟨(ma,mb),(mc,md),(me,aE bC (mulM (aq (ma,mb)) (aq (mc,md))) me)⟩):=by
  show ig r i c s=_
  rw [hma,hmb,hmc,hmd,hme,hd4,hd3,hd2,hd1]
  rfl
 have HN:Hid (oC r i c s=s5):=by
  show oC r i c s=_
  rw [hd5,hd4,hd3,hd2,hd1]
  rfl
 have HOA:=Lib.hid oa;have HOB:=Lib.hid ob;have HAB:=Lib.hid hab;have HLK:=Lib.hid hlk;have HR:=Lib.hid hr;have HI:=Lib.hid hi;have HC:=Lib.hid hc;have HS:=Lib.hid hs;have Hma:=Lib.hid hma;have Hmb:=Lib.hid hmb;have Hmc:=Lib.hid hmc;have Hmd:=Lib.hid hmd;have Hme:=Lib.hid hme;have HD1:=Lib.hid hd1;have HD2:=Lib.hid hd2;have HD3:=Lib.hid hd3;have HD4:=Lib.hid hd4;have HD5:=Lib.hid hd5;clear oa ob hab hmm hlk hr hi hc hs hma hmb hmc hmd hme hd1 hd2 hd3 hd4 hd5;refine zE ?_;intro u1 H;refine zP (dj HR.out u1) ?_;clear H;intro u2 H;refine zP (dj HI.out u2) ?_;clear H;intro u3 H;refine zP (dj HC.out u3) ?_;clear H;intro u4 H;refine zP (aU (dH HS.out) u4) ?_;clear H;intro u5 H;refine zO ((show Calls Tryz.prog 167 #[_,_,_] u5 (ij ma s1 u5) from by rw [Hma.out,HD1.out];exact b8 HR.out HI.out HS.out u5)) ?_;clear H;intro w6 P0 n0 u6 H
 refine zO ((show Calls Tryz.prog 167 #[_,_,_] u6 (ij mb s2 u6) from by rw [Hmb.out,HD2.out];exact b8 HR.out HI.out HS1.out u6)) ?_;clear H;intro w7 P1 n1 u7 H
 refine zO ((show Calls Tryz.prog 167 #[_,_,_] u7 (ij mc s3 u7) from by rw [Hmc.out,HD3.out];exact b8 HI.out HC.out HS2.out u7)) ?_;clear H;intro w8 P2 n2 u8 H
 refine zO ((show Calls Tryz.prog 167 #[_,_,_] u8 (ij md s4 u8) from by rw [Hmd.out,HD4.out];exact b8 HI.out HC.out HS3.out u8)) ?_;clear H;intro w9 P3 n3 u9 H
 refine zO ((show Calls Tryz.prog 167 #[_,_,_] u9 (ij me s5 u9) from by rw [Hme.out,HD5.out];exact b8 HR.out HC.out HS4.out u9)) ?_;clear H;intro w10 P4 n4 u10 H
 refine zXZ (tg [u4.heap.size]) ?_;clear H;intro S w11 hne H;refine zD (H.c 5) ?_;intro G;intros;refine lc' fun K hK=> ?_
 refine ev rfl rfl (H.bl (H.k 5) (by simp)) Tryz.underlying244 rfl (by kernel_rfl) ?_
 go_simp
 refine hK _ ?_;refine yO (nw (a:=(ma,mb)) (b:=(mc,md)) (c:=(me,Mx.z)) HOA.out HOB.out HAB.out w11 ⟨P0,P1,P2,P3,P4,none,n0,n1,n2,n3,n4,0,rfl,RS.aB (H.o 4) (H.o 3),RS.aB (H.o 2) (H.o 1),RS.aB (H.o 0) (OS.nil _ w.heap.size)⟩) ?_;clear H;intro w12 R cR H;refine yO (tY HLK.out w12 (RM.aB (H.o 0)) (RM.aB (H.o 1))) ?_;clear H;intro w13 Q cQ H;intros;refine zCr ?_;intro C;intros
 repeat (first | (refine lc' ?_;intro K hK;go_big_quiet_op;go_big_quiet_on) | refine lk' ?_)
 refine aV rfl (by rfl) (by rfl) (fun K hK=> ?_)
 unfold Oper.gives
 go_simp
 refine hK _ _ ?_;replace H:=H.H;refine aI ?_;clear C G;refine zC ?_;intro C;intros
 go_wp2_with (with_reducible refine lT 244 rfl ?_)
 refine zM ?_;clear H C;intro u14 H;intros;refine Lib.hid ?_;refine b_ (by rfl) rfl rfl (H.k 7) Tryz.underlying244 rfl (by kernel_rfl) ?_
 refine zC ?_;intro C;intros
 go_wp2_with (with_reducible refine gn 244 rfl ?_)
 refine zM ?_;clear H C;intro u15 H;intros;refine Lib.hid ?_;refine zSt ?_;clear H;intro w15 H;refine zS_ ?_;clear H;intro u16 H
 exact (by rw [HT.out,HN.out];exact ⟨P0,P1,P2,P3,P4,Q,n0,n1,n2,n3,n4,cQ,rfl,(H.o 6),(H.o 5),(H.o 4),(H.o 3),(H.o 2),(H.o 0),H.O⟩)
end
end Go.Proofs.YtjciicheoghcdaaGreatDoor

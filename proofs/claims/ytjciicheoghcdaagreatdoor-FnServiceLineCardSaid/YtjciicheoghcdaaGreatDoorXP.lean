/- Part of the proof that the law FnServiceLine of the given program returns true for every input. -/
import Derived.Test.YtjciicheoghcdaaGreatDoorXC
import Derived.Test.YtjciicheoghcdaaGreatDoorXE
import Derived.Test.YtjciicheoghcdaaGreatDoorXG
import Derived.Test.YtjciicheoghcdaaGreatDoorXH
import Derived.Test.YtjciicheoghcdaaGreatDoorXJ
import Derived.Test.YtjciicheoghcdaaGreatDoorXO
import Derived.Test.YtjciicheoghcdaaGreatDoorXb
import Derived.Test.YtjciicheoghcdaaGreatDoorXu
import Derived.Test.YtjciicheoghcdaaGreatDoorXw
namespace Go.Proofs.YtjciicheoghcdaaGreatDoor
open Go.RowKit
set_option linter.unusedSimpArgs false
set_option linter.unusedVariables false
set_option maxRecDepth 20000
set_option maxHeartbeats 16000000
theorem EF {w:World} {b:Nat} {t:TypeId} {ss:List ByteArray} (h:Blk w b t (ss.map Value.string).toArray) {i:Int} (h0:0<=i) (h1:i<(ss.length:Int)) {B:Nat} (hB:∀ s,s∈ss->s.size<=B):∃ s:ByteArray,w.cell? ⟨b,i.toNat,none⟩=some (.string s)/\s.size<=B:=by
 obtain ⟨s,hs,hm⟩:=aH (xs:=ss) (j:=i.toNat) (by omega)
 refine ⟨s,?_,hB s hm⟩;rw [h.cell]
 simp [hs]
theorem E5 (m:Mx):(mt m).length<=9000:=by
 by_cases h:mvB m=true
 ·obtain ⟨R,C,e1,e2,_,_,hC,_,hl,h25,_⟩:=er h;unfold mt;rw [if_pos h,e1,e2,Int.toNat_natCast,Int.toNat_natCast,<- uz m.v C (by omega) R (by omega)]
  have:=Bg m.v C (R*C)
  omega
 ·unfold mt;rw [if_neg h]
  exact Nat.zero_le _
def Dtx (M:Nat) (w:World) (rb P:Nat) (e:Ending) (w':World):Prop:=∃ t:ByteArray,e= .returned (.string t)/\t.size<=M/\Rd w' rb P/\aZ rb w w'
theorem lf (rb P:Nat) (r c:Int) (hr:1<=r/\r<=5) (hc:1<=c/\c<=5) (w:World) (h:Rd w rb P) (hP:P<900000):Calls Tryz.prog 75 #[.pointer (some ⟨rb,0,none⟩),.int .i64 r,.int .i64 c] w (Dtx 9000 w rb (P+220)):=by
 have hrw:=h.lt
 go_enter Tryz.func75,Tryz.ntmps75
 go_wp2_with fail
 refine (Et rb P r c 0 hr hc (by omega) w h (by omega)).mono ?_
 rintro e w4 ⟨r',c',A',cp,v,rfl,hos,hvl,hr4,ho⟩;have l4:=hr4.lt
 go_wp2_with fail
 refine (kM r' c' v A' _ cp w4 hos.si (by omega)).mono ?_
 rintro e w5 ⟨rfl,hb⟩;have R5:=Lib.hid (hr4.below hb);have O5:=Lib.hid (ho.below hb);obtain ⟨s,hs⟩:∃ s,s=bs (mt ⟨r',c',v⟩):=⟨_,rfl⟩;have HS9:Hid (s.size<=9000):=by rw [hs];unfold Hid;rw [aK];exact E5 _
 rw [<- hs];clear hs hos hr4 ho hb;go_wp2
 go_ret
 exact ⟨s,rfl,HS9.out,R5.out,O5.out⟩
theorem EN (rb P:Nat) (w:World) (h:Rd w rb P) (hP:P<800000):Calls Tryz.prog 33 #[.pointer (some ⟨rb,0,none⟩)] w (Dtx 40000 w rb (P+1800)):=by
 have hrw:=h.lt
 go_enter Tryz.func33,Tryz.ntmps33
 go_wp2_with fail
 refine (EG rb P 6 (by omega) w h (by omega)).mono ?_
 rintro e w1 ⟨od,rfl,r1,o1⟩;have l1:=r1.lt
 cases od
 ·go_wp2_with fail
  refine (ct rb (P+1) 2 w1 r1 (by omega)).mono ?_
  rintro e w2 ⟨a,rfl,a0,a1,r2,q2⟩;have l2:=r2.lt;have T2:=o1.trans q2;clear r1 q2 o1;have hsd:1<=1+a/\1+a<=5:=by omega
  have ha:=IntWalk.i64_in (1+a) (by omega)
  obtain ⟨sd,hsd2⟩:∃ s,s=1+a:=⟨_,rfl⟩
  go_wp2_with fail
  refine (lf rb (P+2) (1+a) (1+a) (by omega) (by omega) w2 r2 (by omega)).mono ?_
  rintro e w3 ⟨t1,rfl,z_t1,r3,q3⟩;have l3:=r3.lt;have T3:=T2.trans q3;clear r2 q3 T2;have n_x1:=cK (a:=6) (b:=t1.size) (by omega)
  obtain ⟨x1,h_x1⟩:∃ x,(⟨#[100,101,110,115,101,32]⟩:ByteArray)++t1=x:=⟨_,rfl⟩;have z_x1:x1.size=6+t1.size:=by rw [<- h_x1];exact ByteArray.size_append
  have n_x2:=cK (a:=x1.size) (b:=3) (by omega)
  obtain ⟨x2,h_x2⟩:∃ x,x1++(⟨#[32,124,32]⟩:ByteArray)=x:=⟨_,rfl⟩;have z_x2:x2.size=x1.size+3:=by rw [<- h_x2];exact ByteArray.size_append
  go_wp2_with fail
  refine (lf rb (P+2+220) (1+a) 1 (by omega) (by omega) w3 r3 (by omega)).mono ?_
  rintro e w4 ⟨t2,rfl,z_t2,r4,q4⟩;have l4:=r4.lt;have T4:=T3.trans q4;clear r3 q4 T3;have n_x3:=cK (a:=x2.size) (b:=t2.size) (by omega)
  obtain ⟨x3,h_x3⟩:∃ x,x2++t2=x:=⟨_,rfl⟩;have z_x3:x3.size=x2.size+t2.size:=by rw [<- h_x3];exact ByteArray.size_append
  go_wp2_with fail
  refine (lf rb (P+2+220+220) (1+a) (1+a) (by omega) (by omega) w4 r4 (by omega)).mono ?_
  rintro e w5 ⟨t3,rfl,z_t3,r5,q5⟩;have l5:=r5.lt;have T5:=T4.trans q5;clear r4 q5 T4;have n_x4:=cK (a:=4) (b:=t3.size) (by omega)
  obtain ⟨x4,h_x4⟩:∃ x,(⟨#[109,105,120,32]⟩:ByteArray)++t3=x:=⟨_,rfl⟩;have z_x4:x4.size=4+t3.size:=by rw [<- h_x4];exact ByteArray.size_append
  have n_x5:=cK (a:=x4.size) (b:=3) (by omega)
  obtain ⟨x5,h_x5⟩:∃ x,x4++(⟨#[32,124,32]⟩:ByteArray)=x:=⟨_,rfl⟩;have z_x5:x5.size=x4.size+3:=by rw [<- h_x5];exact ByteArray.size_append
  go_wp2_with fail
  refine (lf rb (P+2+220+220+220) (1+a) (1+a) (by omega) (by omega) w5 r5 (by omega)).mono ?_
  rintro e w6 ⟨t4,rfl,z_t4,r6,q6⟩;have l6:=r6.lt;have T6:=T5.trans q6;clear r5 q6 T5;have n_x6:=cK (a:=x5.size) (b:=t4.size) (by omega)
  obtain ⟨x6,h_x6⟩:∃ x,x5++t4=x:=⟨_,rfl⟩;have z_x6:x6.size=x5.size+t4.size:=by rw [<- h_x6];exact ByteArray.size_append
  have n_x7:=cK (a:=x6.size) (b:=3) (by omega)
  obtain ⟨x7,h_x7⟩:∃ x,x6++(⟨#[32,124,32]⟩:ByteArray)=x:=⟨_,rfl⟩;have z_x7:x7.size=x6.size+3:=by rw [<- h_x7];exact ByteArray.size_append
  go_wp2_with fail
  refine (lf rb (P+2+220+220+220+220) (1+a) (1+a) (by omega) (by omega) w6 r6 (by omega)).mono ?_
  rintro e w7 ⟨t5,rfl,z_t5,r7,q7⟩;have l7:=r7.lt;have T7:=T6.trans q7;clear r6 q7 T6;have n_x8:=cK (a:=x7.size) (b:=t5.size) (by omega)
  obtain ⟨x8,h_x8⟩:∃ x,x7++t5=x:=⟨_,rfl⟩;have z_x8:x8.size=x7.size+t5.size:=by rw [<- h_x8];exact ByteArray.size_append
  go_wp2_with fail
  refine (lf rb (P+2+220+220+220+220+220) (1+a) (1+a) (by omega) (by omega) w7 r7 (by omega)).mono ?_
  rintro e w8 ⟨t6,rfl,z_t6,r8,q8⟩;have l8:=r8.lt;have T8:=T7.trans q8;clear r7 q8 T7;have n_x9:=cK (a:=4) (b:=t6.size) (by omega)
  obtain ⟨x9,h_x9⟩:∃ x,(⟨#[114,117,110,32]⟩:ByteArray)++t6=x:=⟨_,rfl⟩;have z_x9:x9.size=4+t6.size:=by rw [<- h_x9];exact ByteArray.size_append
  go_wp2_with fail
  refine (ct rb (P+2+220+220+220+220+220+220) 2 w8 r8 (by omega)).mono ?_
  rintro e w9 ⟨b,rfl,b0,b1,r9,q9⟩;have l9:=r9.lt;have T9:=T8.trans q9;clear r8 q9 T8;have hb2:=IntWalk.i64_in (1+b) (by omega)
  go_wp2_with fail
  refine (lf rb (P+2+220+220+220+220+220+220+1) (1+a) (1+b) (by omega) (by omega) w9 r9 (by omega)).mono ?_
  rintro e w10 ⟨t7,rfl,z_t7,r10,q10⟩;have l10:=r10.lt;have T10:=T9.trans q10;clear r9 q10 T9;have n_x10:=cK (a:=4) (b:=t7.size) (by omega)
  obtain ⟨x10,h_x10⟩:∃ x,(⟨#[114,117,110,32]⟩:ByteArray)++t7=x:=⟨_,rfl⟩;have z_x10:x10.size=4+t7.size:=by rw [<- h_x10];exact ByteArray.size_append
  go_wp2_with fail
  refine (lf rb (P+2+220+220+220+220+220+220+1+220) (1+a) (1+a) (by omega) (by omega) w10 r10 (by omega)).mono ?_
  rintro e w11 ⟨t8,rfl,z_t8,r11,q11⟩;have l11:=r11.lt;have T11:=T10.trans q11;clear r10 q11 T10;have n_x11:=cK (a:=6) (b:=t8.size) (by omega)
  obtain ⟨x11,h_x11⟩:∃ x,(⟨#[110,101,101,100,115,32]⟩:ByteArray)++t8=x:=⟨_,rfl⟩;have z_x11:x11.size=6+t8.size:=by rw [<- h_x11];exact ByteArray.size_append
  go_wp2_with fail
  obtain ⟨u,hu⟩:∃ u,u=w11.alloc (.cells #[.string ⟨#[114,97,109,112]⟩,.string x3,.string x8,.string x9,.string x10,.string x11] 9):=⟨_,rfl⟩;rw [<- hu];have BU:Blk u w11.heap.size 9 (([⟨#[114,97,109,112]⟩,x3,x8,x9,x10,x11]:List ByteArray).map Value.string).toArray:=by rw [hu];exact Blk.new w11 9 #[.string ⟨#[114,97,109,112]⟩,.string x3,.string x8,.string x9,.string x10,.string x11]
  have RU:Rd u rb (P+2+220+220+220+220+220+220+1+220+220):=by rw [hu];exact r11.alloc _
  have TU:aZ rb w u:=by rw [hu];exact T11.alloc _
  have lu:=BU.lt;clear hu r11 T11;refine (ct rb (P+2+220+220+220+220+220+220+1+220+220) 6 u RU (by omega)).mono ?_
  rintro e w0 ⟨i,rfl,i0,i1,r0,q0⟩;have B0:=BU.only q0 (by omega)
  obtain ⟨s,cs,hs⟩:=EF (B:=40000) B0 i0 (show i<((6:Nat):Int) by omega) (by intro s hs;simp only [List.mem_cons,List.not_mem_nil,or_false] at hs;rcases hs with rfl | rfl | rfl | rfl | rfl | rfl <;> first | omega | decide)
  have l0:=B0.lt;have R0:=Lib.hid r0;have T0:=Lib.hid (TU.trans q0);have HS:=Lib.hid hs;clear BU RU TU r0 q0 B0 hs;go_wp2
  go_ret
  exact ⟨s,rfl,by have:=HS.out;omega,R0.out.mono (by omega),T0.out⟩
 ·go_wp2_with fail
  obtain ⟨u,hu⟩:∃ u,u=w1.alloc (.cells #[.string ⟨#[]⟩,.string ⟨#[100,101,110,115,101]⟩,.string ⟨#[100,101,110,115,101,32,49]⟩,.string ⟨#[100,101,110,115,101,32,49,32,124,32,120]⟩,.string ⟨#[114,97,109,112,32,49]⟩,.string ⟨#[109,105,120,32,49,32,124,32,49]⟩,.string ⟨#[114,117,110]⟩,.string ⟨#[114,117,110,32,120]⟩,.string ⟨#[114,117,110,32,49,32,124,32,49]⟩,.string ⟨#[110,101,101,100,115]⟩,.string ⟨#[82,97,109,112]⟩] 9):=⟨_,rfl⟩;rw [<- hu];have BU:Blk u w1.heap.size 9 (([⟨#[]⟩,⟨#[100,101,110,115,101]⟩,⟨#[100,101,110,115,101,32,49]⟩,⟨#[100,101,110,115,101,32,49,32,124,32,120]⟩,⟨#[114,97,109,112,32,49]⟩,⟨#[109,105,120,32,49,32,124,32,49]⟩,⟨#[114,117,110]⟩,⟨#[114,117,110,32,120]⟩,⟨#[114,117,110,32,49,32,124,32,49]⟩,⟨#[110,101,101,100,115]⟩,⟨#[82,97,109,112]⟩]:List ByteArray).map Value.string).toArray:=by rw [hu];exact Blk.new w1 9 #[.string ⟨#[]⟩,.string ⟨#[100,101,110,115,101]⟩,.string ⟨#[100,101,110,115,101,32,49]⟩,.string ⟨#[100,101,110,115,101,32,49,32,124,32,120]⟩,.string ⟨#[114,97,109,112,32,49]⟩,.string ⟨#[109,105,120,32,49,32,124,32,49]⟩,.string ⟨#[114,117,110]⟩,.string ⟨#[114,117,110,32,120]⟩,.string ⟨#[114,117,110,32,49,32,124,32,49]⟩,.string ⟨#[110,101,101,100,115]⟩,.string ⟨#[82,97,109,112]⟩]
  have RU:Rd u rb (P+1):=by rw [hu];exact r1.alloc _
  have TU:aZ rb w u:=by rw [hu];exact o1.alloc _
  have lu:=BU.lt;clear hu r1 o1;refine (ct rb (P+1) 11 u RU (by omega)).mono ?_
  rintro e w0 ⟨i,rfl,i0,i1,r0,q0⟩;have B0:=BU.only q0 (by omega)
  obtain ⟨s,cs,hs⟩:=EF (B:=11) B0 i0 (show i<((11:Nat):Int) by omega) (by intro s hs;simp only [List.mem_cons,List.not_mem_nil,or_false] at hs;rcases hs with rfl | rfl | rfl | rfl | rfl | rfl | rfl | rfl | rfl | rfl | rfl <;> first | omega | decide)
  have l0:=B0.lt;have R0:=Lib.hid r0;have T0:=Lib.hid (TU.trans q0);have HS:=Lib.hid hs;clear BU RU TU r0 q0 B0 hs;go_wp2
  go_ret
  exact ⟨s,rfl,by have:=HS.out;omega,R0.out.mono (by omega),T0.out⟩
section
attribute [local go_sem] af ah ae
def DSL (w:World) (e:Ending) (w':World):Prop:=∃ (A:Option Addr) (c:Nat) (x:List (Int×List (Mx×Mx))×Int) (F:List Nat) (t:ByteArray),e= .returned (.tuple #[.agg #[.slice A x.1.length c,.int .i64 x.2],.string t])/\RI (kE smE) w' A x.1.length c x.1 F/\svS x/\t.size<=40000/\Below w.heap.size w w'
theorem DF (A:Option Addr) (len cap:Nat) (w:World) (hl:len<=cap) (hm:cap<=maxLen) (hr:Bytes w w.heap.size A len) (h0:A=none->cap=0):Calls Tryz.prog 8 #[.slice A len cap] w (DSL w):=by
 obtain ⟨u1,hu1⟩:∃ u,u=(w.alloc (.cells #[.slice none 0 0,.int .i64 0] 25)):=⟨_,rfl⟩;have b_1:Blk u1 w.heap.size 25 #[.slice none 0 0,.int .i64 0]:=by rw [hu1];exact Blk.new _ _ _
 have O1:Below w.heap.size w u1:=by rw [hu1];exact (Below.refl _ _).alloc (Nat.le_refl _) _
 go_enter Tryz.func8,Tryz.ntmps8
 go_wp2_with fail
 rw [<- hu1];clear hu1;have q1:w.heap.size<u1.heap.size:=b_1.lt;refine (EM A len cap u1 hl hm (hr.au (fun j hj=>O1.block j hj) |>.mono (by omega)) h0).mono ?_
 rintro e w1 ⟨rfl,r1,hb1,hlt⟩;have b_2:=b_1.aa hb1;have O2:Below w.heap.size w w1:=O1.trans (hb1.mono (by omega))
 have s1:=hb1.size;obtain ⟨rb,hrb⟩:∃ rb,rb=u1.heap.size:=⟨_,rfl⟩;rw [<- hrb] at r1 hlt q1 s1 ⊢;clear hr h0 b_1 O1 hb1 hrb
 go_wp2_with fail
 refine (Ei rb 0 14 (by omega) w1 r1 (by omega)).mono ?_
 rintro e w2 ⟨A',c',x,F,rfl,hri,hF,hsv,r2,o2⟩;have b_3:=b_2.only o2 (by omega)
 have O3:Below w.heap.size w w2:=O2.trans (o2.toBelow (by omega) (by omega))
 have s2:=o2.size;have HS:=Lib.hid hsv;have l2:=r2.lt;have z2:=b_3.lt;clear r1 o2 b_2 O2 hsv
 go_wp2_with fail
 obtain ⟨u3,hu3⟩:∃ u,u=w2.alloc (.cells #[.slice A' x.1.length c',.int .i64 x.2] 25):=⟨_,rfl⟩;rw [<- hu3];have B5:Blk u3 w2.heap.size 25 #[.slice A' x.1.length c',.int .i64 x.2]:=by rw [hu3];exact Blk.new _ _ _
 have b_4:Blk u3 w.heap.size 25 #[.slice none 0 0,.int .i64 0]:=by rw [hu3];exact b_3.alloc _
 have r3:Rd u3 rb (0+4100):=by rw [hu3];exact r2.alloc _
 have O4:Below w.heap.size w u3:=by rw [hu3];exact O3.alloc O3.size _
 have hri3:RI (kE smE) u3 A' x.1.length c' x.1 F:=by rw [hu3];exact RI.alloc hri _
 obtain ⟨g5,hg5⟩:∃ g,g=w2.heap.size:=⟨_,rfl⟩;have l5:=B5.lt;rw [<- hg5] at B5 l5 ⊢;have n5:¬ g5=rb:=by omega
 have n6:¬ w.heap.size=rb:=by omega
 have n7:¬ g5=w.heap.size:=by omega
 have HFR:Hid (∀ g,g∈F->g≠rb/\g≠w.heap.size):=fun g hg=>by have:=hF g hg;omega
 clear hu3 hri b_3 O3 r2 hF hg5 s1 s2 l2 z2;refine jB (fun w'=>Blk w' g5 25 #[.slice A' x.1.length c',.int .i64 x.2]) (by kernel_rfl) (by kernel_rfl) B5 ?_
 intro hne;have g0:∀ y:Wd (fun w'=>Blk w' g5 25 #[.slice A' x.1.length c',.int .i64 x.2]),y.w.cell? ⟨g5,0,none⟩=some (.slice A' x.1.length c'):=fun y=>y.h.cell 0
 have g1:∀ y:Wd (fun w'=>Blk w' g5 25 #[.slice A' x.1.length c',.int .i64 x.2]),y.w.cell? ⟨g5,1,none⟩=some (.int .i64 x.2):=fun y=>y.h.cell 1
 obtain ⟨u4,hu4⟩:∃ u,u=u3.drew:=⟨_,rfl⟩;have B5':Blk u4 g5 25 #[.slice A' x.1.length c',.int .i64 x.2]:=by rw [hu4];exact B5
 have b_5:Blk u4 w.heap.size 25 #[.slice none 0 0,.int .i64 0]:=by rw [hu4];exact b_4
 have r4:Rd u4 rb (0+4100):=by rw [hu4];exact r3.drew
 have O5:Below w.heap.size w u4:=by rw [hu4];exact O4.drew
 have hri4:RI (kE smE) u4 A' x.1.length c' x.1 F:=by rw [hu4];exact hri3.below (Below.refl _ _).drew
 rw [<- hu4];clear hu4 B5 b_4 r3 O4 hri3
 repeat (first | (refine aF (by rfl) (by rfl) ?_;intro K hK;go_big_quiet_op;go_big_quiet_on) | (refine aG (by rfl) ?_))
 refine bj (by rfl) (by rfl) (fun K hK=> ?_)
 unfold Oper.gives
 go_simp
 refine (EN rb (0+4100) u4 r4 (by omega)).mono ?_
 rintro e w6 ⟨t,rfl,ht,r6,o6⟩;have B6:=B5'.only o6 n5;have b_6:=b_5.only o6 n6;have O6:Below w.heap.size w w6:=O5.trans (o6.toBelow (by omega) O5.size)
 have hri6:RI (kE smE) w6 A' x.1.length c' x.1 F:=hri4.only o6 (fun h=>(HFR.out rb h).1 rfl)
 refine ⟨_,rfl,hK _ _ ⟨⟨_,B6⟩,rfl⟩ ?_⟩;clear hK K B5' b_5 O5 hri4 r4 r6 o6;have z6:=b_6.lt;have c60:w6.cell? ⟨w.heap.size,0,none⟩=some (.slice none 0 0):=b_6.cell 0;have c61:w6.cell? ⟨w.heap.size,1,none⟩=some (.int .i64 0):=b_6.cell 1;have f60:w6.frozen? ⟨w.heap.size,0,none⟩=false:=b_6.frozen 0;have f61:w6.frozen? ⟨w.heap.size,1,none⟩=false:=b_6.frozen 1
 repeat (first | (refine aF (by rfl) (by rfl) ?_;intro K hK;go_big_quiet_op;go_big_quiet_on) | (refine aG (by rfl) ?_))
 refine bj (by rfl) (by rfl) (fun K hK=> ?_)
 unfold Oper.gives
 go_simp
 have B7:Blk ((w6.setCell ⟨w.heap.size,0,none⟩ (.slice A' x.1.length c')).setCell ⟨w.heap.size,1,none⟩ (.int .i64 x.2)) g5 25 #[.slice A' x.1.length c',.int .i64 x.2]:=(B6.far (p:=⟨w.heap.size,0,none⟩) n7 _).far (p:=⟨w.heap.size,1,none⟩) n7 _;refine hK _ _ ⟨⟨_,B7⟩,rfl⟩ ?_;clear hK K B6 B7
 repeat (first | (refine aF (by rfl) (by rfl) ?_;intro K hK;go_big_quiet_op;go_big_quiet_on) | (refine aG (by rfl) ?_))
 refine aI ?_;have HT:=Lib.hid ht;have H6:=Lib.hid hri6;have HO:=Lib.hid O6;clear ht hri6 O6 b_6;go_wp2;refine bodyPost_ret (v:= .tuple #[.agg #[.slice A' x.1.length c',.int .i64 x.2],.string t]) (by simp [results,Tryz.results8,go_sem,c60,c61,f60,f61,z6]) rfl ?_
 refine ⟨A',c',x,F,t,rfl,H6.out.au fun g hg=> ?_,HS.out,HT.out,(HO.out.setCell (by dsimp only;omega) _).setCell (by dsimp only;omega) _⟩
 have:=(HFR.out g hg).2
 exact (Below.heap_setCell _ _ _ g (by dsimp only;omega)).trans (Below.heap_setCell _ _ _ g (by dsimp only;omega))
end
theorem EH (n:Int):∃ d r,fxn n=d::r/\d.toNat<=57:=by
 unfold fxn dec;have h1:=(e7 (n/16).toNat).1
 cases e:Lib.decDigits (n/16).toNat with
 | nil=>rw [e] at h1;simp at h1
 | cons d r=>exact ⟨d,_,rfl,(pS _ d (by rw [e];exact List.mem_cons_self ..)).2⟩
theorem ES (x:Int):∃ d r,fx x=d::r/\d.toNat<=57:=by
 unfold fx;rw [pZ];unfold sg
 split
 ·exact ⟨45,_,rfl,by decide⟩
 ·exact EH _
theorem Eu (v:List Int) (c:Nat):∀ k,∃ r,st v c (k+1)=fx (v.getD 0 0)++r
 | 0=>⟨[],by simp [st]⟩
 | k+1=>by
  obtain ⟨r,h⟩:=Eu v c k;refine ⟨r++((if k+1=0 then [] else if (k+1)%c=0 then [59,32] else [32])++fx (v.getD (k+1) 0)),?_⟩
  rw [st,h]
  simp
theorem ET {m:Mx} (h:mvB m=true):∃ d r,mt m=d::r/\d.toNat<=57:=by
 obtain ⟨R,C,e1,e2,hR,_,hC,_,hl,h25,_⟩:=er h;rw [l_ h e1 e2,<- uz m.v C (by omega) R (by omega)]
 have hp:0<R*C:=Nat.mul_pos (by omega) (by omega)
 obtain ⟨k,hk⟩:∃ k,R*C=k+1:=⟨R*C-1,by omega⟩
 rw [hk];obtain ⟨r,hr⟩:=Eu m.v C k;obtain ⟨d,t,hd,h57⟩:=ES (m.v.getD 0 0)
 exact ⟨d,t++r,by rw [hr,hd];rfl,h57⟩
theorem Ez:∀ {net:List PL},(∀ l,l∈net->aL l.1 l.2=true)->∀ {o:Option (Int×Int)} {N:Nd} {K:Int},(∀ rc,o=some rc->side rc.1=true/\side rc.2=true)->nB N K->nB (ndN net (N,o)).1 (K+1000*(net.length:Int))
 | [],_,_,_,_,_,hN=>by simpa [ndN] using hN
 | l::net,h,o,N,K,ho,hN=>by
  have hl:=h l (List.mem_cons_self ..)
  cases o with
  | none =>
   have e:(ndN (l::net) (N,none)).1=(ndN net (N.add Nd.z,none)).1:=rfl;rw [e];refine (Ez (net:=net) (fun l hl=>h l (List.mem_cons_of_mem _ hl)) (o:=none) (fun rc hrc=>by cases hrc) (hN.add nB.z (Int.le_refl _))).le ?_
   rw [List.length_cons]
   omega
  | some rc =>
   obtain ⟨a,b⟩:=rc;obtain ⟨s1,s2⟩:=ho (a,b) rfl;have e:(ndN (l::net) (N,some (a,b))).1=(ndN net (N.add (ndL l (a,b)),dr l (a,b))).1:=rfl;rw [e];refine (Ez (net:=net) (fun l hl=>h l (List.mem_cons_of_mem _ hl)) (o:=dr l (a,b)) (fun rc hrc=>uy hl s1 s2 hrc) (hN.add (wF hl s1 s2) (Int.le_refl _))).le ?_
   rw [List.length_cons]
   omega
theorem Fc {N:Nd} {K:Int} (h:nB N K) (hK:K<=1000000):nt [N.a,N.b,N.c,N.d]≠[]:=by
 have h1:[N.a,N.b,N.c,N.d].all okN=true:=by
  have:=h.a0;have:=h.a1;have:=h.b0;have:=h.b1;have:=h.c0;have:=h.c1;have:=h.d0;have:=h.d1;simp only [List.all_cons,List.all_nil,okN,Bool.and_true,Bool.and_eq_true,decide_eq_true_eq]
  omega
 rw [zj h1];intro e;have h2:=congrArg List.length e;unfold jn at h2;rw [List.map_cons,Lib.join_cons,List.length_append] at h2;have h3:=(e7 N.a.toNat).1;unfold dec at h2
 simp at h2
 rw [h2.1] at h3
 simp at h3
theorem Ff {l:List UInt8} {d:UInt8} {r:List UInt8} (e:l=d::r) (h:d.toNat<=57):l≠[]/\l≠tNo/\l≠fa:=by
 subst e;refine ⟨by simp,fun h2=> ?_,fun h2=> ?_⟩
 ·injection h2 with h2;subst h2
  exact absurd h (by decide)
 ·injection h2 with h2;subst h2
  exact absurd h (by decide)
def LnA (net:List SL) (s:Int) (r:Res):Prop:=r.2≠[]/\(r.2=tNo\/r.2=fa->r.1=(net,s))
theorem LnA.no {net:List SL} {s:Int}:LnA net s ((net,s),tNo):=⟨by simp [tNo],fun _=>rfl⟩
theorem LnA.Ft {net:List SL} {s:Int}:LnA net s ((net,s),fa):=⟨by simp [fa],fun _=>rfl⟩
theorem EB {kd:Int} {ms:List Mx} {net:List SL} {s:Int} {r:Res} (e:dI kd ms net s=some r):LnA net s r:=by
 unfold dI at e
 split at e
 ·injection e with e;subst e
  exact ⟨by simp,fun h=>by rcases h with h | h <;> simp [tNo,fa] at h⟩
 ·cases e
theorem Fe {m:Mx} (hm:mvB m=true) {net:List SL} {s:Int} (h:jO net s) {r:Res} (e:ic m net s=some r):LnA net s r:=by
 unfold ic at e
 split at e
 ·rename_i hc
  injection e with e;subst e;obtain ⟨d,t,h1,h2⟩:=ET (aN (tm h.1 hm h.2 hc).1).1;obtain ⟨k1,k2,k3⟩:=Ff h1 h2
  exact ⟨k1,fun h=>h.elim (fun h=>absurd h k2) (fun h=>absurd h k3)⟩
 ·cases e
theorem E6 {m:Mx} (hm:mvB m=true) {net:List SL} {s:Int} (h:jO net s) {r:Res} (e:eu m net s=some r):LnA net s r:=by
 unfold eu at e
 split at e
 ·injection e with e;subst e;obtain ⟨n1,n2⟩:=du h.1;have hj:=Ez (net:=bh net) (eN h.1).2 (o:=some (m.r,m.c)) (N:=Nd.z) (K:=0) (fun rc e=>by injection e with e;subst e;exact aA hm) nB.z
  have h4:(bh net).length<=4:=(eN h.1).1
  exact ⟨Fc hj (by omega),fun _=>rfl⟩
 ·cases e
theorem Fj {n:List UInt8} {k:Nat} {f:List Mx->List SL->Int->Option Res} (hc:ei n=some (k,f)) {ms:List Mx} (hk:ms.length=k) (hmv:∀ m,m∈ms->mvB m=true) {net:List SL} {s:Int} (h:jO net s) {r:Res} (e:f ms net s=some r):LnA net s r:=by
 unfold ei at hc;have h1:k=1->mvB (ms.getD 0 Mx.z)=true:=fun hk1=>by
  rw [hk1] at hk;obtain ⟨a,rfl⟩:=List.length_eq_one_iff.1 hk
  exact hmv _ (by simp)
 split at hc
 ·injection hc with hc;injection hc with h2 h3;subst h3;exact EB e
 split at hc
 ·injection hc with hc;injection hc with h2 h3;subst h3;exact EB e
 split at hc
 ·injection hc with hc;injection hc with h2 h3;subst h3;exact EB e
 split at hc
 ·injection hc with hc;injection hc with h2 h3;subst h3;exact Fe (h1 h2.symm) h e
 split at hc
 ·injection hc with hc;injection hc with h2 h3;subst h3;exact E6 (h1 h2.symm) h e
 ·cases hc
theorem LnR.a {net:List SL} {s:Int} {l:List UInt8} {r:Res} (h:LnR net s l r) (hs:jO net s):LnA net s r:=by
 unfold LnR at h
 cases e:ei (Lib.cut l [32]).1 with
 | none=>rw [e] at h;dsimp only at h;rw [h];exact LnA.Ft
 | some p =>
  rw [e] at h;obtain ⟨k,f⟩:=p
  dsimp only at h
  rcases h with ⟨_,rfl⟩ | ⟨_,⟨ms,h2,rfl⟩ | ⟨_,rfl⟩⟩
  ·exact LnA.Ft
  ·cases e2:f ms net s with
   | none=>exact LnA.no
   | some r=>exact Fj e h2.1 h2.mv hs e2
  ·exact LnA.no
def DT:List UInt8:=[110,111,116,104,105,110,103]
theorem LnR.nothing {net:List SL} {s:Int} {r:Res} (h:LnR net s DT r):r=((net,s),fa):=by
 have e:ei (Lib.cut DT [32]).1=none:=by decide
 unfold LnR at h;rw [e] at h
 exact h
section
attribute [local go_sem] af ah ae
theorem EZ (w:World):Calls Tryz.prog 13 #[] w fun e w'=>e= .returned (.bool true)/\w=w':=by
 go_enter Tryz.func13,Tryz.ntmps13
 go_wp2_with fail
 refine (iL 5 w).mono ?_;rintro e w' ⟨rfl,rfl⟩;go_wp2
 go_ret
 exact ⟨rfl,rfl⟩
theorem DE (A:Option Addr) (len cap:Nat) (zs:List Int) (w:World) (ht:Tab w) (hm:iD w) (hw:ER .u8 w A len cap zs):Calls Tryz.prog 6 #[.slice A len cap] w fun e w'=>e= .returned (.bool true)/\Below w.heap.size w w':=by
 obtain ⟨hl,hcm,hr,hn0⟩:=El hw;have HT:=Lib.hid ht;have HM:=Lib.hid hm;clear ht hm hw
 by_cases hbig:1048576<len
 ·have h1:(1048576:Int)<(len:Int):=by omega
  clear hr hn0 hbig;refine zE ?_;intro u1 H;refine zR ?_;clear H;intro u2 H
  exact ⟨rfl,H.O⟩
 ·have h1:(len:Int)<=1048576:=by omega
  have HB:=Lib.hid hr;clear hr hbig;refine zE ?_;intro u1 H;refine zG (DF A len cap u1 hl hcm (((HB.out.au fun j hj=>H.O.block j hj)).mono H.m) hn0) ?_
  rintro e w2 ⟨A1,c1,x,F,t,rfl,hri,hsv,ht9,hb⟩;have HB2:Hid (Below w.heap.size w w2):=H.O.trans (hb.mono H.m);have HT2:Hid (Tab w2):=HT.out.below HB2.out (Nat.le_refl _);have HM2:Hid (iD w2):=HM.out.below HB2.out (Nat.le_refl _);obtain ⟨l,rfl⟩:∃ l,t=bs l:=⟨t.data.toList,(fe t).symm⟩;have HLL:Hid (l.length<=1048576):=by rw [aK] at ht9;unfold Hid;omega
  have HRI:=Lib.hid hri;have HS:=Lib.hid hsv;clear H hri hsv ht9 hb HB;have H:=Hq.start w2;refine zN ?_;clear H;intro u3 H;refine zG (BD HS.out HLL.out u3 (HT2.out.below H.O (Nat.le_refl _)) (HM2.out.below H.O (Nat.le_refl _)) (HRI.out.below H.O)) ?_;rintro e w4 ⟨r,A9,c9,F9,hL,rfl,ri,fr,hb⟩;replace H:=H.rf hb ri fr;have HLX:=Lib.hid hL;clear hL ri fr hb;refine zN ?_;clear H;intro u5 H;refine zG (CL HS.out HLL.out u5 (HRI.out.below H.O)) ?_;rintro e w6 ⟨r',A6,c6,F6,hL,rfl,ri,fr,hb⟩;replace H:=H.rf hb ri fr;obtain rfl:=HLX.out.one hL;clear hL ri fr hb;have hsm:((bs r.2).toList == (bs r.2).toList)=true:=by simp
  refine zN ?_;clear H;intro u7 H;refine zB (DD u7 [.slice A9 r.1.1.length c9,.int .i64 r.1.2] [.slice A6 r.1.1.length c6,.int .i64 r.1.2] r.1 F9 F6 ⟨A9,c9,rfl,(H.f 3).1⟩ ⟨A6,c6,rfl,(H.f 1).1⟩ HLX.out.sv) ?_;clear H;intro w8 u8 H;replace H:=H.d 1;refine zG (iS u8 [.slice A1 x.1.length c1,.int .i64 x.2] x F ⟨A1,c1,rfl,HRI.out.below H.O⟩ HS.out) ?_;rintro e w9 ⟨rfl,hb⟩;replace H:=H.b hb;clear hb
  cases hv:svB x
  ·obtain rfl:r=(([],0),[]):=by have h:=HLX.out;unfold Lx at h;rw [hv] at h;simpa using h
   clear hv hsm;have he:(bs []).toList.isEmpty=true:=by rw [ByteArray.toList_eq];rfl
   refine zN ?_;clear H;intro u10 H;refine zP (EZ u10) ?_;clear H;intro u11 H;refine zR ?_;clear H;intro u12 H
   exact ⟨rfl,HB2.out.trans (H.O.mono HB2.out.size)⟩
  ·have HOK:=Lib.hid (xm hv);have HLR:Hid (LnR x.1 x.2 l r):=by have h:=HLX.out;unfold Lx at h;rw [if_pos hv] at h;exact h
   have HLA:=Lib.hid (HLR.out.a HOK.out);have HRV:Hid (svB r.1=true):=by have h:=HLR.out.ok HOK.out;unfold Hid svB;rw [h.1,h.2];rfl
   have HV:=Lib.hid hv;clear hv;refine zN ?_;clear H;intro u10 H;refine zG ((show Calls Tryz.prog 9 #[.agg #[.slice A1 x.1.length c1,.int .i64 x.2],.string ⟨#[110,111,116,104,105,110,103]⟩] u10 (LxP x DT u10) from BD HS.out (by decide) u10 (HT2.out.below H.O (Nat.le_refl _)) (HM2.out.below H.O (Nat.le_refl _)) (HRI.out.below H.O))) ?_
   rintro e w11 ⟨r2,A8,c8,F8,hL,rfl,ri,fr,hb⟩;replace H:=H.rf hb ri fr;obtain rfl:r2=(x,fa):=by unfold Lx at hL;rw [if_pos HV.out] at hL;exact hL.nothing
   clear hL ri fr hb;refine zN ?_;clear H;intro u12 H;refine zG (iM u12 [.slice A9 r.1.1.length c9,.int .i64 r.1.2] r.1 F9 ⟨A9,c9,rfl,(H.f 4).1⟩ HLX.out.sv) ?_;rintro e w13 ⟨rfl,hb⟩;replace H:=H.b hb;rw [HRV.out];clear hb;have hw1:((bs fa).toList == [119,104,97,116])=true:=(bq _ _).trans (by decide)
   refine zN ?_;clear H;intro u14 H;refine zG (DD u14 [.slice A8 x.1.length c8,.int .i64 x.2] [.slice A1 x.1.length c1,.int .i64 x.2] x F8 F ⟨A8,c8,rfl,(H.f 1).1⟩ ⟨A1,c1,rfl,HRI.out.below H.O⟩ HS.out) ?_;rintro e w15 ⟨rfl,hb⟩;replace H:=H.b hb;clear hb;have hne:(bs r.2).toList.isEmpty=false:=mq HLA.out.1
   by_cases h1:r.2=tNo\/r.2=fa
   ·have hr1:r.1=x:=HLA.out.2 h1;have HE:Hid (((bs r.2).toList == [110,111])=true\/(((bs r.2).toList == [110,111])=false/\((bs r.2).toList == [119,104,97,116])=true)):=by
     rcases h1 with h | h
     ·exact .inl ((bq _ _).trans (by rw [h];decide))
     ·exact .inr ⟨(bq _ _).trans (by rw [h];decide),(bq _ _).trans (by rw [h];decide)⟩
    obtain ⟨x',rt⟩:=r;obtain rfl:x'=x:=hr1;clear h1;rcases HE.out with e1 | ⟨e1,e2⟩
    all_goals
     refine zN ?_;clear H;intro u16 H;refine zB (DD u16 [.slice A9 x'.1.length c9,.int .i64 x'.2] [.slice A1 x'.1.length c1,.int .i64 x'.2] x' F9 F ⟨A9,c9,rfl,(H.f 4).1⟩ ⟨A1,c1,rfl,HRI.out.below H.O⟩ HS.out) ?_;clear H;intro w17 u17 H;refine zR ?_;clear H;intro u18 H
     exact ⟨rfl,HB2.out.trans (H.O.mono HB2.out.size)⟩
   ·have e1:((bs r.2).toList == [110,111])=false:=(bq _ _).trans (by have h:r.2≠[110,111]:=fun e=>h1 (.inl e);simpa using h)
    have e2:((bs r.2).toList == [119,104,97,116])=false:=(bq _ _).trans (by have h:r.2≠[119,104,97,116]:=fun e=>h1 (.inr e);simpa using h)
    clear h1;refine zR ?_;clear H;intro u16 H
    exact ⟨rfl,HB2.out.trans (H.O.mono HB2.out.size)⟩
end
end Go.Proofs.YtjciicheoghcdaaGreatDoor

/-
  markMatrix, heldMatrix, sameMatrix; FnExactReadMatrix: the walk. Printed by gen_rmex.py.
-/
import Derived.Test.YtcmgnnfkgkibgaaDoorRs
import Derived.Test.YtcmgnnfkgkibgaaDoorRm
import Derived.Test.YtcmgnnfkgkibgaaDoorMatLaw
namespace Go.Proofs.YtcmgnnfkgkibgaaDoor
open Go.RowKit
set_option linter.unusedVariables false
set_option linter.unusedSimpArgs false

theorem Only.trans2 {A : Option Addr} {a b c : World} (h : Below a.heap.size a b) (k : OnlyS A b c) : OnlyS A a c :=
  ⟨k.os.trans h.os, k.tape.trans h.tape, k.output.trans h.output, Nat.le_trans h.size k.size, fun i hi hne => (k.block i (Nat.lt_of_lt_of_le hi h.size) hne).trans (h.block i hi)⟩
theorem l_markMatrix (r c : Int) (v : List Int) (base : Nat) (A : Option Addr) (n cap : Nat) (k : Int) (w : World) (hx0 : OS w base A n cap v) (bn : n ≤ 1048576) (hk : 0 ≤ k ∧ k ≤ 281474976710656) :
    Calls Tryd.prog 21 #[MV r c A n cap, .int .i64 k] w fun e w' => e = .returned (.int .i64 (k + (n : Int))) ∧ OS w' base A n cap (marks k n) ∧ OnlyS A w w' := by
  have HX := Lib.hid hx0
  clear hx0
  go_enter Tryd.func21, Tryd.ntmps21
  go_wp2_with fail
  obtain ⟨u1, hu1⟩ : ∃ u, u = (w.alloc (.cells #[.int .i64 r, .int .i64 c, .slice A n cap] 37)) := ⟨_, rfl⟩
  rw [← hu1]
  have hzu1 : u1.heap.size ≤ w.heap.size + 1 := by rw [hu1]; simp
  have hyu1 : w.heap.size + 1 ≤ u1.heap.size := by rw [hu1]; simp
  have B1_1 : Blk u1 (w.heap.size) 37 #[.int .i64 r, .int .i64 c, .slice A n cap] := by rw [hu1]; have h := (Blk.new w 37 #[.int .i64 r, .int .i64 c, .slice A n cap]); simpa using h
  have xb1 : w.heap.size ≤ w.heap.size := by omega
  have O1 : Below w.heap.size w u1 := by rw [hu1]; exact ((Below.refl w.heap.size w).alloc (by first | omega | (simp; done) | (simp; omega)) _)
  have m1 : w.heap.size ≤ u1.heap.size := by omega
  clear hu1
  have hx1 : OS u1 base A n cap v := by exact OS.below HX.out O1
  refine (l_markIntS base A n cap v k u1 hx1 (by omega) hk).mono ?_
  rintro e w2 ⟨rfl, hos, hon⟩
  have HOS := Lib.hid hos
  have HON : Hid (OnlyS A w w2) := Only.trans2 O1 hon
  clear hos hon hx1
  go_wp2
  go_ret
  exact ⟨rfl, HOS.out, HON.out⟩

theorem l_heldMatrix (r c : Int) (A : Option Addr) (n cap : Nat) (k : Int) (w : World) (hx0 : SI w A n (marks k n)) (bn : n ≤ 1048576) (hk : 0 ≤ k ∧ k ≤ 281474976710656) :
    Calls Tryd.prog 22 #[MV r c A n cap, .int .i64 k] w fun e w' => e = .returned (.int .i64 (k + (n : Int))) ∧ Below w.heap.size w w' := by
  have HX := Lib.hid hx0
  clear hx0
  go_enter Tryd.func22, Tryd.ntmps22
  go_wp2_with fail
  obtain ⟨u1, hu1⟩ : ∃ u, u = (w.alloc (.cells #[.int .i64 r, .int .i64 c, .slice A n cap] 37)) := ⟨_, rfl⟩
  rw [← hu1]
  have hzu1 : u1.heap.size ≤ w.heap.size + 1 := by rw [hu1]; simp
  have hyu1 : w.heap.size + 1 ≤ u1.heap.size := by rw [hu1]; simp
  have B1_1 : Blk u1 (w.heap.size) 37 #[.int .i64 r, .int .i64 c, .slice A n cap] := by rw [hu1]; have h := (Blk.new w 37 #[.int .i64 r, .int .i64 c, .slice A n cap]); simpa using h
  have xb1 : w.heap.size ≤ w.heap.size := by omega
  have O1 : Below w.heap.size w u1 := by rw [hu1]; exact ((Below.refl w.heap.size w).alloc (by first | omega | (simp; done) | (simp; omega)) _)
  have m1 : w.heap.size ≤ u1.heap.size := by omega
  clear hu1
  refine (l_heldIntS A n cap k u1 (SI.below HX.out O1) (by omega) hk).mono ?_
  rintro e w' ⟨rfl, rfl⟩
  have z1_1 : w.heap.size < u1.heap.size := B1_1.lt
  have c1_1_0 : u1.cell? ⟨w.heap.size, 0, none⟩ = some (.int .i64 r) := B1_1.cell 0
  have f1_1_0 : u1.frozen? ⟨w.heap.size, 0, none⟩ = false := B1_1.frozen 0
  have c1_1_1 : u1.cell? ⟨w.heap.size, 1, none⟩ = some (.int .i64 c) := B1_1.cell 1
  have f1_1_1 : u1.frozen? ⟨w.heap.size, 1, none⟩ = false := B1_1.frozen 1
  have c1_1_2 : u1.cell? ⟨w.heap.size, 2, none⟩ = some (.slice A n cap) := B1_1.cell 2
  have f1_1_2 : u1.frozen? ⟨w.heap.size, 2, none⟩ = false := B1_1.frozen 2
  have hp : ¬ k + (n : Int) < 0 := by omega
  go_wp2
  go_ret
  exact ⟨rfl, O1⟩

theorem l_sameMatrix (r c : Int) (v : List Int) (A B : Option Addr) (n cn m cm : Nat) (w : World) (hx0 : SI w A n v) (hy0 : SI w B m v) (bn : n ≤ 281474976710656) (bm : m ≤ 281474976710656) :
    Calls Tryd.prog 25 #[MV r c A n cn, MV r c B m cm] w fun e w' => e = .returned (.bool true) ∧ Below w.heap.size w w' := by
  have HX := Lib.hid hx0
  have HY := Lib.hid hy0
  clear hx0 hy0
  go_enter Tryd.func25, Tryd.ntmps25
  go_wp2_with fail
  obtain ⟨u1, hu1⟩ : ∃ u, u = ((w.alloc (.cells #[.int .i64 r, .int .i64 c, .slice A n cn] 37)).alloc (.cells #[.int .i64 r, .int .i64 c, .slice B m cm] 37)) := ⟨_, rfl⟩
  rw [← hu1]
  have hzu1 : u1.heap.size ≤ w.heap.size + 2 := by rw [hu1]; simp
  have hyu1 : w.heap.size + 2 ≤ u1.heap.size := by rw [hu1]; simp
  have B1_1 : Blk u1 (w.heap.size) 37 #[.int .i64 r, .int .i64 c, .slice A n cn] := by rw [hu1]; have h := ((Blk.new w 37 #[.int .i64 r, .int .i64 c, .slice A n cn]).alloc (.cells #[.int .i64 r, .int .i64 c, .slice B m cm] 37)); simpa using h
  have xb1 : w.heap.size ≤ w.heap.size := by omega
  have B1_2 : Blk u1 (w.heap.size + 1) 37 #[.int .i64 r, .int .i64 c, .slice B m cm] := by rw [hu1]; have h := (Blk.new (w.alloc (.cells #[.int .i64 r, .int .i64 c, .slice A n cn] 37)) 37 #[.int .i64 r, .int .i64 c, .slice B m cm]); simpa using h
  have xb2 : w.heap.size ≤ w.heap.size + 1 := by omega
  have O1 : Below w.heap.size w u1 := by rw [hu1]; exact (((Below.refl w.heap.size w).alloc (by first | omega | (simp; done) | (simp; omega)) _).alloc (by first | omega | (simp; done) | (simp; omega)) _)
  have m1 : w.heap.size ≤ u1.heap.size := by omega
  clear hu1
  refine (l_sameInts A B n cn m cm v v u1 (SI.below HX.out O1) (SI.below HY.out O1) (by omega) (by omega)).mono ?_
  rintro e w2 ⟨rfl, hb⟩
  have B2_1 := (B1_1.below' hb)
  have B2_2 := (B1_2.below' hb)
  have O2 := O1.trans (hb.mono (by omega))
  have m2 : w.heap.size ≤ w2.heap.size := by have := hb.size; omega
  rw [eqL_same]
  clear B1_1 B1_2 O1 hb
  have z2_1 : w.heap.size < w2.heap.size := B2_1.lt
  have c2_1_0 : w2.cell? ⟨w.heap.size, 0, none⟩ = some (.int .i64 r) := B2_1.cell 0
  have f2_1_0 : w2.frozen? ⟨w.heap.size, 0, none⟩ = false := B2_1.frozen 0
  have c2_1_1 : w2.cell? ⟨w.heap.size, 1, none⟩ = some (.int .i64 c) := B2_1.cell 1
  have f2_1_1 : w2.frozen? ⟨w.heap.size, 1, none⟩ = false := B2_1.frozen 1
  have c2_1_2 : w2.cell? ⟨w.heap.size, 2, none⟩ = some (.slice A n cn) := B2_1.cell 2
  have f2_1_2 : w2.frozen? ⟨w.heap.size, 2, none⟩ = false := B2_1.frozen 2
  have z2_2 : w.heap.size + 1 < w2.heap.size := B2_2.lt
  have c2_2_0 : w2.cell? ⟨w.heap.size + 1, 0, none⟩ = some (.int .i64 r) := B2_2.cell 0
  have f2_2_0 : w2.frozen? ⟨w.heap.size + 1, 0, none⟩ = false := B2_2.frozen 0
  have c2_2_1 : w2.cell? ⟨w.heap.size + 1, 1, none⟩ = some (.int .i64 c) := B2_2.cell 1
  have f2_2_1 : w2.frozen? ⟨w.heap.size + 1, 1, none⟩ = false := B2_2.frozen 1
  have c2_2_2 : w2.cell? ⟨w.heap.size + 1, 2, none⟩ = some (.slice B m cm) := B2_2.cell 2
  have f2_2_2 : w2.frozen? ⟨w.heap.size + 1, 2, none⟩ = false := B2_2.frozen 2
  go_wp2
  go_ret
  exact ⟨rfl, O2⟩

theorem RMp.vlen {l : List UInt8} {m : Mx} {ok : Bool} (h : RMp l m ok) : m.v.length ≤ 25 := by
  rcases h with ⟨_, h, _⟩ | ⟨_, rfl, _⟩
  · obtain ⟨R, C, _, _, _, _, _, _, hl, h25, _⟩ := mv_facts h
    omega
  · exact Nat.zero_le _
set_option maxHeartbeats 4000000 in
theorem FnExactReadMatrix_walk (s : ByteArray) (w : World) (ht : Tab w) (hm : MaxL w) (ws : s.size ≤ maxLen) : Calls Tryd.prog 6 #[.string s] w fun e w' => e = .returned (.bool true) ∧ Below w.heap.size w w' := by
  have HT := Lib.hid ht
  have HM := Lib.hid hm
  clear ht hm
  by_cases hbig : 1048576 < s.size
  · have h1 : (1048576 : Int) < (s.size : Int) := by omega
    clear ws hbig
    go_enter Tryd.func6, Tryd.ntmps6
    go_wp2
    go_ret
    exact ⟨rfl, Below.refl _ _⟩
  · obtain ⟨l, hll⟩ : ∃ l, s = bs l := ⟨s.data.toList, (bs_list s).symm⟩
    have hl : l.length ≤ 1048576 := by rw [hll, bs_size] at hbig; omega
    have hz1 : (bs l).size = l.length := bs_size l
    have hz2 : (l.length : Int) ≤ 1048576 := by omega
    subst hll
    clear ws hbig
    go_enter Tryd.func6, Tryd.ntmps6
    go_wp2_with fail
    refine (s_ReadMatrix l hl w).mono ?_
    rintro e w1 ⟨ma, oka, Aa, ca, rfl, osa, hra, hb⟩
    have O1 := (Below.refl w.heap.size w).trans (hb.mono (by omega))
    have m1 : w.heap.size ≤ w1.heap.size := by have := hb.size; omega
    have F1_sa := osa
    clear hb osa
    have HRA := Lib.hid hra
    clear hra
    go_wp2_with fail
    obtain ⟨u2, hu2⟩ : ∃ u, u = (w1.alloc (.cells #[.int .i64 ma.r, .int .i64 ma.c, .slice Aa ma.v.length ca] 37)) := ⟨_, rfl⟩
    rw [← hu2]
    have hzu2 : u2.heap.size ≤ w1.heap.size + 1 := by rw [hu2]; simp
    have hyu2 : w1.heap.size + 1 ≤ u2.heap.size := by rw [hu2]; simp
    have B2_1 : Blk u2 (w1.heap.size) 37 #[.int .i64 ma.r, .int .i64 ma.c, .slice Aa ma.v.length ca] := by rw [hu2]; have h := (Blk.new w1 37 #[.int .i64 ma.r, .int .i64 ma.c, .slice Aa ma.v.length ca]); simpa using h
    have xb1 : w.heap.size ≤ w1.heap.size := by omega
    have O2 : Below w.heap.size w u2 := by rw [hu2]; exact (O1.alloc (by first | omega | (simp; done) | (simp; omega)) _)
    have m2 : w.heap.size ≤ u2.heap.size := by omega
    have F2_sa : OS u2 w.heap.size Aa ma.v.length ca ma.v := by rw [hu2]; exact (F1_sa.alloc _)
    clear O1 F1_sa
    clear hu2
    have hlta : ∀ g, blk Aa = some g → g < u2.heap.size := fun g hg => (F2_sa.blk_lt g hg).2
    go_wp2_with fail
    refine (i_ReadMatrix l hl u2 (HT.out.below O2 (Nat.le_refl _)) (HM.out.below O2 (Nat.le_refl _))).mono ?_
    rintro e w3 ⟨mb, okb, Ab, cb, rfl, osb, hrb, hb⟩
    have B3_1 := (B2_1.below' hb)
    have O3 := O2.trans (hb.mono (by omega))
    have m3 : w.heap.size ≤ w3.heap.size := by have := hb.size; omega
    have F3_sa := F2_sa.below hb
    have F3_sb := osb
    clear B2_1 O2 F2_sa hb osb
    have z3_1 : w1.heap.size < w3.heap.size := B3_1.lt
    have c3_1_0 : w3.cell? ⟨w1.heap.size, 0, none⟩ = some (.int .i64 ma.r) := B3_1.cell 0
    have f3_1_0 : w3.frozen? ⟨w1.heap.size, 0, none⟩ = false := B3_1.frozen 0
    have c3_1_1 : w3.cell? ⟨w1.heap.size, 1, none⟩ = some (.int .i64 ma.c) := B3_1.cell 1
    have f3_1_1 : w3.frozen? ⟨w1.heap.size, 1, none⟩ = false := B3_1.frozen 1
    have c3_1_2 : w3.cell? ⟨w1.heap.size, 2, none⟩ = some (.slice Aa ma.v.length ca) := B3_1.cell 2
    have f3_1_2 : w3.frozen? ⟨w1.heap.size, 2, none⟩ = false := B3_1.frozen 2
    obtain ⟨e1, e2⟩ := RMp.one hrb HRA.out
    subst e1 e2
    have hvl : mb.v.length ≤ 25 := RMp.vlen hrb
    clear HRA
    have hab : Apart Aa Ab := apart_new hlta F3_sb
    clear hlta
    go_wp2_with fail
    obtain ⟨u4, hu4⟩ : ∃ u, u = (w3.alloc (.cells #[.int .i64 mb.r, .int .i64 mb.c, .slice Ab mb.v.length cb] 37)) := ⟨_, rfl⟩
    rw [← hu4]
    have hzu4 : u4.heap.size ≤ w3.heap.size + 1 := by rw [hu4]; simp
    have hyu4 : w3.heap.size + 1 ≤ u4.heap.size := by rw [hu4]; simp
    have B4_1 : Blk u4 (w1.heap.size) 37 #[.int .i64 mb.r, .int .i64 mb.c, .slice Aa mb.v.length ca] := by rw [hu4]; exact (B3_1.alloc (.cells #[.int .i64 mb.r, .int .i64 mb.c, .slice Ab mb.v.length cb] 37))
    have B4_2 : Blk u4 (w3.heap.size) 37 #[.int .i64 mb.r, .int .i64 mb.c, .slice Ab mb.v.length cb] := by rw [hu4]; have h := (Blk.new w3 37 #[.int .i64 mb.r, .int .i64 mb.c, .slice Ab mb.v.length cb]); simpa using h
    have xb2 : w.heap.size ≤ w3.heap.size := by omega
    have y1_2 : w1.heap.size < w3.heap.size := by have := B3_1.lt; omega
    have O4 : Below w.heap.size w u4 := by rw [hu4]; exact (O3.alloc (by first | omega | (simp; done) | (simp; omega)) _)
    have m4 : w.heap.size ≤ u4.heap.size := by omega
    have F4_sa : OS u4 w.heap.size Aa mb.v.length ca mb.v := by rw [hu4]; exact (F3_sa.alloc _)
    have F4_sb : OS u4 u2.heap.size Ab mb.v.length cb mb.v := by rw [hu4]; exact (F3_sb.alloc _)
    clear B3_1 O3 F3_sa F3_sb z3_1 c3_1_0 f3_1_0 c3_1_1 f3_1_1 c3_1_2 f3_1_2
    clear hu4
    go_wp2_with fail
    refine (l_eqMatrix mb.r mb.c mb.v Ab Aa _ cb _ ca u4 F4_sb.si F4_sa.si (by omega) (by omega)).mono ?_
    rintro e w5 ⟨rfl, hb⟩
    have B5_1 := (B4_1.below' hb)
    have B5_2 := (B4_2.below' hb)
    have O5 := O4.trans (hb.mono (by omega))
    have m5 : w.heap.size ≤ w5.heap.size := by have := hb.size; omega
    have F5_sa := F4_sa.below hb
    have F5_sb := F4_sb.below hb
    clear B4_1 B4_2 O4 F4_sa F4_sb hb
    have z5_1 : w1.heap.size < w5.heap.size := B5_1.lt
    have c5_1_0 : w5.cell? ⟨w1.heap.size, 0, none⟩ = some (.int .i64 mb.r) := B5_1.cell 0
    have f5_1_0 : w5.frozen? ⟨w1.heap.size, 0, none⟩ = false := B5_1.frozen 0
    have c5_1_1 : w5.cell? ⟨w1.heap.size, 1, none⟩ = some (.int .i64 mb.c) := B5_1.cell 1
    have f5_1_1 : w5.frozen? ⟨w1.heap.size, 1, none⟩ = false := B5_1.frozen 1
    have c5_1_2 : w5.cell? ⟨w1.heap.size, 2, none⟩ = some (.slice Aa mb.v.length ca) := B5_1.cell 2
    have f5_1_2 : w5.frozen? ⟨w1.heap.size, 2, none⟩ = false := B5_1.frozen 2
    have z5_2 : w3.heap.size < w5.heap.size := B5_2.lt
    have c5_2_0 : w5.cell? ⟨w3.heap.size, 0, none⟩ = some (.int .i64 mb.r) := B5_2.cell 0
    have f5_2_0 : w5.frozen? ⟨w3.heap.size, 0, none⟩ = false := B5_2.frozen 0
    have c5_2_1 : w5.cell? ⟨w3.heap.size, 1, none⟩ = some (.int .i64 mb.c) := B5_2.cell 1
    have f5_2_1 : w5.frozen? ⟨w3.heap.size, 1, none⟩ = false := B5_2.frozen 1
    have c5_2_2 : w5.cell? ⟨w3.heap.size, 2, none⟩ = some (.slice Ab mb.v.length cb) := B5_2.cell 2
    have f5_2_2 : w5.frozen? ⟨w3.heap.size, 2, none⟩ = false := B5_2.frozen 2
    go_wp2_with fail
    refine (l_markMatrix mb.r mb.c mb.v _ Ab _ cb 1 w5 F5_sb (by omega) (by omega)).mono ?_
    rintro e w6 ⟨rfl, hos, hon⟩
    have B6_1 := Blk.onlyS B5_1 hon (blk_ne_own F5_sb B5_1 (by decide))
    have B6_2 := Blk.onlyS B5_2 hon (blk_ne_own F5_sb B5_2 (by decide))
    have F6_sa := F5_sa.onlyS hon hab
    have O6 := O5.trans (OnlyS.toBelow hon (B := w.heap.size) (fun g hg => Nat.le_trans (by omega) (F5_sb.blk_lt g hg).1) (by omega))
    have m6 : w.heap.size ≤ w6.heap.size := O6.size
    have F6_sb := hos
    clear B5_1 B5_2 F5_sa O5 F5_sb z5_1 c5_1_0 f5_1_0 c5_1_1 f5_1_1 c5_1_2 f5_1_2 z5_2 c5_2_0 f5_2_0 c5_2_1 f5_2_1 c5_2_2 f5_2_2 hos hon
    have z6_1 : w1.heap.size < w6.heap.size := B6_1.lt
    have c6_1_0 : w6.cell? ⟨w1.heap.size, 0, none⟩ = some (.int .i64 mb.r) := B6_1.cell 0
    have f6_1_0 : w6.frozen? ⟨w1.heap.size, 0, none⟩ = false := B6_1.frozen 0
    have c6_1_1 : w6.cell? ⟨w1.heap.size, 1, none⟩ = some (.int .i64 mb.c) := B6_1.cell 1
    have f6_1_1 : w6.frozen? ⟨w1.heap.size, 1, none⟩ = false := B6_1.frozen 1
    have c6_1_2 : w6.cell? ⟨w1.heap.size, 2, none⟩ = some (.slice Aa mb.v.length ca) := B6_1.cell 2
    have f6_1_2 : w6.frozen? ⟨w1.heap.size, 2, none⟩ = false := B6_1.frozen 2
    have z6_2 : w3.heap.size < w6.heap.size := B6_2.lt
    have c6_2_0 : w6.cell? ⟨w3.heap.size, 0, none⟩ = some (.int .i64 mb.r) := B6_2.cell 0
    have f6_2_0 : w6.frozen? ⟨w3.heap.size, 0, none⟩ = false := B6_2.frozen 0
    have c6_2_1 : w6.cell? ⟨w3.heap.size, 1, none⟩ = some (.int .i64 mb.c) := B6_2.cell 1
    have f6_2_1 : w6.frozen? ⟨w3.heap.size, 1, none⟩ = false := B6_2.frozen 1
    have c6_2_2 : w6.cell? ⟨w3.heap.size, 2, none⟩ = some (.slice Ab mb.v.length cb) := B6_2.cell 2
    have f6_2_2 : w6.frozen? ⟨w3.heap.size, 2, none⟩ = false := B6_2.frozen 2
    go_wp2_with fail
    refine (l_heldMatrix mb.r mb.c Ab _ cb 1 w6 F6_sb.si (by omega) (by omega)).mono ?_
    rintro e w7 ⟨rfl, hb⟩
    have B7_1 := (B6_1.below' hb)
    have B7_2 := (B6_2.below' hb)
    have O7 := O6.trans (hb.mono (by omega))
    have m7 : w.heap.size ≤ w7.heap.size := by have := hb.size; omega
    have F7_sa := F6_sa.below hb
    have F7_sb := F6_sb.below hb
    clear B6_1 B6_2 O6 F6_sa F6_sb hb z6_1 c6_1_0 f6_1_0 c6_1_1 f6_1_1 c6_1_2 f6_1_2 z6_2 c6_2_0 f6_2_0 c6_2_1 f6_2_1 c6_2_2 f6_2_2
    have z7_1 : w1.heap.size < w7.heap.size := B7_1.lt
    have c7_1_0 : w7.cell? ⟨w1.heap.size, 0, none⟩ = some (.int .i64 mb.r) := B7_1.cell 0
    have f7_1_0 : w7.frozen? ⟨w1.heap.size, 0, none⟩ = false := B7_1.frozen 0
    have c7_1_1 : w7.cell? ⟨w1.heap.size, 1, none⟩ = some (.int .i64 mb.c) := B7_1.cell 1
    have f7_1_1 : w7.frozen? ⟨w1.heap.size, 1, none⟩ = false := B7_1.frozen 1
    have c7_1_2 : w7.cell? ⟨w1.heap.size, 2, none⟩ = some (.slice Aa mb.v.length ca) := B7_1.cell 2
    have f7_1_2 : w7.frozen? ⟨w1.heap.size, 2, none⟩ = false := B7_1.frozen 2
    have z7_2 : w3.heap.size < w7.heap.size := B7_2.lt
    have c7_2_0 : w7.cell? ⟨w3.heap.size, 0, none⟩ = some (.int .i64 mb.r) := B7_2.cell 0
    have f7_2_0 : w7.frozen? ⟨w3.heap.size, 0, none⟩ = false := B7_2.frozen 0
    have c7_2_1 : w7.cell? ⟨w3.heap.size, 1, none⟩ = some (.int .i64 mb.c) := B7_2.cell 1
    have f7_2_1 : w7.frozen? ⟨w3.heap.size, 1, none⟩ = false := B7_2.frozen 1
    have c7_2_2 : w7.cell? ⟨w3.heap.size, 2, none⟩ = some (.slice Ab mb.v.length cb) := B7_2.cell 2
    have f7_2_2 : w7.frozen? ⟨w3.heap.size, 2, none⟩ = false := B7_2.frozen 2
    have hp1 : ¬ (1 : Int) + (mb.v.length : Int) < 0 := by omega
    go_wp2_with fail
    refine (i_ReadMatrix l hl w7 (HT.out.below O7 (Nat.le_refl _)) (HM.out.below O7 (Nat.le_refl _))).mono ?_
    rintro e w8 ⟨md, okd, Ad, cd, rfl, osd, hrd, hb⟩
    have B8_1 := (B7_1.below' hb)
    have B8_2 := (B7_2.below' hb)
    have O8 := O7.trans (hb.mono (by omega))
    have m8 : w.heap.size ≤ w8.heap.size := by have := hb.size; omega
    have F8_sa := F7_sa.below hb
    have F8_sb := F7_sb.below hb
    have F8_sd := osd
    clear B7_1 B7_2 O7 F7_sa F7_sb z7_1 c7_1_0 f7_1_0 c7_1_1 f7_1_1 c7_1_2 f7_1_2 z7_2 c7_2_0 f7_2_0 c7_2_1 f7_2_1 c7_2_2 f7_2_2 hb osd
    have z8_1 : w1.heap.size < w8.heap.size := B8_1.lt
    have c8_1_0 : w8.cell? ⟨w1.heap.size, 0, none⟩ = some (.int .i64 mb.r) := B8_1.cell 0
    have f8_1_0 : w8.frozen? ⟨w1.heap.size, 0, none⟩ = false := B8_1.frozen 0
    have c8_1_1 : w8.cell? ⟨w1.heap.size, 1, none⟩ = some (.int .i64 mb.c) := B8_1.cell 1
    have f8_1_1 : w8.frozen? ⟨w1.heap.size, 1, none⟩ = false := B8_1.frozen 1
    have c8_1_2 : w8.cell? ⟨w1.heap.size, 2, none⟩ = some (.slice Aa mb.v.length ca) := B8_1.cell 2
    have f8_1_2 : w8.frozen? ⟨w1.heap.size, 2, none⟩ = false := B8_1.frozen 2
    have z8_2 : w3.heap.size < w8.heap.size := B8_2.lt
    have c8_2_0 : w8.cell? ⟨w3.heap.size, 0, none⟩ = some (.int .i64 mb.r) := B8_2.cell 0
    have f8_2_0 : w8.frozen? ⟨w3.heap.size, 0, none⟩ = false := B8_2.frozen 0
    have c8_2_1 : w8.cell? ⟨w3.heap.size, 1, none⟩ = some (.int .i64 mb.c) := B8_2.cell 1
    have f8_2_1 : w8.frozen? ⟨w3.heap.size, 1, none⟩ = false := B8_2.frozen 1
    have c8_2_2 : w8.cell? ⟨w3.heap.size, 2, none⟩ = some (.slice Ab mb.v.length cb) := B8_2.cell 2
    have f8_2_2 : w8.frozen? ⟨w3.heap.size, 2, none⟩ = false := B8_2.frozen 2
    obtain ⟨e1, e2⟩ := RMp.one hrd hrb
    subst e1 e2
    clear hrb
    go_wp2_with fail
    obtain ⟨u9, hu9⟩ : ∃ u, u = (w8.alloc (.cells #[.int .i64 md.r, .int .i64 md.c, .slice Ad md.v.length cd] 37)) := ⟨_, rfl⟩
    rw [← hu9]
    have hzu9 : u9.heap.size ≤ w8.heap.size + 1 := by rw [hu9]; simp
    have hyu9 : w8.heap.size + 1 ≤ u9.heap.size := by rw [hu9]; simp
    have B9_1 : Blk u9 (w1.heap.size) 37 #[.int .i64 md.r, .int .i64 md.c, .slice Aa md.v.length ca] := by rw [hu9]; exact (B8_1.alloc (.cells #[.int .i64 md.r, .int .i64 md.c, .slice Ad md.v.length cd] 37))
    have B9_2 : Blk u9 (w3.heap.size) 37 #[.int .i64 md.r, .int .i64 md.c, .slice Ab md.v.length cb] := by rw [hu9]; exact (B8_2.alloc (.cells #[.int .i64 md.r, .int .i64 md.c, .slice Ad md.v.length cd] 37))
    have B9_3 : Blk u9 (w8.heap.size) 37 #[.int .i64 md.r, .int .i64 md.c, .slice Ad md.v.length cd] := by rw [hu9]; have h := (Blk.new w8 37 #[.int .i64 md.r, .int .i64 md.c, .slice Ad md.v.length cd]); simpa using h
    have xb3 : w.heap.size ≤ w8.heap.size := by omega
    have y1_3 : w1.heap.size < w8.heap.size := by have := B8_1.lt; omega
    have y2_3 : w3.heap.size < w8.heap.size := by have := B8_2.lt; omega
    have O9 : Below w.heap.size w u9 := by rw [hu9]; exact (O8.alloc (by first | omega | (simp; done) | (simp; omega)) _)
    have m9 : w.heap.size ≤ u9.heap.size := by omega
    have F9_sa : OS u9 w.heap.size Aa md.v.length ca md.v := by rw [hu9]; exact (F8_sa.alloc _)
    have F9_sb : OS u9 u2.heap.size Ab md.v.length cb (marks 1 md.v.length) := by rw [hu9]; exact (F8_sb.alloc _)
    have F9_sd : OS u9 w7.heap.size Ad md.v.length cd md.v := by rw [hu9]; exact (F8_sd.alloc _)
    clear B8_1 B8_2 O8 F8_sa F8_sb F8_sd z8_1 c8_1_0 f8_1_0 c8_1_1 f8_1_1 c8_1_2 f8_1_2 z8_2 c8_2_0 f8_2_0 c8_2_1 f8_2_1 c8_2_2 f8_2_2
    clear hu9
    go_wp2_with fail
    refine (l_eqMatrix md.r md.c md.v Ad Aa _ cd _ ca u9 F9_sd.si F9_sa.si (by omega) (by omega)).mono ?_
    rintro e w10 ⟨rfl, hb⟩
    have B10_1 := (B9_1.below' hb)
    have B10_2 := (B9_2.below' hb)
    have B10_3 := (B9_3.below' hb)
    have O10 := O9.trans (hb.mono (by omega))
    have m10 : w.heap.size ≤ w10.heap.size := by have := hb.size; omega
    have F10_sa := F9_sa.below hb
    have F10_sb := F9_sb.below hb
    have F10_sd := F9_sd.below hb
    clear B9_1 B9_2 B9_3 O9 F9_sa F9_sb F9_sd hb
    have z10_1 : w1.heap.size < w10.heap.size := B10_1.lt
    have c10_1_0 : w10.cell? ⟨w1.heap.size, 0, none⟩ = some (.int .i64 md.r) := B10_1.cell 0
    have f10_1_0 : w10.frozen? ⟨w1.heap.size, 0, none⟩ = false := B10_1.frozen 0
    have c10_1_1 : w10.cell? ⟨w1.heap.size, 1, none⟩ = some (.int .i64 md.c) := B10_1.cell 1
    have f10_1_1 : w10.frozen? ⟨w1.heap.size, 1, none⟩ = false := B10_1.frozen 1
    have c10_1_2 : w10.cell? ⟨w1.heap.size, 2, none⟩ = some (.slice Aa md.v.length ca) := B10_1.cell 2
    have f10_1_2 : w10.frozen? ⟨w1.heap.size, 2, none⟩ = false := B10_1.frozen 2
    have z10_2 : w3.heap.size < w10.heap.size := B10_2.lt
    have c10_2_0 : w10.cell? ⟨w3.heap.size, 0, none⟩ = some (.int .i64 md.r) := B10_2.cell 0
    have f10_2_0 : w10.frozen? ⟨w3.heap.size, 0, none⟩ = false := B10_2.frozen 0
    have c10_2_1 : w10.cell? ⟨w3.heap.size, 1, none⟩ = some (.int .i64 md.c) := B10_2.cell 1
    have f10_2_1 : w10.frozen? ⟨w3.heap.size, 1, none⟩ = false := B10_2.frozen 1
    have c10_2_2 : w10.cell? ⟨w3.heap.size, 2, none⟩ = some (.slice Ab md.v.length cb) := B10_2.cell 2
    have f10_2_2 : w10.frozen? ⟨w3.heap.size, 2, none⟩ = false := B10_2.frozen 2
    have z10_3 : w8.heap.size < w10.heap.size := B10_3.lt
    have c10_3_0 : w10.cell? ⟨w8.heap.size, 0, none⟩ = some (.int .i64 md.r) := B10_3.cell 0
    have f10_3_0 : w10.frozen? ⟨w8.heap.size, 0, none⟩ = false := B10_3.frozen 0
    have c10_3_1 : w10.cell? ⟨w8.heap.size, 1, none⟩ = some (.int .i64 md.c) := B10_3.cell 1
    have f10_3_1 : w10.frozen? ⟨w8.heap.size, 1, none⟩ = false := B10_3.frozen 1
    have c10_3_2 : w10.cell? ⟨w8.heap.size, 2, none⟩ = some (.slice Ad md.v.length cd) := B10_3.cell 2
    have f10_3_2 : w10.frozen? ⟨w8.heap.size, 2, none⟩ = false := B10_3.frozen 2
    go_wp2_with fail
    refine (l_heldMatrix md.r md.c Ab _ cb 1 w10 F10_sb.si (by omega) (by omega)).mono ?_
    rintro e w11 ⟨rfl, hb⟩
    have B11_1 := (B10_1.below' hb)
    have B11_2 := (B10_2.below' hb)
    have B11_3 := (B10_3.below' hb)
    have O11 := O10.trans (hb.mono (by omega))
    have m11 : w.heap.size ≤ w11.heap.size := by have := hb.size; omega
    have F11_sa := F10_sa.below hb
    have F11_sb := F10_sb.below hb
    have F11_sd := F10_sd.below hb
    clear B10_1 B10_2 B10_3 O10 F10_sa F10_sb F10_sd hb z10_1 c10_1_0 f10_1_0 c10_1_1 f10_1_1 c10_1_2 f10_1_2 z10_2 c10_2_0 f10_2_0 c10_2_1 f10_2_1 c10_2_2 f10_2_2 z10_3 c10_3_0 f10_3_0 c10_3_1 f10_3_1 c10_3_2 f10_3_2
    have z11_1 : w1.heap.size < w11.heap.size := B11_1.lt
    have c11_1_0 : w11.cell? ⟨w1.heap.size, 0, none⟩ = some (.int .i64 md.r) := B11_1.cell 0
    have f11_1_0 : w11.frozen? ⟨w1.heap.size, 0, none⟩ = false := B11_1.frozen 0
    have c11_1_1 : w11.cell? ⟨w1.heap.size, 1, none⟩ = some (.int .i64 md.c) := B11_1.cell 1
    have f11_1_1 : w11.frozen? ⟨w1.heap.size, 1, none⟩ = false := B11_1.frozen 1
    have c11_1_2 : w11.cell? ⟨w1.heap.size, 2, none⟩ = some (.slice Aa md.v.length ca) := B11_1.cell 2
    have f11_1_2 : w11.frozen? ⟨w1.heap.size, 2, none⟩ = false := B11_1.frozen 2
    have z11_2 : w3.heap.size < w11.heap.size := B11_2.lt
    have c11_2_0 : w11.cell? ⟨w3.heap.size, 0, none⟩ = some (.int .i64 md.r) := B11_2.cell 0
    have f11_2_0 : w11.frozen? ⟨w3.heap.size, 0, none⟩ = false := B11_2.frozen 0
    have c11_2_1 : w11.cell? ⟨w3.heap.size, 1, none⟩ = some (.int .i64 md.c) := B11_2.cell 1
    have f11_2_1 : w11.frozen? ⟨w3.heap.size, 1, none⟩ = false := B11_2.frozen 1
    have c11_2_2 : w11.cell? ⟨w3.heap.size, 2, none⟩ = some (.slice Ab md.v.length cb) := B11_2.cell 2
    have f11_2_2 : w11.frozen? ⟨w3.heap.size, 2, none⟩ = false := B11_2.frozen 2
    have z11_3 : w8.heap.size < w11.heap.size := B11_3.lt
    have c11_3_0 : w11.cell? ⟨w8.heap.size, 0, none⟩ = some (.int .i64 md.r) := B11_3.cell 0
    have f11_3_0 : w11.frozen? ⟨w8.heap.size, 0, none⟩ = false := B11_3.frozen 0
    have c11_3_1 : w11.cell? ⟨w8.heap.size, 1, none⟩ = some (.int .i64 md.c) := B11_3.cell 1
    have f11_3_1 : w11.frozen? ⟨w8.heap.size, 1, none⟩ = false := B11_3.frozen 1
    have c11_3_2 : w11.cell? ⟨w8.heap.size, 2, none⟩ = some (.slice Ad md.v.length cd) := B11_3.cell 2
    have f11_3_2 : w11.frozen? ⟨w8.heap.size, 2, none⟩ = false := B11_3.frozen 2
    go_wp2
    go_ret
    exact ⟨rfl, O11⟩
end Go.Proofs.YtcmgnnfkgkibgaaDoor

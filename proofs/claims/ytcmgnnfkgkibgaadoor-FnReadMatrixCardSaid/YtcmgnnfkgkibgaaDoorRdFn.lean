/-
  FnReadMatrix: the draw; the walk. Printed by gen_rdfn.py.
-/
import Derived.Test.YtcmgnnfkgkibgaaDoorMxFn
namespace Go.Proofs.YtcmgnnfkgkibgaaDoor
open Go.RowKit
set_option linter.unusedVariables false
set_option linter.unusedSimpArgs false

theorem app_size (a b : ByteArray) : (a ++ b).size = a.size + b.size := ByteArray.size_append
theorem str13 (s : ByteArray) (hs : s.size ≤ 9000) (q : Int) (q0 : 0 ≤ q) (q1 : q < 13) : ∃ t : ByteArray, (#[.string ⟨#[]⟩, .string ⟨#[59]⟩, .string ⟨#[49, 59]⟩, .string ⟨#[49, 59, 32]⟩, .string ⟨#[49, 32, 50, 59, 32, 51]⟩, .string ⟨#[49, 59, 50]⟩, .string ⟨#[49, 32, 32, 50]⟩, .string ⟨#[49, 32, 50, 32, 51, 32, 52, 32, 53, 32, 54]⟩, .string ⟨#[49, 59, 32, 50, 59, 32, 51, 59, 32, 52, 59, 32, 53, 59, 32, 54]⟩, .string ⟨#[97]⟩, .string (s ++ ⟨#[32]⟩), .string (s ++ ⟨#[59]⟩), .string ⟨#[49, 46, 53, 59, 32, 45, 50]⟩] : Array Value)[q.toNat]? = some (.string t) ∧ t.size ≤ 10000 := by
  have hq : q = 0 ∨ q = 1 ∨ q = 2 ∨ q = 3 ∨ q = 4 ∨ q = 5 ∨ q = 6 ∨ q = 7 ∨ q = 8 ∨ q = 9 ∨ q = 10 ∨ q = 11 ∨ q = 12 := by omega
  have e1 : (s ++ (⟨#[32]⟩ : ByteArray)).size ≤ 10000 := by rw [app_size]; show s.size + 1 ≤ _; omega
  have e2 : (s ++ (⟨#[59]⟩ : ByteArray)).size ≤ 10000 := by rw [app_size]; show s.size + 1 ≤ _; omega
  rcases hq with rfl | rfl | rfl | rfl | rfl | rfl | rfl | rfl | rfl | rfl | rfl | rfl | rfl
  all_goals first
    | exact ⟨_, rfl, by decide⟩
    | exact ⟨_, rfl, e1⟩
    | exact ⟨_, rfl, e2⟩
theorem no_space {m : Mx} {l : List UInt8} (h : mvB m = true) (e : mt m = l ++ [32]) : False := by
  obtain ⟨R, C, e1, e2, hR, _, hC, _, hl, h25, _⟩ := mv_facts h
  rw [mt_ok h e1 e2, ← st_rows m.v C (by omega) R (by omega)] at e
  have hp : 0 < R * C := Nat.mul_pos (by omega) (by omega)
  obtain ⟨k, hk⟩ : ∃ k, R * C = k + 1 := ⟨R * C - 1, by omega⟩
  rw [hk] at e
  unfold st at e
  have hg := congrArg List.getLast? e
  rw [List.getLast?_concat] at hg
  cases hf : (fx (m.v.getD k 0)).getLast? with
  | none => exact fx_ne _ (List.getLast?_eq_none_iff.1 hf)
  | some y =>
    rw [List.getLast?_append, hf] at hg
    have hy : y = 32 := by simpa using hg
    have hm := List.mem_of_getLast? hf
    rw [hy] at hm
    exact fx_not _ (.inl rfl) hm
theorem mt_len2 (m : Mx) : (mt m).length ≤ 9000 := by
  by_cases h : mvB m = true
  · obtain ⟨R, C, e1, e2, _, _, hC, _, hl, h25, _⟩ := mv_facts h
    unfold mt
    rw [if_pos h, e1, e2, Int.toNat_natCast, Int.toNat_natCast, ← st_rows m.v C (by omega) R (by omega)]
    have := st_len m.v C (R * C)
    omega
  · unfold mt
    rw [if_neg h]
    exact Nat.zero_le _
/-- a text drawn -/
def Drm (w : World) (e : Ending) (w' : World) : Prop := ∃ t : ByteArray, e = .returned (.string t) ∧ t.size ≤ 10000 ∧ Below w.heap.size w w'

set_option maxHeartbeats 2000000 in
theorem s_DrawReadMatrix (A : Option Addr) (len cap : Nat) (w : World) (hl : len ≤ cap) (hm : cap ≤ maxLen) (hr : Bytes w w.heap.size A len) (h0 : A = none → cap = 0) : Calls Tryd.prog 26 #[.slice A len cap] w (Drm w) := by
  go_enter Tryd.func26, Tryd.ntmps26
  go_wp2_with fail
  refine (s_l20Open A len cap w hl hm hr h0).mono ?_
  rintro e w1 ⟨rfl, hr, hb, hlt⟩
  have hrb : w.heap.size ≤ w.heap.size := by omega
  have O1 := (Below.refl w.heap.size w).trans (hb.mono (by omega))
  have m1 : w.heap.size ≤ w1.heap.size := by have := hb.size; omega
  have R1 := hr
  clear hr hb
  go_wp2_with fail
  refine (s_l20Side _ _ w1 R1 (by omega)).mono ?_
  rintro e w2 ⟨x, rfl, x0, x1, hr, ho⟩
  have O2 := O1.trans (Only.toBelow ho (B := w.heap.size) (by omega) (by omega))
  have m2 : w.heap.size ≤ w2.heap.size := by have := ho.size; omega
  have R2 : Rd w2 (w.heap.size) (0 + 2) := hr.mono (by omega)
  clear O1 R1 hr ho
  go_wp2_with fail
  refine (s_l20Side _ _ w2 R2 (by omega)).mono ?_
  rintro e w3 ⟨y, rfl, y0, y1, hr, ho⟩
  have O3 := O2.trans (Only.toBelow ho (B := w.heap.size) (by omega) (by omega))
  have m3 : w.heap.size ≤ w3.heap.size := by have := ho.size; omega
  have R3 : Rd w3 (w.heap.size) (0 + 2 + 2) := hr.mono (by omega)
  clear O2 R2 hr ho
  go_wp2_with fail
  refine (s_l20Matrix _ _ x y 0 ⟨x0, x1⟩ ⟨y0, y1⟩ (by omega) w3 R3 (by omega)).mono ?_
  rintro e w4 ⟨r, c, A', cp, v, rfl, hos, hvl, hr, ho⟩
  have O4 := O3.trans (Only.toBelow ho (B := w.heap.size) (by omega) (by omega))
  have m4 : w.heap.size ≤ w4.heap.size := by have := ho.size; omega
  have R4 : Rd w4 (w.heap.size) (0 + 2 + 2 + 220) := hr.mono (by omega)
  clear O3 R3 hr ho
  go_wp2_with fail
  refine (s_MatrixText r c v A' _ cp w4 hos.si (by omega)).mono ?_
  rintro e w5 ⟨rfl, hb⟩
  have O5 := O4.trans (hb.mono (by omega))
  have m5 : w.heap.size ≤ w5.heap.size := by have := hb.size; omega
  have R5 := R4.below hb
  obtain ⟨s, hs⟩ : ∃ s, s = bs (mt ⟨r, c, v⟩) := ⟨_, rfl⟩
  have hs9 : s.size ≤ 9000 := by rw [hs, bs_size]; exact mt_len2 _
  rw [← hs]
  clear hs hos
  clear O4 R4 hb
  go_wp2_with fail
  refine (s_odd _ _ 3 (by omega) _ R5 (by omega)).mono ?_
  rintro e w6 ⟨od, rfl, hr, ho⟩
  have O6 := O5.trans (Only.toBelow ho (B := w.heap.size) (by omega) (by omega))
  have m6 : w.heap.size ≤ w6.heap.size := by have := ho.size; omega
  have R6 : Rd w6 (w.heap.size) (0 + 2 + 2 + 220 + 1) := hr.mono (by omega)
  clear O5 R5 hr ho
  cases od
  · go_wp2
    go_ret
    exact ⟨s, rfl, by omega, O6⟩
  · have ho1 := no_over (a := s.size) (b := 1) (by omega)
    go_wp2_with fail
    obtain ⟨u7, hu7⟩ : ∃ u, u = (w6.alloc (.cells #[.string ⟨#[]⟩, .string ⟨#[59]⟩, .string ⟨#[49, 59]⟩, .string ⟨#[49, 59, 32]⟩, .string ⟨#[49, 32, 50, 59, 32, 51]⟩, .string ⟨#[49, 59, 50]⟩, .string ⟨#[49, 32, 32, 50]⟩, .string ⟨#[49, 32, 50, 32, 51, 32, 52, 32, 53, 32, 54]⟩, .string ⟨#[49, 59, 32, 50, 59, 32, 51, 59, 32, 52, 59, 32, 53, 59, 32, 54]⟩, .string ⟨#[97]⟩, .string (s ++ ⟨#[32]⟩), .string (s ++ ⟨#[59]⟩), .string ⟨#[49, 46, 53, 59, 32, 45, 50]⟩] 9)) := ⟨_, rfl⟩
    rw [← hu7]
    have hzu7 : u7.heap.size ≤ w6.heap.size + 1 := by rw [hu7]; simp
    have hyu7 : w6.heap.size + 1 ≤ u7.heap.size := by rw [hu7]; simp
    have B7_1 : Blk u7 (w6.heap.size) 9 #[.string ⟨#[]⟩, .string ⟨#[59]⟩, .string ⟨#[49, 59]⟩, .string ⟨#[49, 59, 32]⟩, .string ⟨#[49, 32, 50, 59, 32, 51]⟩, .string ⟨#[49, 59, 50]⟩, .string ⟨#[49, 32, 32, 50]⟩, .string ⟨#[49, 32, 50, 32, 51, 32, 52, 32, 53, 32, 54]⟩, .string ⟨#[49, 59, 32, 50, 59, 32, 51, 59, 32, 52, 59, 32, 53, 59, 32, 54]⟩, .string ⟨#[97]⟩, .string (s ++ ⟨#[32]⟩), .string (s ++ ⟨#[59]⟩), .string ⟨#[49, 46, 53, 59, 32, 45, 50]⟩] := by rw [hu7]; have h := (Blk.new w6 9 #[.string ⟨#[]⟩, .string ⟨#[59]⟩, .string ⟨#[49, 59]⟩, .string ⟨#[49, 59, 32]⟩, .string ⟨#[49, 32, 50, 59, 32, 51]⟩, .string ⟨#[49, 59, 50]⟩, .string ⟨#[49, 32, 32, 50]⟩, .string ⟨#[49, 32, 50, 32, 51, 32, 52, 32, 53, 32, 54]⟩, .string ⟨#[49, 59, 32, 50, 59, 32, 51, 59, 32, 52, 59, 32, 53, 59, 32, 54]⟩, .string ⟨#[97]⟩, .string (s ++ ⟨#[32]⟩), .string (s ++ ⟨#[59]⟩), .string ⟨#[49, 46, 53, 59, 32, 45, 50]⟩]); simpa using h
    have xb1 : w.heap.size ≤ w6.heap.size := by omega
    have x1 : w.heap.size < w6.heap.size := by have := R6.lt; omega
    have R7 : Rd u7 (w.heap.size) (0 + 2 + 2 + 220 + 1) := by rw [hu7]; exact (R6.alloc _)
    have O7 : Below w.heap.size w u7 := by rw [hu7]; exact (O6.alloc (by first | omega | (simp; done) | (simp; omega)) _)
    have m7 : w.heap.size ≤ u7.heap.size := by omega
    clear R6 O6
    clear hu7
    refine (s_pick _ _ 13 _ R7 (by omega)).mono ?_
    rintro e w8 ⟨q, rfl, q0, q1, hr, ho⟩
    have B8_1 := (B7_1.only ho (by omega))
    have O8 := O7.trans (Only.toBelow ho (B := w.heap.size) (by omega) (by omega))
    have m8 : w.heap.size ≤ w8.heap.size := by have := ho.size; omega
    have R8 : Rd w8 (w.heap.size) (0 + 2 + 2 + 220 + 1 + 1) := hr.mono (by omega)
    clear B7_1 O7 R7 hr ho
    have z8_1 : w6.heap.size < w8.heap.size := B8_1.lt
    have c8_1_0 : w8.cell? ⟨w6.heap.size, 0, none⟩ = some (.string ⟨#[]⟩) := B8_1.cell 0
    have f8_1_0 : w8.frozen? ⟨w6.heap.size, 0, none⟩ = false := B8_1.frozen 0
    have c8_1_1 : w8.cell? ⟨w6.heap.size, 1, none⟩ = some (.string ⟨#[59]⟩) := B8_1.cell 1
    have f8_1_1 : w8.frozen? ⟨w6.heap.size, 1, none⟩ = false := B8_1.frozen 1
    have c8_1_2 : w8.cell? ⟨w6.heap.size, 2, none⟩ = some (.string ⟨#[49, 59]⟩) := B8_1.cell 2
    have f8_1_2 : w8.frozen? ⟨w6.heap.size, 2, none⟩ = false := B8_1.frozen 2
    have c8_1_3 : w8.cell? ⟨w6.heap.size, 3, none⟩ = some (.string ⟨#[49, 59, 32]⟩) := B8_1.cell 3
    have f8_1_3 : w8.frozen? ⟨w6.heap.size, 3, none⟩ = false := B8_1.frozen 3
    have c8_1_4 : w8.cell? ⟨w6.heap.size, 4, none⟩ = some (.string ⟨#[49, 32, 50, 59, 32, 51]⟩) := B8_1.cell 4
    have f8_1_4 : w8.frozen? ⟨w6.heap.size, 4, none⟩ = false := B8_1.frozen 4
    have c8_1_5 : w8.cell? ⟨w6.heap.size, 5, none⟩ = some (.string ⟨#[49, 59, 50]⟩) := B8_1.cell 5
    have f8_1_5 : w8.frozen? ⟨w6.heap.size, 5, none⟩ = false := B8_1.frozen 5
    have c8_1_6 : w8.cell? ⟨w6.heap.size, 6, none⟩ = some (.string ⟨#[49, 32, 32, 50]⟩) := B8_1.cell 6
    have f8_1_6 : w8.frozen? ⟨w6.heap.size, 6, none⟩ = false := B8_1.frozen 6
    have c8_1_7 : w8.cell? ⟨w6.heap.size, 7, none⟩ = some (.string ⟨#[49, 32, 50, 32, 51, 32, 52, 32, 53, 32, 54]⟩) := B8_1.cell 7
    have f8_1_7 : w8.frozen? ⟨w6.heap.size, 7, none⟩ = false := B8_1.frozen 7
    have c8_1_8 : w8.cell? ⟨w6.heap.size, 8, none⟩ = some (.string ⟨#[49, 59, 32, 50, 59, 32, 51, 59, 32, 52, 59, 32, 53, 59, 32, 54]⟩) := B8_1.cell 8
    have f8_1_8 : w8.frozen? ⟨w6.heap.size, 8, none⟩ = false := B8_1.frozen 8
    have c8_1_9 : w8.cell? ⟨w6.heap.size, 9, none⟩ = some (.string ⟨#[97]⟩) := B8_1.cell 9
    have f8_1_9 : w8.frozen? ⟨w6.heap.size, 9, none⟩ = false := B8_1.frozen 9
    have c8_1_10 : w8.cell? ⟨w6.heap.size, 10, none⟩ = some (.string (s ++ ⟨#[32]⟩)) := B8_1.cell 10
    have f8_1_10 : w8.frozen? ⟨w6.heap.size, 10, none⟩ = false := B8_1.frozen 10
    have c8_1_11 : w8.cell? ⟨w6.heap.size, 11, none⟩ = some (.string (s ++ ⟨#[59]⟩)) := B8_1.cell 11
    have f8_1_11 : w8.frozen? ⟨w6.heap.size, 11, none⟩ = false := B8_1.frozen 11
    have c8_1_12 : w8.cell? ⟨w6.heap.size, 12, none⟩ = some (.string ⟨#[49, 46, 53, 59, 32, 45, 50]⟩) := B8_1.cell 12
    have f8_1_12 : w8.frozen? ⟨w6.heap.size, 12, none⟩ = false := B8_1.frozen 12
    have q2 : q < 13 := by omega
    clear q1
    obtain ⟨t, htt, hts⟩ := str13 s hs9 q q0 q2
    have cq : w8.cell? ⟨w6.heap.size, q.toNat, none⟩ = some (.string t) := (B8_1.cell q.toNat).trans htt
    clear htt c8_1_0 c8_1_1 c8_1_2 c8_1_3 c8_1_4 c8_1_5 c8_1_6 c8_1_7 c8_1_8 c8_1_9 c8_1_10 c8_1_11 c8_1_12
    go_wp2
    go_ret
    exact ⟨t, rfl, hts, O8⟩

set_option maxHeartbeats 4000000 in
theorem FnReadMatrix_walk (A : Option Addr) (len cap : Nat) (zs : List Int) (w : World) (ht : Tab w) (hm : MaxL w) (hw : IsRow .u8 w A len cap zs) : Calls Tryd.prog 8 #[.slice A len cap] w fun e w' => e = .returned (.bool true) ∧ Below w.heap.size w w' := by
  obtain ⟨hl, hcm, hr, hn0⟩ := code_of_row hw
  by_cases hbig : 1048576 < len
  · clear hr hn0 hw ht hm
    have h1 : (1048576 : Int) < (len : Int) := by omega
    go_enter Tryd.func8, Tryd.ntmps8
    go_wp2
    go_ret
    exact ⟨rfl, Below.refl _ _⟩
  · have h1 : (1048576 : Int) < (len : Int) ↔ False := by simp; omega
    have HT := Lib.hid ht
    have HM := Lib.hid hm
    clear ht hm hbig hw
    go_enter Tryd.func8, Tryd.ntmps8
    go_wp2_with fail
    refine (s_DrawReadMatrix A len cap w hl hcm hr hn0).mono ?_
    rintro e w1 ⟨t, rfl, hts, hb⟩
    have O1 := (Below.refl w.heap.size w).trans (hb.mono (by omega))
    have m1 : w.heap.size ≤ w1.heap.size := by have := hb.size; omega
    obtain ⟨l, hll⟩ : ∃ l, t = bs l := ⟨t.data.toList, (bs_list t).symm⟩
    have hl1 : l.length ≤ 10000 := by rw [hll, bs_size] at hts; exact hts
    have HI : Hid (∀ W : World, Tab W → MaxL W → Calls Tryd.prog 20 #[.string t] W (RMx l W)) := by
      intro W h1 h2
      have h := i_ReadMatrix l (by omega) W h1 h2
      rw [← hll] at h
      exact h
    have HS : Hid (∀ W : World, Calls Tryd.prog 19 #[.string t] W (RMx l W)) := by
      intro W
      have h := s_ReadMatrix l (by omega) W
      rw [← hll] at h
      exact h
    have HJ : Hid (∀ W : World, Tab W → MaxL W → Calls Tryd.prog 20 #[.string (t ++ ⟨#[32]⟩)] W (RMx (l ++ [32]) W)) := by
      intro W h1 h2
      have h := i_ReadMatrix (l ++ [32]) (by simp; omega) W h1 h2
      rw [← bs_app, ← hll] at h
      exact h
    have HL := Lib.hid hll
    clear hll
    clear hb
    go_wp2_with fail
    refine (HI.out w1 (HT.out.below O1 (Nat.le_refl _)) (HM.out.below O1 (Nat.le_refl _))).mono ?_
    rintro e w2 ⟨ma, oka, Aa, ca, rfl, osa, hra, hb⟩
    have O2 := O1.trans (hb.mono (by omega))
    have m2 : w.heap.size ≤ w2.heap.size := by have := hb.size; omega
    have F2_a := osa
    clear O1 hb osa
    have HRA := Lib.hid hra
    clear hra
    go_wp2_with fail
    obtain ⟨u3, hu3⟩ : ∃ u, u = (w2.alloc (.cells #[.int .i64 ma.r, .int .i64 ma.c, .slice Aa ma.v.length ca] 37)) := ⟨_, rfl⟩
    rw [← hu3]
    have hzu3 : u3.heap.size ≤ w2.heap.size + 1 := by rw [hu3]; simp
    have hyu3 : w2.heap.size + 1 ≤ u3.heap.size := by rw [hu3]; simp
    have B3_1 : Blk u3 (w2.heap.size) 37 #[.int .i64 ma.r, .int .i64 ma.c, .slice Aa ma.v.length ca] := by rw [hu3]; have h := (Blk.new w2 37 #[.int .i64 ma.r, .int .i64 ma.c, .slice Aa ma.v.length ca]); simpa using h
    have xb1 : w.heap.size ≤ w2.heap.size := by omega
    have O3 : Below w.heap.size w u3 := by rw [hu3]; exact (O2.alloc (by first | omega | (simp; done) | (simp; omega)) _)
    have m3 : w.heap.size ≤ u3.heap.size := by omega
    have F3_a : OS u3 w1.heap.size Aa ma.v.length ca ma.v := by rw [hu3]; exact (F2_a.alloc _)
    clear O2 F2_a
    clear hu3
    go_wp2_with fail
    refine (HS.out u3).mono ?_
    rintro e w4 ⟨m, ok, A2, c2, rfl, osb, hrb, hb⟩
    have B4_1 := (B3_1.below' hb)
    have O4 := O3.trans (hb.mono (by omega))
    have m4 : w.heap.size ≤ w4.heap.size := by have := hb.size; omega
    have F4_a := F3_a.below hb
    have F4_b := osb
    clear B3_1 O3 F3_a hb osb
    have z4_1 : w2.heap.size < w4.heap.size := B4_1.lt
    have c4_1_0 : w4.cell? ⟨w2.heap.size, 0, none⟩ = some (.int .i64 ma.r) := B4_1.cell 0
    have f4_1_0 : w4.frozen? ⟨w2.heap.size, 0, none⟩ = false := B4_1.frozen 0
    have c4_1_1 : w4.cell? ⟨w2.heap.size, 1, none⟩ = some (.int .i64 ma.c) := B4_1.cell 1
    have f4_1_1 : w4.frozen? ⟨w2.heap.size, 1, none⟩ = false := B4_1.frozen 1
    have c4_1_2 : w4.cell? ⟨w2.heap.size, 2, none⟩ = some (.slice Aa ma.v.length ca) := B4_1.cell 2
    have f4_1_2 : w4.frozen? ⟨w2.heap.size, 2, none⟩ = false := B4_1.frozen 2
    obtain ⟨e1, e2⟩ := RMp.one hrb HRA.out
    subst e1 e2
    have hvl : m.v.length ≤ 25 := RMp.vlen hrb
    have HR := Lib.hid hrb
    clear HRA hrb
    go_wp2_with fail
    obtain ⟨u5, hu5⟩ : ∃ u, u = (w4.alloc (.cells #[.int .i64 m.r, .int .i64 m.c, .slice A2 m.v.length c2] 37)) := ⟨_, rfl⟩
    rw [← hu5]
    have hzu5 : u5.heap.size ≤ w4.heap.size + 1 := by rw [hu5]; simp
    have hyu5 : w4.heap.size + 1 ≤ u5.heap.size := by rw [hu5]; simp
    have B5_1 : Blk u5 (w2.heap.size) 37 #[.int .i64 m.r, .int .i64 m.c, .slice Aa m.v.length ca] := by rw [hu5]; exact (B4_1.alloc (.cells #[.int .i64 m.r, .int .i64 m.c, .slice A2 m.v.length c2] 37))
    have B5_2 : Blk u5 (w4.heap.size) 37 #[.int .i64 m.r, .int .i64 m.c, .slice A2 m.v.length c2] := by rw [hu5]; have h := (Blk.new w4 37 #[.int .i64 m.r, .int .i64 m.c, .slice A2 m.v.length c2]); simpa using h
    have xb2 : w.heap.size ≤ w4.heap.size := by omega
    have y1_2 : w2.heap.size < w4.heap.size := by have := B4_1.lt; omega
    have O5 : Below w.heap.size w u5 := by rw [hu5]; exact (O4.alloc (by first | omega | (simp; done) | (simp; omega)) _)
    have m5 : w.heap.size ≤ u5.heap.size := by omega
    have F5_a : OS u5 w1.heap.size Aa m.v.length ca m.v := by rw [hu5]; exact (F4_a.alloc _)
    have F5_b : OS u5 u3.heap.size A2 m.v.length c2 m.v := by rw [hu5]; exact (F4_b.alloc _)
    clear B4_1 O4 F4_a F4_b z4_1 c4_1_0 f4_1_0 c4_1_1 f4_1_1 c4_1_2 f4_1_2
    clear hu5
    go_wp2_with fail
    refine (l_sameMatrix m.r m.c m.v Aa A2 _ ca _ c2 u5 F5_a.si F5_b.si (by omega) (by omega)).mono ?_
    rintro e w6 ⟨rfl, hb⟩
    have B6_1 := (B5_1.below' hb)
    have B6_2 := (B5_2.below' hb)
    have O6 := O5.trans (hb.mono (by omega))
    have m6 : w.heap.size ≤ w6.heap.size := by have := hb.size; omega
    have F6_a := F5_a.below hb
    have F6_b := F5_b.below hb
    clear B5_1 B5_2 O5 F5_a F5_b hb
    have z6_1 : w2.heap.size < w6.heap.size := B6_1.lt
    have c6_1_0 : w6.cell? ⟨w2.heap.size, 0, none⟩ = some (.int .i64 m.r) := B6_1.cell 0
    have f6_1_0 : w6.frozen? ⟨w2.heap.size, 0, none⟩ = false := B6_1.frozen 0
    have c6_1_1 : w6.cell? ⟨w2.heap.size, 1, none⟩ = some (.int .i64 m.c) := B6_1.cell 1
    have f6_1_1 : w6.frozen? ⟨w2.heap.size, 1, none⟩ = false := B6_1.frozen 1
    have c6_1_2 : w6.cell? ⟨w2.heap.size, 2, none⟩ = some (.slice Aa m.v.length ca) := B6_1.cell 2
    have f6_1_2 : w6.frozen? ⟨w2.heap.size, 2, none⟩ = false := B6_1.frozen 2
    have z6_2 : w4.heap.size < w6.heap.size := B6_2.lt
    have c6_2_0 : w6.cell? ⟨w4.heap.size, 0, none⟩ = some (.int .i64 m.r) := B6_2.cell 0
    have f6_2_0 : w6.frozen? ⟨w4.heap.size, 0, none⟩ = false := B6_2.frozen 0
    have c6_2_1 : w6.cell? ⟨w4.heap.size, 1, none⟩ = some (.int .i64 m.c) := B6_2.cell 1
    have f6_2_1 : w6.frozen? ⟨w4.heap.size, 1, none⟩ = false := B6_2.frozen 1
    have c6_2_2 : w6.cell? ⟨w4.heap.size, 2, none⟩ = some (.slice A2 m.v.length c2) := B6_2.cell 2
    have f6_2_2 : w6.frozen? ⟨w4.heap.size, 2, none⟩ = false := B6_2.frozen 2
    cases ok
    · have hz0 : m.r = 0 := by
        rcases HR.out with ⟨h, _⟩ | ⟨_, h, _⟩
        · cases h
        · rw [h]; rfl
      go_wp2_with fail
      refine (l_alive w6).mono ?_
      rintro e w' ⟨rfl, rfl⟩
      go_wp2
      go_ret
      exact ⟨rfl, O6⟩
    · have HV : Hid (mvB m = true ∧ mt m = l) := by
        rcases HR.out with ⟨_, h1, h2⟩ | ⟨h, _⟩
        · exact ⟨h1, h2⟩
        · cases h
      have ho1 := no_over (a := t.size) (b := 1) (by omega)
      have hcp := F6_a.cap_le
      go_wp2_with fail
      refine (HJ.out w6 (HT.out.below O6 (Nat.le_refl _)) (HM.out.below O6 (Nat.le_refl _))).mono ?_
      rintro e w7 ⟨md, okd, Ad, cd, rfl, osd, hrd, hb⟩
      have B7_1 := (B6_1.below' hb)
      have B7_2 := (B6_2.below' hb)
      have O7 := O6.trans (hb.mono (by omega))
      have m7 : w.heap.size ≤ w7.heap.size := by have := hb.size; omega
      have F7_a := F6_a.below hb
      have F7_b := F6_b.below hb
      have F7_d := osd
      clear B6_1 B6_2 O6 F6_a F6_b z6_1 c6_1_0 f6_1_0 c6_1_1 f6_1_1 c6_1_2 f6_1_2 z6_2 c6_2_0 f6_2_0 c6_2_1 f6_2_1 c6_2_2 f6_2_2 hb osd
      have z7_1 : w2.heap.size < w7.heap.size := B7_1.lt
      have c7_1_0 : w7.cell? ⟨w2.heap.size, 0, none⟩ = some (.int .i64 m.r) := B7_1.cell 0
      have f7_1_0 : w7.frozen? ⟨w2.heap.size, 0, none⟩ = false := B7_1.frozen 0
      have c7_1_1 : w7.cell? ⟨w2.heap.size, 1, none⟩ = some (.int .i64 m.c) := B7_1.cell 1
      have f7_1_1 : w7.frozen? ⟨w2.heap.size, 1, none⟩ = false := B7_1.frozen 1
      have c7_1_2 : w7.cell? ⟨w2.heap.size, 2, none⟩ = some (.slice Aa m.v.length ca) := B7_1.cell 2
      have f7_1_2 : w7.frozen? ⟨w2.heap.size, 2, none⟩ = false := B7_1.frozen 2
      have z7_2 : w4.heap.size < w7.heap.size := B7_2.lt
      have c7_2_0 : w7.cell? ⟨w4.heap.size, 0, none⟩ = some (.int .i64 m.r) := B7_2.cell 0
      have f7_2_0 : w7.frozen? ⟨w4.heap.size, 0, none⟩ = false := B7_2.frozen 0
      have c7_2_1 : w7.cell? ⟨w4.heap.size, 1, none⟩ = some (.int .i64 m.c) := B7_2.cell 1
      have f7_2_1 : w7.frozen? ⟨w4.heap.size, 1, none⟩ = false := B7_2.frozen 1
      have c7_2_2 : w7.cell? ⟨w4.heap.size, 2, none⟩ = some (.slice A2 m.v.length c2) := B7_2.cell 2
      have f7_2_2 : w7.frozen? ⟨w4.heap.size, 2, none⟩ = false := B7_2.frozen 2
      obtain rfl : okd = false := by
        rcases hrd with ⟨_, h1, h2⟩ | ⟨h, _⟩
        · exact (no_space h1 h2).elim
        · exact h
      clear hrd
      go_wp2_with fail
      obtain ⟨u8, hu8⟩ : ∃ u, u = (w7.alloc (.cells #[.int .i64 md.r, .int .i64 md.c, .slice Ad md.v.length cd] 37)) := ⟨_, rfl⟩
      rw [← hu8]
      have hzu8 : u8.heap.size ≤ w7.heap.size + 1 := by rw [hu8]; simp
      have hyu8 : w7.heap.size + 1 ≤ u8.heap.size := by rw [hu8]; simp
      have B8_1 : Blk u8 (w2.heap.size) 37 #[.int .i64 m.r, .int .i64 m.c, .slice Aa m.v.length ca] := by rw [hu8]; exact (B7_1.alloc (.cells #[.int .i64 md.r, .int .i64 md.c, .slice Ad md.v.length cd] 37))
      have B8_2 : Blk u8 (w4.heap.size) 37 #[.int .i64 m.r, .int .i64 m.c, .slice A2 m.v.length c2] := by rw [hu8]; exact (B7_2.alloc (.cells #[.int .i64 md.r, .int .i64 md.c, .slice Ad md.v.length cd] 37))
      have B8_3 : Blk u8 (w7.heap.size) 37 #[.int .i64 md.r, .int .i64 md.c, .slice Ad md.v.length cd] := by rw [hu8]; have h := (Blk.new w7 37 #[.int .i64 md.r, .int .i64 md.c, .slice Ad md.v.length cd]); simpa using h
      have xb3 : w.heap.size ≤ w7.heap.size := by omega
      have y1_3 : w2.heap.size < w7.heap.size := by have := B7_1.lt; omega
      have y2_3 : w4.heap.size < w7.heap.size := by have := B7_2.lt; omega
      have O8 : Below w.heap.size w u8 := by rw [hu8]; exact (O7.alloc (by first | omega | (simp; done) | (simp; omega)) _)
      have m8 : w.heap.size ≤ u8.heap.size := by omega
      have F8_a : OS u8 w1.heap.size Aa m.v.length ca m.v := by rw [hu8]; exact (F7_a.alloc _)
      have F8_b : OS u8 u3.heap.size A2 m.v.length c2 m.v := by rw [hu8]; exact (F7_b.alloc _)
      have F8_d : OS u8 w6.heap.size Ad md.v.length cd md.v := by rw [hu8]; exact (F7_d.alloc _)
      clear B7_1 B7_2 O7 F7_a F7_b F7_d z7_1 c7_1_0 f7_1_0 c7_1_1 f7_1_1 c7_1_2 f7_1_2 z7_2 c7_2_0 f7_2_0 c7_2_1 f7_2_1 c7_2_2 f7_2_2
      clear hu8
      go_wp2_with fail
      refine (i_MatrixText m.r m.c m.v Aa _ ca u8 (HT.out.below O8 (Nat.le_refl _)) F8_a.si (by omega) hcp.1 hcp.2).mono ?_
      rintro e w9 ⟨rfl, hb⟩
      have B9_1 := (B8_1.below' hb)
      have B9_2 := (B8_2.below' hb)
      have B9_3 := (B8_3.below' hb)
      have O9 := O8.trans (hb.mono (by omega))
      have m9 : w.heap.size ≤ w9.heap.size := by have := hb.size; omega
      have F9_a := F8_a.below hb
      have F9_b := F8_b.below hb
      have F9_d := F8_d.below hb
      have he : bs (mt ⟨m.r, m.c, m.v⟩) = t := by rw [HL.out, ← HV.out.2]
      rw [he]
      clear he
      clear B8_1 B8_2 B8_3 O8 F8_a F8_b F8_d hb
      have z9_1 : w2.heap.size < w9.heap.size := B9_1.lt
      have c9_1_0 : w9.cell? ⟨w2.heap.size, 0, none⟩ = some (.int .i64 m.r) := B9_1.cell 0
      have f9_1_0 : w9.frozen? ⟨w2.heap.size, 0, none⟩ = false := B9_1.frozen 0
      have c9_1_1 : w9.cell? ⟨w2.heap.size, 1, none⟩ = some (.int .i64 m.c) := B9_1.cell 1
      have f9_1_1 : w9.frozen? ⟨w2.heap.size, 1, none⟩ = false := B9_1.frozen 1
      have c9_1_2 : w9.cell? ⟨w2.heap.size, 2, none⟩ = some (.slice Aa m.v.length ca) := B9_1.cell 2
      have f9_1_2 : w9.frozen? ⟨w2.heap.size, 2, none⟩ = false := B9_1.frozen 2
      have z9_2 : w4.heap.size < w9.heap.size := B9_2.lt
      have c9_2_0 : w9.cell? ⟨w4.heap.size, 0, none⟩ = some (.int .i64 m.r) := B9_2.cell 0
      have f9_2_0 : w9.frozen? ⟨w4.heap.size, 0, none⟩ = false := B9_2.frozen 0
      have c9_2_1 : w9.cell? ⟨w4.heap.size, 1, none⟩ = some (.int .i64 m.c) := B9_2.cell 1
      have f9_2_1 : w9.frozen? ⟨w4.heap.size, 1, none⟩ = false := B9_2.frozen 1
      have c9_2_2 : w9.cell? ⟨w4.heap.size, 2, none⟩ = some (.slice A2 m.v.length c2) := B9_2.cell 2
      have f9_2_2 : w9.frozen? ⟨w4.heap.size, 2, none⟩ = false := B9_2.frozen 2
      have z9_3 : w7.heap.size < w9.heap.size := B9_3.lt
      have c9_3_0 : w9.cell? ⟨w7.heap.size, 0, none⟩ = some (.int .i64 md.r) := B9_3.cell 0
      have f9_3_0 : w9.frozen? ⟨w7.heap.size, 0, none⟩ = false := B9_3.frozen 0
      have c9_3_1 : w9.cell? ⟨w7.heap.size, 1, none⟩ = some (.int .i64 md.c) := B9_3.cell 1
      have f9_3_1 : w9.frozen? ⟨w7.heap.size, 1, none⟩ = false := B9_3.frozen 1
      have c9_3_2 : w9.cell? ⟨w7.heap.size, 2, none⟩ = some (.slice Ad md.v.length cd) := B9_3.cell 2
      have f9_3_2 : w9.frozen? ⟨w7.heap.size, 2, none⟩ = false := B9_3.frozen 2
      go_wp2
      go_ret
      exact ⟨rfl, O9⟩
end Go.Proofs.YtcmgnnfkgkibgaaDoor

/-
  THE WALKS of the exact laws on numbers in three parts. Printed by gen_three.py.
-/
import Derived.Test.YtlhaocccdkpjaaaThreeB
import Derived.Deep.DeepCutAuto
namespace Go.Proofs.Ytlhaocccdkpjaaa
open Go.RowKit
set_option linter.unusedVariables false
set_option linter.unusedSimpArgs false

theorem FnExactThreeValid_walk (a b c : Int) (w : World) (wa : (Lit.int .i64 a).wf = true) (wb : (Lit.int .i64 b).wf = true) (wc : (Lit.int .i64 c).wf = true) :
    Calls Try.prog 5 #[T3 a b c] w fun e w' => e = .returned (.bool true) ∧ Below w.heap.size w w' := by
  clear wa wb wc
  go_enter Try.func5, Try.ntmps5
  go_wp2_with fail
  refine (l_toThree _ _ _ _).mono ?_
  rintro e w1 ⟨rfl, hb1⟩
  obtain ⟨hc1, hf1⟩ := bcell hb1
  have hs1 := hb1.size
  try simp at hs1
  have z1_0 : w.heap.size < w1.heap.size := by omega
  have y1 : w.heap.size ≤ w1.heap.size := by omega
  clear hs1
  go_wp2_with fail
  refine (s_ThreeValid _ _ _ _).mono ?_
  rintro e w2 ⟨rfl, hb2⟩
  obtain ⟨hc2, hf2⟩ := bcell hb2
  have hs2 := hb2.size
  try simp at hs2
  have z2_0 : w.heap.size < w2.heap.size := by omega
  have y2 : w.heap.size ≤ w2.heap.size := by omega
  clear hs2
  go_wp2_with fail
  refine (l_toThree _ _ _ _).mono ?_
  rintro e w3 ⟨rfl, hb3⟩
  obtain ⟨hc3, hf3⟩ := bcell hb3
  have hs3 := hb3.size
  try simp at hs3
  have z3_0 : w.heap.size < w3.heap.size := by omega
  have y3 : w.heap.size ≤ w3.heap.size := by omega
  clear hs3
  go_wp2_with fail
  refine (i_ThreeValid _ _ _ _).mono ?_
  rintro e w4 ⟨rfl, hb4⟩
  obtain ⟨hc4, hf4⟩ := bcell hb4
  have hs4 := hb4.size
  try simp at hs4
  have z4_0 : w.heap.size < w4.heap.size := by omega
  have y4 : w.heap.size ≤ w4.heap.size := by omega
  clear hs4
  go_wp2
  go_ret
  exact ⟨rfl, (by repeat (first | assumption | exact Below.refl _ _ | apply Below.drew | (refine Below.setCell ?_ (by (first | omega | (simp <;> omega))) _) | (refine Below.alloc ?_ (by (first | omega | (simp <;> omega))) _) | (refine bstep (by assumption) (by (first | omega | (simp <;> omega))) ?_)))⟩

theorem FnExactJoinThree_walk (a b c : Int) (w : World) (wa : (Lit.int .i64 a).wf = true) (wb : (Lit.int .i64 b).wf = true) (wc : (Lit.int .i64 c).wf = true) :
    Calls Try.prog 7 #[T3 a b c] w fun e w' => e = .returned (.bool true) ∧ Below w.heap.size w w' := by
  clear wa wb wc
  go_enter Try.func7, Try.ntmps7
  go_wp2_with fail
  refine (l_toThree _ _ _ _).mono ?_
  rintro e w1 ⟨rfl, hb1⟩
  obtain ⟨hc1, hf1⟩ := bcell hb1
  have hs1 := hb1.size
  try simp at hs1
  have z1_0 : w.heap.size < w1.heap.size := by omega
  have y1 : w.heap.size ≤ w1.heap.size := by omega
  clear hs1
  go_wp2_with fail
  refine (s_JoinThree _ _ _ _).mono ?_
  rintro e w2 ⟨rfl, hb2⟩
  obtain ⟨hc2, hf2⟩ := bcell hb2
  have hs2 := hb2.size
  try simp at hs2
  have z2_0 : w.heap.size < w2.heap.size := by omega
  have y2 : w.heap.size ≤ w2.heap.size := by omega
  clear hs2
  go_wp2_with fail
  refine (l_toThree _ _ _ _).mono ?_
  rintro e w3 ⟨rfl, hb3⟩
  obtain ⟨hc3, hf3⟩ := bcell hb3
  have hs3 := hb3.size
  try simp at hs3
  have z3_0 : w.heap.size < w3.heap.size := by omega
  have y3 : w.heap.size ≤ w3.heap.size := by omega
  clear hs3
  go_wp2_with fail
  refine (i_JoinThree _ _ _ _).mono ?_
  rintro e w4 ⟨rfl, hb4⟩
  obtain ⟨hc4, hf4⟩ := bcell hb4
  have hs4 := hb4.size
  try simp at hs4
  have z4_0 : w.heap.size < w4.heap.size := by omega
  have y4 : w.heap.size ≤ w4.heap.size := by omega
  clear hs4
  go_wp2
  go_ret
  exact ⟨rfl, (by repeat (first | assumption | exact Below.refl _ _ | apply Below.drew | (refine Below.setCell ?_ (by (first | omega | (simp <;> omega))) _) | (refine Below.alloc ?_ (by (first | omega | (simp <;> omega))) _) | (refine bstep (by assumption) (by (first | omega | (simp <;> omega))) ?_)))⟩

theorem FnExactSplitThree_walk (x r s : Int) (w : World) (wx : (Lit.int .i64 x).wf = true) (wr : (Lit.int .i64 r).wf = true) (ws : (Lit.int .i64 s).wf = true) :
    Calls Try.prog 6 #[.int .i64 x, .int .i64 r, .int .i64 s] w fun e w' => e = .returned (.bool true) ∧ Below w.heap.size w w' := by
  clear wx wr ws
  go_enter Try.func6, Try.ntmps6
  go_wp2_with fail
  refine (s_SplitThree _ _ _ _).mono ?_
  rintro e w1 ⟨rfl, hb1⟩
  obtain ⟨hc1, hf1⟩ := bcell hb1
  have hs1 := hb1.size
  try simp at hs1
  have y1 : w.heap.size ≤ w1.heap.size := by omega
  clear hs1
  go_wp2_with fail
  refine (i_SplitThree _ _ _ _).mono ?_
  rintro e w2 ⟨rfl, hb2⟩
  obtain ⟨hc2, hf2⟩ := bcell hb2
  have hs2 := hb2.size
  try simp at hs2
  have z2_0 : w1.heap.size < w2.heap.size := by omega
  have y2 : w.heap.size ≤ w2.heap.size := by omega
  clear hs2
  go_wp2_with fail
  refine (l_eqThree_same _ _ _ _).mono ?_
  rintro e w3 ⟨rfl, hb3⟩
  obtain ⟨hc3, hf3⟩ := bcell hb3
  have hs3 := hb3.size
  try simp at hs3
  have z3_0 : w1.heap.size < w3.heap.size := by omega
  have z3_1 : w2.heap.size < w3.heap.size := by omega
  have y3 : w.heap.size ≤ w3.heap.size := by omega
  clear hs3
  go_wp2
  go_ret
  exact ⟨rfl, (by repeat (first | assumption | exact Below.refl _ _ | apply Below.drew | (refine Below.setCell ?_ (by (first | omega | (simp <;> omega))) _) | (refine Below.alloc ?_ (by (first | omega | (simp <;> omega))) _) | (refine bstep (by assumption) (by (first | omega | (simp <;> omega))) ?_)))⟩

set_option maxHeartbeats 2000000 in
theorem FnExactAddThree_walk (a b c d e f : Int) (w : World) (wa : (Lit.int .i64 a).wf = true) (wb : (Lit.int .i64 b).wf = true) (wc : (Lit.int .i64 c).wf = true) (wd : (Lit.int .i64 d).wf = true) (we : (Lit.int .i64 e).wf = true) (wf : (Lit.int .i64 f).wf = true) :
    Calls Try.prog 8 #[T3 a b c, T3 d e f] w fun e w' => e = .returned (.bool true) ∧ Below w.heap.size w w' := by
  clear wa wb wc wd we wf
  go_enter Try.func8, Try.ntmps8
  go_upto_region 1 with fail
  obtain ⟨u0, hu0⟩ : ∃ u, u = ((w.alloc (.cells #[.int .i64 a, .int .i64 b, .int .i64 c] 26)).alloc (.cells #[.int .i64 d, .int .i64 e, .int .i64 f] 26)) := ⟨_, rfl⟩
  rw [← hu0]
  have hB_0 : Below w.heap.size w u0 := by rw [hu0]; exact (by repeat (first | assumption | exact Below.refl _ _ | apply Below.drew | (refine Below.setCell ?_ (by (first | omega | (simp <;> omega))) _) | (refine Below.alloc ?_ (by (first | omega | (simp <;> omega))) _) | (refine bstep (by assumption) (by (first | omega | (simp <;> omega))) ?_)))
  have hz_0 : u0.heap.size = w.heap.size + 2 := by rw [hu0]; simp
  have c0_0 : u0.cell? ⟨w.heap.size, 0, none⟩ = some (.int .i64 a) := by rw [hu0]; simp [go_sem, World.cell?_alloc_past]
  have c0_1 : u0.cell? ⟨w.heap.size, 1, none⟩ = some (.int .i64 b) := by rw [hu0]; simp [go_sem, World.cell?_alloc_past]
  have c0_2 : u0.cell? ⟨w.heap.size, 2, none⟩ = some (.int .i64 c) := by rw [hu0]; simp [go_sem, World.cell?_alloc_past]
  have c0_3 : u0.cell? ⟨w.heap.size + 1, 0, none⟩ = some (.int .i64 d) := by rw [hu0]; simp [go_sem, World.cell?_alloc_past]
  have c0_4 : u0.cell? ⟨w.heap.size + 1, 1, none⟩ = some (.int .i64 e) := by rw [hu0]; simp [go_sem, World.cell?_alloc_past]
  have c0_5 : u0.cell? ⟨w.heap.size + 1, 2, none⟩ = some (.int .i64 f) := by rw [hu0]; simp [go_sem, World.cell?_alloc_past]
  have l0_0 : w.heap.size < u0.heap.size := by omega
  have l0_1 : w.heap.size + 1 < u0.heap.size := by omega
  have n_0 : w.heap.size ≤ u0.heap.size := by omega
  clear hu0 hz_0
  go_cut [5] (fun s5 wx => ∃ g1_0 : Nat, s5 = .pointer (some ⟨g1_0, 0, none⟩) ∧ Below u0.heap.size u0 wx ∧ u0.heap.size ≤ g1_0 ∧ g1_0 < wx.heap.size ∧ wx.cell? ⟨g1_0, 0, none⟩ = some (.int .i64 (ad (tv a b c && tv d e f) ((a + d) % 4096))) ∧ wx.cell? ⟨g1_0, 1, none⟩ = some (.int .i64 (ad (tv a b c && tv d e f) ((b + e) % 4096))) ∧ wx.cell? ⟨g1_0, 2, none⟩ = some (.int .i64 (ad (tv a b c && tv d e f) ((c + f) % 4096))))
  case first =>
    have kp : ∀ w' : World, Below u0.heap.size u0 w' → (Below u0.heap.size u0 w' ∧ w'.cell? ⟨w.heap.size, 0, none⟩ = some (.int .i64 a) ∧ w'.cell? ⟨w.heap.size, 1, none⟩ = some (.int .i64 b) ∧ w'.cell? ⟨w.heap.size, 2, none⟩ = some (.int .i64 c) ∧ w'.cell? ⟨w.heap.size + 1, 0, none⟩ = some (.int .i64 d) ∧ w'.cell? ⟨w.heap.size + 1, 1, none⟩ = some (.int .i64 e) ∧ w'.cell? ⟨w.heap.size + 1, 2, none⟩ = some (.int .i64 f)) := fun w' h => ⟨h, (h.cell (p := ⟨w.heap.size, 0, none⟩) l0_0).trans c0_0, (h.cell (p := ⟨w.heap.size, 1, none⟩) l0_0).trans c0_1, (h.cell (p := ⟨w.heap.size, 2, none⟩) l0_0).trans c0_2, (h.cell (p := ⟨w.heap.size + 1, 0, none⟩) l0_1).trans c0_3, (h.cell (p := ⟨w.heap.size + 1, 1, none⟩) l0_1).trans c0_4, (h.cell (p := ⟨w.heap.size + 1, 2, none⟩) l0_1).trans c0_5⟩
    have KP := Lib.hid kp
    clear kp
    go_region_held3 (fun w' => Below u0.heap.size u0 w' ∧ w'.cell? ⟨w.heap.size, 0, none⟩ = some (.int .i64 a) ∧ w'.cell? ⟨w.heap.size, 1, none⟩ = some (.int .i64 b) ∧ w'.cell? ⟨w.heap.size, 2, none⟩ = some (.int .i64 c) ∧ w'.cell? ⟨w.heap.size + 1, 0, none⟩ = some (.int .i64 d) ∧ w'.cell? ⟨w.heap.size + 1, 1, none⟩ = some (.int .i64 e) ∧ w'.cell? ⟨w.heap.size + 1, 2, none⟩ = some (.int .i64 f)) ((refine KP.out _ ?_; ((repeat (first | assumption | exact Below.refl _ _ | apply Below.drew | (refine Below.setCell ?_ ?_ _; rotate_left; focus ((first | omega | (simp <;> omega)))) | (refine Below.alloc ?_ ?_ _; rotate_left; focus ((first | omega | (simp <;> omega)))) | (refine bstep (by assumption) ?_ ?_; focus ((first | omega | (simp <;> omega)))))); done)))
      (first
        | (go_at_call 20; refine (l_toThree _ _ _ _).mono ?_; rintro e w' ⟨rfl, hb⟩; (try go_split_ands); have hB0 := bstep (B := u0.heap.size) hb (by first | omega | (simp; done) | (simp; omega)) (by first | assumption | exact (Below.refl _ _).drew); have hsz := hB0.size; (try simp at hsz); obtain ⟨hc, hf⟩ := bcell hb; (try (have hlc := Nat.lt_of_lt_of_le hlb hb.size)); (try (have hlb := Nat.lt_of_lt_of_le hla hb.size)); have hla := hb.size; (try simp at hla); (try (have hla := Nat.lt_of_succ_le hla)))
        | (go_at_call 27; refine (s_AddThree _ _ _ _ _ _ _).mono ?_; rintro e w' ⟨rfl, hb⟩; (try go_split_ands); have hB0 := bstep (B := u0.heap.size) hb (by first | omega | (simp; done) | (simp; omega)) (by first | assumption | exact (Below.refl _ _).drew); have hsz := hB0.size; (try simp at hsz); obtain ⟨hc, hf⟩ := bcell hb; (try (have hlc := Nat.lt_of_lt_of_le hlb hb.size)); (try (have hlb := Nat.lt_of_lt_of_le hla hb.size)); have hla := hb.size; (try simp at hla); (try (have hla := Nat.lt_of_succ_le hla))))
    all_goals (go_wp2_with fail; go_meet; exact ⟨_, rfl, (by repeat (first | assumption | exact Below.refl _ _ | apply Below.drew | (refine Below.setCell ?_ (by (first | omega | (simp <;> omega))) _) | (refine Below.alloc ?_ (by (first | omega | (simp <;> omega))) _) | (refine bstep (by assumption) (by (first | omega | (simp <;> omega))) ?_))), (by (first | omega | (simp <;> omega))), (by (first | omega | (simp <;> omega))), (by go_simp), (by go_simp), (by go_simp)⟩)
  case rest =>
    obtain ⟨g1_0, rfl, hb, ga0, gb0, d0_0, d0_1, d0_2⟩ := hcut
    obtain ⟨u1, rfl⟩ : ∃ u : World, u = wc := ⟨_, rfl⟩
    have m_1 := hb.size
    have l1_0 : w.heap.size < u1.heap.size := by omega
    have l1_1 : w.heap.size + 1 < u1.heap.size := by omega
    have c1_0 : u1.cell? ⟨w.heap.size, 0, none⟩ = some (.int .i64 a) := (hb.cell (p := ⟨w.heap.size, 0, none⟩) l0_0).trans c0_0
    have c1_1 : u1.cell? ⟨w.heap.size, 1, none⟩ = some (.int .i64 b) := (hb.cell (p := ⟨w.heap.size, 1, none⟩) l0_0).trans c0_1
    have c1_2 : u1.cell? ⟨w.heap.size, 2, none⟩ = some (.int .i64 c) := (hb.cell (p := ⟨w.heap.size, 2, none⟩) l0_0).trans c0_2
    have c1_3 : u1.cell? ⟨w.heap.size + 1, 0, none⟩ = some (.int .i64 d) := (hb.cell (p := ⟨w.heap.size + 1, 0, none⟩) l0_1).trans c0_3
    have c1_4 : u1.cell? ⟨w.heap.size + 1, 1, none⟩ = some (.int .i64 e) := (hb.cell (p := ⟨w.heap.size + 1, 1, none⟩) l0_1).trans c0_4
    have c1_5 : u1.cell? ⟨w.heap.size + 1, 2, none⟩ = some (.int .i64 f) := (hb.cell (p := ⟨w.heap.size + 1, 2, none⟩) l0_1).trans c0_5
    have hB_1 := bstep hb n_0 hB_0
    have n_1 : w.heap.size ≤ u1.heap.size := by omega
    clear c0_0 c0_1 c0_2 c0_3 c0_4 c0_5 l0_0 l0_1 m_1 hB_0 n_0 hb
    have l1_2 := gb0
    have c1_6 := d0_0
    have c1_7 := d0_1
    have c1_8 := d0_2
    clear ga0 gb0 d0_0 d0_1 d0_2
    go_upto_region 2 with fail
    go_cut [6] (fun s6 wx => ∃ g2_0 : Nat, s6 = .pointer (some ⟨g2_0, 0, none⟩) ∧ Below u1.heap.size u1 wx ∧ u1.heap.size ≤ g2_0 ∧ g2_0 < wx.heap.size ∧ wx.cell? ⟨g2_0, 0, none⟩ = some (.int .i64 (ad (tv a b c && tv d e f) ((a + d) % 4096))) ∧ wx.cell? ⟨g2_0, 1, none⟩ = some (.int .i64 (ad (tv a b c && tv d e f) ((b + e) % 4096))) ∧ wx.cell? ⟨g2_0, 2, none⟩ = some (.int .i64 (ad (tv a b c && tv d e f) ((c + f) % 4096))))
    case first =>
      have kp : ∀ w' : World, Below u1.heap.size u1 w' → (Below u1.heap.size u1 w' ∧ w'.cell? ⟨w.heap.size, 0, none⟩ = some (.int .i64 a) ∧ w'.cell? ⟨w.heap.size, 1, none⟩ = some (.int .i64 b) ∧ w'.cell? ⟨w.heap.size, 2, none⟩ = some (.int .i64 c) ∧ w'.cell? ⟨w.heap.size + 1, 0, none⟩ = some (.int .i64 d) ∧ w'.cell? ⟨w.heap.size + 1, 1, none⟩ = some (.int .i64 e) ∧ w'.cell? ⟨w.heap.size + 1, 2, none⟩ = some (.int .i64 f)) := fun w' h => ⟨h, (h.cell (p := ⟨w.heap.size, 0, none⟩) l1_0).trans c1_0, (h.cell (p := ⟨w.heap.size, 1, none⟩) l1_0).trans c1_1, (h.cell (p := ⟨w.heap.size, 2, none⟩) l1_0).trans c1_2, (h.cell (p := ⟨w.heap.size + 1, 0, none⟩) l1_1).trans c1_3, (h.cell (p := ⟨w.heap.size + 1, 1, none⟩) l1_1).trans c1_4, (h.cell (p := ⟨w.heap.size + 1, 2, none⟩) l1_1).trans c1_5⟩
      have KP := Lib.hid kp
      clear kp
      go_region_held3 (fun w' => Below u1.heap.size u1 w' ∧ w'.cell? ⟨w.heap.size, 0, none⟩ = some (.int .i64 a) ∧ w'.cell? ⟨w.heap.size, 1, none⟩ = some (.int .i64 b) ∧ w'.cell? ⟨w.heap.size, 2, none⟩ = some (.int .i64 c) ∧ w'.cell? ⟨w.heap.size + 1, 0, none⟩ = some (.int .i64 d) ∧ w'.cell? ⟨w.heap.size + 1, 1, none⟩ = some (.int .i64 e) ∧ w'.cell? ⟨w.heap.size + 1, 2, none⟩ = some (.int .i64 f)) ((refine KP.out _ ?_; ((repeat (first | assumption | exact Below.refl _ _ | apply Below.drew | (refine Below.setCell ?_ ?_ _; rotate_left; focus ((first | omega | (simp <;> omega)))) | (refine Below.alloc ?_ ?_ _; rotate_left; focus ((first | omega | (simp <;> omega)))) | (refine bstep (by assumption) ?_ ?_; focus ((first | omega | (simp <;> omega)))))); done)))
        (first
          | (go_at_call 20; refine (l_toThree _ _ _ _).mono ?_; rintro e w' ⟨rfl, hb⟩; (try go_split_ands); have hB0 := bstep (B := u1.heap.size) hb (by first | omega | (simp; done) | (simp; omega)) (by first | assumption | exact (Below.refl _ _).drew); have hsz := hB0.size; (try simp at hsz); obtain ⟨hc, hf⟩ := bcell hb; (try (have hlc := Nat.lt_of_lt_of_le hlb hb.size)); (try (have hlb := Nat.lt_of_lt_of_le hla hb.size)); have hla := hb.size; (try simp at hla); (try (have hla := Nat.lt_of_succ_le hla)))
          | (go_at_call 28; refine (i_AddThree _ _ _ _ _ _ _).mono ?_; rintro e w' ⟨rfl, hb⟩; (try go_split_ands); have hB0 := bstep (B := u1.heap.size) hb (by first | omega | (simp; done) | (simp; omega)) (by first | assumption | exact (Below.refl _ _).drew); have hsz := hB0.size; (try simp at hsz); obtain ⟨hc, hf⟩ := bcell hb; (try (have hlc := Nat.lt_of_lt_of_le hlb hb.size)); (try (have hlb := Nat.lt_of_lt_of_le hla hb.size)); have hla := hb.size; (try simp at hla); (try (have hla := Nat.lt_of_succ_le hla))))
      all_goals (go_wp2_with fail; go_meet; exact ⟨_, rfl, (by repeat (first | assumption | exact Below.refl _ _ | apply Below.drew | (refine Below.setCell ?_ (by (first | omega | (simp <;> omega))) _) | (refine Below.alloc ?_ (by (first | omega | (simp <;> omega))) _) | (refine bstep (by assumption) (by (first | omega | (simp <;> omega))) ?_))), (by (first | omega | (simp <;> omega))), (by (first | omega | (simp <;> omega))), (by go_simp), (by go_simp), (by go_simp)⟩)
    case rest =>
      obtain ⟨g2_0, rfl, hb, ga0, gb0, d0_0, d0_1, d0_2⟩ := hcut
      obtain ⟨u2, rfl⟩ : ∃ u : World, u = wc := ⟨_, rfl⟩
      have m_2 := hb.size
      have l2_0 : w.heap.size < u2.heap.size := by omega
      have l2_1 : w.heap.size + 1 < u2.heap.size := by omega
      have l2_2 : g1_0 < u2.heap.size := by omega
      have c2_0 : u2.cell? ⟨w.heap.size, 0, none⟩ = some (.int .i64 a) := (hb.cell (p := ⟨w.heap.size, 0, none⟩) l1_0).trans c1_0
      have c2_1 : u2.cell? ⟨w.heap.size, 1, none⟩ = some (.int .i64 b) := (hb.cell (p := ⟨w.heap.size, 1, none⟩) l1_0).trans c1_1
      have c2_2 : u2.cell? ⟨w.heap.size, 2, none⟩ = some (.int .i64 c) := (hb.cell (p := ⟨w.heap.size, 2, none⟩) l1_0).trans c1_2
      have c2_3 : u2.cell? ⟨w.heap.size + 1, 0, none⟩ = some (.int .i64 d) := (hb.cell (p := ⟨w.heap.size + 1, 0, none⟩) l1_1).trans c1_3
      have c2_4 : u2.cell? ⟨w.heap.size + 1, 1, none⟩ = some (.int .i64 e) := (hb.cell (p := ⟨w.heap.size + 1, 1, none⟩) l1_1).trans c1_4
      have c2_5 : u2.cell? ⟨w.heap.size + 1, 2, none⟩ = some (.int .i64 f) := (hb.cell (p := ⟨w.heap.size + 1, 2, none⟩) l1_1).trans c1_5
      have c2_6 : u2.cell? ⟨g1_0, 0, none⟩ = some (.int .i64 (ad (tv a b c && tv d e f) ((a + d) % 4096))) := (hb.cell (p := ⟨g1_0, 0, none⟩) l1_2).trans c1_6
      have c2_7 : u2.cell? ⟨g1_0, 1, none⟩ = some (.int .i64 (ad (tv a b c && tv d e f) ((b + e) % 4096))) := (hb.cell (p := ⟨g1_0, 1, none⟩) l1_2).trans c1_7
      have c2_8 : u2.cell? ⟨g1_0, 2, none⟩ = some (.int .i64 (ad (tv a b c && tv d e f) ((c + f) % 4096))) := (hb.cell (p := ⟨g1_0, 2, none⟩) l1_2).trans c1_8
      have hB_2 := bstep hb n_1 hB_1
      have n_2 : w.heap.size ≤ u2.heap.size := by omega
      clear c1_0 c1_1 c1_2 c1_3 c1_4 c1_5 c1_6 c1_7 c1_8 l1_0 l1_1 l1_2 m_2 hB_1 n_1 hb
      have l2_3 := gb0
      have c2_9 := d0_0
      have c2_10 := d0_1
      have c2_11 := d0_2
      clear ga0 gb0 d0_0 d0_1 d0_2
      go_wp2_with fail
      refine (l_eqThree_same _ _ _ _).mono ?_
      rintro e u3 ⟨rfl, hb⟩
      have m_3 := hb.size
      have l3_0 : w.heap.size < u3.heap.size := by omega
      have l3_1 : w.heap.size + 1 < u3.heap.size := by omega
      have l3_2 : g1_0 < u3.heap.size := by omega
      have l3_3 : g2_0 < u3.heap.size := by omega
      have c3_0 : u3.cell? ⟨w.heap.size, 0, none⟩ = some (.int .i64 a) := (hb.cell (p := ⟨w.heap.size, 0, none⟩) l2_0).trans c2_0
      have c3_1 : u3.cell? ⟨w.heap.size, 1, none⟩ = some (.int .i64 b) := (hb.cell (p := ⟨w.heap.size, 1, none⟩) l2_0).trans c2_1
      have c3_2 : u3.cell? ⟨w.heap.size, 2, none⟩ = some (.int .i64 c) := (hb.cell (p := ⟨w.heap.size, 2, none⟩) l2_0).trans c2_2
      have c3_3 : u3.cell? ⟨w.heap.size + 1, 0, none⟩ = some (.int .i64 d) := (hb.cell (p := ⟨w.heap.size + 1, 0, none⟩) l2_1).trans c2_3
      have c3_4 : u3.cell? ⟨w.heap.size + 1, 1, none⟩ = some (.int .i64 e) := (hb.cell (p := ⟨w.heap.size + 1, 1, none⟩) l2_1).trans c2_4
      have c3_5 : u3.cell? ⟨w.heap.size + 1, 2, none⟩ = some (.int .i64 f) := (hb.cell (p := ⟨w.heap.size + 1, 2, none⟩) l2_1).trans c2_5
      have c3_6 : u3.cell? ⟨g1_0, 0, none⟩ = some (.int .i64 (ad (tv a b c && tv d e f) ((a + d) % 4096))) := (hb.cell (p := ⟨g1_0, 0, none⟩) l2_2).trans c2_6
      have c3_7 : u3.cell? ⟨g1_0, 1, none⟩ = some (.int .i64 (ad (tv a b c && tv d e f) ((b + e) % 4096))) := (hb.cell (p := ⟨g1_0, 1, none⟩) l2_2).trans c2_7
      have c3_8 : u3.cell? ⟨g1_0, 2, none⟩ = some (.int .i64 (ad (tv a b c && tv d e f) ((c + f) % 4096))) := (hb.cell (p := ⟨g1_0, 2, none⟩) l2_2).trans c2_8
      have c3_9 : u3.cell? ⟨g2_0, 0, none⟩ = some (.int .i64 (ad (tv a b c && tv d e f) ((a + d) % 4096))) := (hb.cell (p := ⟨g2_0, 0, none⟩) l2_3).trans c2_9
      have c3_10 : u3.cell? ⟨g2_0, 1, none⟩ = some (.int .i64 (ad (tv a b c && tv d e f) ((b + e) % 4096))) := (hb.cell (p := ⟨g2_0, 1, none⟩) l2_3).trans c2_10
      have c3_11 : u3.cell? ⟨g2_0, 2, none⟩ = some (.int .i64 (ad (tv a b c && tv d e f) ((c + f) % 4096))) := (hb.cell (p := ⟨g2_0, 2, none⟩) l2_3).trans c2_11
      have hB_3 := bstep hb n_2 hB_2
      have n_3 : w.heap.size ≤ u3.heap.size := by omega
      clear c2_0 c2_1 c2_2 c2_3 c2_4 c2_5 c2_6 c2_7 c2_8 c2_9 c2_10 c2_11 l2_0 l2_1 l2_2 l2_3 m_3 hB_2 n_2 hb
      go_wp2
      go_ret
      exact ⟨rfl, hB_3⟩

set_option maxHeartbeats 4000000 in
theorem FnExactMulThree_walk (a b c d e f g h i : Int) (w : World) (wa : (Lit.int .i64 a).wf = true) (wb : (Lit.int .i64 b).wf = true) (wc : (Lit.int .i64 c).wf = true) (wd : (Lit.int .i64 d).wf = true) (we : (Lit.int .i64 e).wf = true) (wf : (Lit.int .i64 f).wf = true) (wg : (Lit.int .i64 g).wf = true) (wh : (Lit.int .i64 h).wf = true) (wi : (Lit.int .i64 i).wf = true) :
    Calls Try.prog 9 #[T3 a b c, T3 d e f, T3 g h i] w fun e w' => e = .returned (.bool true) ∧ Below w.heap.size w w' := by
  clear wa wb wc wd we wf wg wh wi
  go_enter Try.func9, Try.ntmps9
  go_upto_region 1 with fail
  obtain ⟨u0, hu0⟩ : ∃ u, u = (((w.alloc (.cells #[.int .i64 a, .int .i64 b, .int .i64 c] 26)).alloc (.cells #[.int .i64 d, .int .i64 e, .int .i64 f] 26)).alloc (.cells #[.int .i64 g, .int .i64 h, .int .i64 i] 26)) := ⟨_, rfl⟩
  rw [← hu0]
  have hB_0 : Below w.heap.size w u0 := by rw [hu0]; exact (by repeat (first | assumption | exact Below.refl _ _ | apply Below.drew | (refine Below.setCell ?_ (by (first | omega | (simp <;> omega))) _) | (refine Below.alloc ?_ (by (first | omega | (simp <;> omega))) _) | (refine bstep (by assumption) (by (first | omega | (simp <;> omega))) ?_)))
  have hz_0 : u0.heap.size = w.heap.size + 3 := by rw [hu0]; simp
  have c0_0 : u0.cell? ⟨w.heap.size, 0, none⟩ = some (.int .i64 a) := by rw [hu0]; simp [go_sem, World.cell?_alloc_past]
  have c0_1 : u0.cell? ⟨w.heap.size, 1, none⟩ = some (.int .i64 b) := by rw [hu0]; simp [go_sem, World.cell?_alloc_past]
  have c0_2 : u0.cell? ⟨w.heap.size, 2, none⟩ = some (.int .i64 c) := by rw [hu0]; simp [go_sem, World.cell?_alloc_past]
  have c0_3 : u0.cell? ⟨w.heap.size + 1, 0, none⟩ = some (.int .i64 d) := by rw [hu0]; simp [go_sem, World.cell?_alloc_past]
  have c0_4 : u0.cell? ⟨w.heap.size + 1, 1, none⟩ = some (.int .i64 e) := by rw [hu0]; simp [go_sem, World.cell?_alloc_past]
  have c0_5 : u0.cell? ⟨w.heap.size + 1, 2, none⟩ = some (.int .i64 f) := by rw [hu0]; simp [go_sem, World.cell?_alloc_past]
  have c0_6 : u0.cell? ⟨w.heap.size + 2, 0, none⟩ = some (.int .i64 g) := by rw [hu0]; simp [go_sem, World.cell?_alloc_past]
  have c0_7 : u0.cell? ⟨w.heap.size + 2, 1, none⟩ = some (.int .i64 h) := by rw [hu0]; simp [go_sem, World.cell?_alloc_past]
  have c0_8 : u0.cell? ⟨w.heap.size + 2, 2, none⟩ = some (.int .i64 i) := by rw [hu0]; simp [go_sem, World.cell?_alloc_past]
  have l0_0 : w.heap.size < u0.heap.size := by omega
  have l0_1 : w.heap.size + 1 < u0.heap.size := by omega
  have l0_2 : w.heap.size + 2 < u0.heap.size := by omega
  have n_0 : w.heap.size ≤ u0.heap.size := by omega
  clear hu0 hz_0
  go_cut [7, 8] (fun s7 s8 wx => ∃ g1_0 : Nat, s7 = .pointer (some ⟨g1_0, 0, none⟩) ∧ s8 = .bool (tv a b c && tv d e f && (joinT g h i == 0)) ∧ Below u0.heap.size u0 wx ∧ u0.heap.size ≤ g1_0 ∧ g1_0 < wx.heap.size ∧ wx.cell? ⟨g1_0, 0, none⟩ = some (.int .i64 (ad (tv a b c && tv d e f && (joinT g h i == 0)) ((cr a b d e + g) % 4096))) ∧ wx.cell? ⟨g1_0, 1, none⟩ = some (.int .i64 (ad (tv a b c && tv d e f && (joinT g h i == 0)) ((cr b c e f + h) % 4096))) ∧ wx.cell? ⟨g1_0, 2, none⟩ = some (.int .i64 (ad (tv a b c && tv d e f && (joinT g h i == 0)) ((cr c a f d + i) % 4096))))
  case first =>
    have kp : ∀ w' : World, Below u0.heap.size u0 w' → (Below u0.heap.size u0 w' ∧ w'.cell? ⟨w.heap.size, 0, none⟩ = some (.int .i64 a) ∧ w'.cell? ⟨w.heap.size, 1, none⟩ = some (.int .i64 b) ∧ w'.cell? ⟨w.heap.size, 2, none⟩ = some (.int .i64 c) ∧ w'.cell? ⟨w.heap.size + 1, 0, none⟩ = some (.int .i64 d) ∧ w'.cell? ⟨w.heap.size + 1, 1, none⟩ = some (.int .i64 e) ∧ w'.cell? ⟨w.heap.size + 1, 2, none⟩ = some (.int .i64 f) ∧ w'.cell? ⟨w.heap.size + 2, 0, none⟩ = some (.int .i64 g) ∧ w'.cell? ⟨w.heap.size + 2, 1, none⟩ = some (.int .i64 h) ∧ w'.cell? ⟨w.heap.size + 2, 2, none⟩ = some (.int .i64 i)) := fun w' h => ⟨h, (h.cell (p := ⟨w.heap.size, 0, none⟩) l0_0).trans c0_0, (h.cell (p := ⟨w.heap.size, 1, none⟩) l0_0).trans c0_1, (h.cell (p := ⟨w.heap.size, 2, none⟩) l0_0).trans c0_2, (h.cell (p := ⟨w.heap.size + 1, 0, none⟩) l0_1).trans c0_3, (h.cell (p := ⟨w.heap.size + 1, 1, none⟩) l0_1).trans c0_4, (h.cell (p := ⟨w.heap.size + 1, 2, none⟩) l0_1).trans c0_5, (h.cell (p := ⟨w.heap.size + 2, 0, none⟩) l0_2).trans c0_6, (h.cell (p := ⟨w.heap.size + 2, 1, none⟩) l0_2).trans c0_7, (h.cell (p := ⟨w.heap.size + 2, 2, none⟩) l0_2).trans c0_8⟩
    have KP := Lib.hid kp
    clear kp
    go_region_held3 (fun w' => Below u0.heap.size u0 w' ∧ w'.cell? ⟨w.heap.size, 0, none⟩ = some (.int .i64 a) ∧ w'.cell? ⟨w.heap.size, 1, none⟩ = some (.int .i64 b) ∧ w'.cell? ⟨w.heap.size, 2, none⟩ = some (.int .i64 c) ∧ w'.cell? ⟨w.heap.size + 1, 0, none⟩ = some (.int .i64 d) ∧ w'.cell? ⟨w.heap.size + 1, 1, none⟩ = some (.int .i64 e) ∧ w'.cell? ⟨w.heap.size + 1, 2, none⟩ = some (.int .i64 f) ∧ w'.cell? ⟨w.heap.size + 2, 0, none⟩ = some (.int .i64 g) ∧ w'.cell? ⟨w.heap.size + 2, 1, none⟩ = some (.int .i64 h) ∧ w'.cell? ⟨w.heap.size + 2, 2, none⟩ = some (.int .i64 i)) ((refine KP.out _ ?_; ((repeat (first | assumption | exact Below.refl _ _ | apply Below.drew | (refine Below.setCell ?_ ?_ _; rotate_left; focus ((first | omega | (simp <;> omega)))) | (refine Below.alloc ?_ ?_ _; rotate_left; focus ((first | omega | (simp <;> omega)))) | (refine bstep (by assumption) ?_ ?_; focus ((first | omega | (simp <;> omega)))))); done)))
      (first
        | (go_at_call 20; refine (l_toThree _ _ _ _).mono ?_; rintro e w' ⟨rfl, hb⟩; (try go_split_ands); have hB0 := bstep (B := u0.heap.size) hb (by first | omega | (simp; done) | (simp; omega)) (by first | assumption | exact (Below.refl _ _).drew); have hsz := hB0.size; (try simp at hsz); obtain ⟨hc, hf⟩ := bcell hb; (try (have hlc := Nat.lt_of_lt_of_le hlb hb.size)); (try (have hlb := Nat.lt_of_lt_of_le hla hb.size)); have hla := hb.size; (try simp at hla); (try (have hla := Nat.lt_of_succ_le hla)))
        | (go_at_call 29; refine (s_MulThree _ _ _ _ _ _ _ _ _ _).mono ?_; rintro e w' ⟨rfl, hb⟩; (try go_split_ands); have hB0 := bstep (B := u0.heap.size) hb (by first | omega | (simp; done) | (simp; omega)) (by first | assumption | exact (Below.refl _ _).drew); have hsz := hB0.size; (try simp at hsz); obtain ⟨hc, hf⟩ := bcell hb; (try (have hlc := Nat.lt_of_lt_of_le hlb hb.size)); (try (have hlb := Nat.lt_of_lt_of_le hla hb.size)); have hla := hb.size; (try simp at hla); (try (have hla := Nat.lt_of_succ_le hla))))
    all_goals (go_wp2_with fail; go_meet; exact ⟨_, rfl, rfl, (by repeat (first | assumption | exact Below.refl _ _ | apply Below.drew | (refine Below.setCell ?_ (by (first | omega | (simp <;> omega))) _) | (refine Below.alloc ?_ (by (first | omega | (simp <;> omega))) _) | (refine bstep (by assumption) (by (first | omega | (simp <;> omega))) ?_))), (by (first | omega | (simp <;> omega))), (by (first | omega | (simp <;> omega))), (by go_simp), (by go_simp), (by go_simp)⟩)
  case rest =>
    obtain ⟨g1_0, rfl, rfl, hb, ga0, gb0, d0_0, d0_1, d0_2⟩ := hcut
    obtain ⟨u1, rfl⟩ : ∃ u : World, u = wc := ⟨_, rfl⟩
    have m_1 := hb.size
    have l1_0 : w.heap.size < u1.heap.size := by omega
    have l1_1 : w.heap.size + 1 < u1.heap.size := by omega
    have l1_2 : w.heap.size + 2 < u1.heap.size := by omega
    have c1_0 : u1.cell? ⟨w.heap.size, 0, none⟩ = some (.int .i64 a) := (hb.cell (p := ⟨w.heap.size, 0, none⟩) l0_0).trans c0_0
    have c1_1 : u1.cell? ⟨w.heap.size, 1, none⟩ = some (.int .i64 b) := (hb.cell (p := ⟨w.heap.size, 1, none⟩) l0_0).trans c0_1
    have c1_2 : u1.cell? ⟨w.heap.size, 2, none⟩ = some (.int .i64 c) := (hb.cell (p := ⟨w.heap.size, 2, none⟩) l0_0).trans c0_2
    have c1_3 : u1.cell? ⟨w.heap.size + 1, 0, none⟩ = some (.int .i64 d) := (hb.cell (p := ⟨w.heap.size + 1, 0, none⟩) l0_1).trans c0_3
    have c1_4 : u1.cell? ⟨w.heap.size + 1, 1, none⟩ = some (.int .i64 e) := (hb.cell (p := ⟨w.heap.size + 1, 1, none⟩) l0_1).trans c0_4
    have c1_5 : u1.cell? ⟨w.heap.size + 1, 2, none⟩ = some (.int .i64 f) := (hb.cell (p := ⟨w.heap.size + 1, 2, none⟩) l0_1).trans c0_5
    have c1_6 : u1.cell? ⟨w.heap.size + 2, 0, none⟩ = some (.int .i64 g) := (hb.cell (p := ⟨w.heap.size + 2, 0, none⟩) l0_2).trans c0_6
    have c1_7 : u1.cell? ⟨w.heap.size + 2, 1, none⟩ = some (.int .i64 h) := (hb.cell (p := ⟨w.heap.size + 2, 1, none⟩) l0_2).trans c0_7
    have c1_8 : u1.cell? ⟨w.heap.size + 2, 2, none⟩ = some (.int .i64 i) := (hb.cell (p := ⟨w.heap.size + 2, 2, none⟩) l0_2).trans c0_8
    have hB_1 := bstep hb n_0 hB_0
    have n_1 : w.heap.size ≤ u1.heap.size := by omega
    clear c0_0 c0_1 c0_2 c0_3 c0_4 c0_5 c0_6 c0_7 c0_8 l0_0 l0_1 l0_2 m_1 hB_0 n_0 hb
    have l1_3 := gb0
    have c1_9 := d0_0
    have c1_10 := d0_1
    have c1_11 := d0_2
    clear ga0 gb0 d0_0 d0_1 d0_2
    go_upto_region 2 with fail
    go_cut [9, 10] (fun s9 s10 wx => ∃ g2_0 : Nat, s9 = .pointer (some ⟨g2_0, 0, none⟩) ∧ s10 = .bool (tv a b c && tv d e f && (joinT g h i == 0)) ∧ Below u1.heap.size u1 wx ∧ u1.heap.size ≤ g2_0 ∧ g2_0 < wx.heap.size ∧ wx.cell? ⟨g2_0, 0, none⟩ = some (.int .i64 (ad (tv a b c && tv d e f && (joinT g h i == 0)) ((cr a b d e + g) % 4096))) ∧ wx.cell? ⟨g2_0, 1, none⟩ = some (.int .i64 (ad (tv a b c && tv d e f && (joinT g h i == 0)) ((cr b c e f + h) % 4096))) ∧ wx.cell? ⟨g2_0, 2, none⟩ = some (.int .i64 (ad (tv a b c && tv d e f && (joinT g h i == 0)) ((cr c a f d + i) % 4096))))
    case first =>
      have kp : ∀ w' : World, Below u1.heap.size u1 w' → (Below u1.heap.size u1 w' ∧ w'.cell? ⟨w.heap.size, 0, none⟩ = some (.int .i64 a) ∧ w'.cell? ⟨w.heap.size, 1, none⟩ = some (.int .i64 b) ∧ w'.cell? ⟨w.heap.size, 2, none⟩ = some (.int .i64 c) ∧ w'.cell? ⟨w.heap.size + 1, 0, none⟩ = some (.int .i64 d) ∧ w'.cell? ⟨w.heap.size + 1, 1, none⟩ = some (.int .i64 e) ∧ w'.cell? ⟨w.heap.size + 1, 2, none⟩ = some (.int .i64 f) ∧ w'.cell? ⟨w.heap.size + 2, 0, none⟩ = some (.int .i64 g) ∧ w'.cell? ⟨w.heap.size + 2, 1, none⟩ = some (.int .i64 h) ∧ w'.cell? ⟨w.heap.size + 2, 2, none⟩ = some (.int .i64 i)) := fun w' h => ⟨h, (h.cell (p := ⟨w.heap.size, 0, none⟩) l1_0).trans c1_0, (h.cell (p := ⟨w.heap.size, 1, none⟩) l1_0).trans c1_1, (h.cell (p := ⟨w.heap.size, 2, none⟩) l1_0).trans c1_2, (h.cell (p := ⟨w.heap.size + 1, 0, none⟩) l1_1).trans c1_3, (h.cell (p := ⟨w.heap.size + 1, 1, none⟩) l1_1).trans c1_4, (h.cell (p := ⟨w.heap.size + 1, 2, none⟩) l1_1).trans c1_5, (h.cell (p := ⟨w.heap.size + 2, 0, none⟩) l1_2).trans c1_6, (h.cell (p := ⟨w.heap.size + 2, 1, none⟩) l1_2).trans c1_7, (h.cell (p := ⟨w.heap.size + 2, 2, none⟩) l1_2).trans c1_8⟩
      have KP := Lib.hid kp
      clear kp
      go_region_held3 (fun w' => Below u1.heap.size u1 w' ∧ w'.cell? ⟨w.heap.size, 0, none⟩ = some (.int .i64 a) ∧ w'.cell? ⟨w.heap.size, 1, none⟩ = some (.int .i64 b) ∧ w'.cell? ⟨w.heap.size, 2, none⟩ = some (.int .i64 c) ∧ w'.cell? ⟨w.heap.size + 1, 0, none⟩ = some (.int .i64 d) ∧ w'.cell? ⟨w.heap.size + 1, 1, none⟩ = some (.int .i64 e) ∧ w'.cell? ⟨w.heap.size + 1, 2, none⟩ = some (.int .i64 f) ∧ w'.cell? ⟨w.heap.size + 2, 0, none⟩ = some (.int .i64 g) ∧ w'.cell? ⟨w.heap.size + 2, 1, none⟩ = some (.int .i64 h) ∧ w'.cell? ⟨w.heap.size + 2, 2, none⟩ = some (.int .i64 i)) ((refine KP.out _ ?_; ((repeat (first | assumption | exact Below.refl _ _ | apply Below.drew | (refine Below.setCell ?_ ?_ _; rotate_left; focus ((first | omega | (simp <;> omega)))) | (refine Below.alloc ?_ ?_ _; rotate_left; focus ((first | omega | (simp <;> omega)))) | (refine bstep (by assumption) ?_ ?_; focus ((first | omega | (simp <;> omega)))))); done)))
        (first
          | (go_at_call 20; refine (l_toThree _ _ _ _).mono ?_; rintro e w' ⟨rfl, hb⟩; (try go_split_ands); have hB0 := bstep (B := u1.heap.size) hb (by first | omega | (simp; done) | (simp; omega)) (by first | assumption | exact (Below.refl _ _).drew); have hsz := hB0.size; (try simp at hsz); obtain ⟨hc, hf⟩ := bcell hb; (try (have hlc := Nat.lt_of_lt_of_le hlb hb.size)); (try (have hlb := Nat.lt_of_lt_of_le hla hb.size)); have hla := hb.size; (try simp at hla); (try (have hla := Nat.lt_of_succ_le hla)))
          | (go_at_call 30; refine (i_MulThree _ _ _ _ _ _ _ _ _ _).mono ?_; rintro e w' ⟨rfl, hb⟩; (try go_split_ands); have hB0 := bstep (B := u1.heap.size) hb (by first | omega | (simp; done) | (simp; omega)) (by first | assumption | exact (Below.refl _ _).drew); have hsz := hB0.size; (try simp at hsz); obtain ⟨hc, hf⟩ := bcell hb; (try (have hlc := Nat.lt_of_lt_of_le hlb hb.size)); (try (have hlb := Nat.lt_of_lt_of_le hla hb.size)); have hla := hb.size; (try simp at hla); (try (have hla := Nat.lt_of_succ_le hla))))
      all_goals (go_wp2_with fail; go_meet; exact ⟨_, rfl, rfl, (by repeat (first | assumption | exact Below.refl _ _ | apply Below.drew | (refine Below.setCell ?_ (by (first | omega | (simp <;> omega))) _) | (refine Below.alloc ?_ (by (first | omega | (simp <;> omega))) _) | (refine bstep (by assumption) (by (first | omega | (simp <;> omega))) ?_))), (by (first | omega | (simp <;> omega))), (by (first | omega | (simp <;> omega))), (by go_simp), (by go_simp), (by go_simp)⟩)
    case rest =>
      obtain ⟨g2_0, rfl, rfl, hb, ga0, gb0, d0_0, d0_1, d0_2⟩ := hcut
      obtain ⟨u2, rfl⟩ : ∃ u : World, u = wc := ⟨_, rfl⟩
      have m_2 := hb.size
      have l2_0 : w.heap.size < u2.heap.size := by omega
      have l2_1 : w.heap.size + 1 < u2.heap.size := by omega
      have l2_2 : w.heap.size + 2 < u2.heap.size := by omega
      have l2_3 : g1_0 < u2.heap.size := by omega
      have c2_0 : u2.cell? ⟨w.heap.size, 0, none⟩ = some (.int .i64 a) := (hb.cell (p := ⟨w.heap.size, 0, none⟩) l1_0).trans c1_0
      have c2_1 : u2.cell? ⟨w.heap.size, 1, none⟩ = some (.int .i64 b) := (hb.cell (p := ⟨w.heap.size, 1, none⟩) l1_0).trans c1_1
      have c2_2 : u2.cell? ⟨w.heap.size, 2, none⟩ = some (.int .i64 c) := (hb.cell (p := ⟨w.heap.size, 2, none⟩) l1_0).trans c1_2
      have c2_3 : u2.cell? ⟨w.heap.size + 1, 0, none⟩ = some (.int .i64 d) := (hb.cell (p := ⟨w.heap.size + 1, 0, none⟩) l1_1).trans c1_3
      have c2_4 : u2.cell? ⟨w.heap.size + 1, 1, none⟩ = some (.int .i64 e) := (hb.cell (p := ⟨w.heap.size + 1, 1, none⟩) l1_1).trans c1_4
      have c2_5 : u2.cell? ⟨w.heap.size + 1, 2, none⟩ = some (.int .i64 f) := (hb.cell (p := ⟨w.heap.size + 1, 2, none⟩) l1_1).trans c1_5
      have c2_6 : u2.cell? ⟨w.heap.size + 2, 0, none⟩ = some (.int .i64 g) := (hb.cell (p := ⟨w.heap.size + 2, 0, none⟩) l1_2).trans c1_6
      have c2_7 : u2.cell? ⟨w.heap.size + 2, 1, none⟩ = some (.int .i64 h) := (hb.cell (p := ⟨w.heap.size + 2, 1, none⟩) l1_2).trans c1_7
      have c2_8 : u2.cell? ⟨w.heap.size + 2, 2, none⟩ = some (.int .i64 i) := (hb.cell (p := ⟨w.heap.size + 2, 2, none⟩) l1_2).trans c1_8
      have c2_9 : u2.cell? ⟨g1_0, 0, none⟩ = some (.int .i64 (ad (tv a b c && tv d e f && (joinT g h i == 0)) ((cr a b d e + g) % 4096))) := (hb.cell (p := ⟨g1_0, 0, none⟩) l1_3).trans c1_9
      have c2_10 : u2.cell? ⟨g1_0, 1, none⟩ = some (.int .i64 (ad (tv a b c && tv d e f && (joinT g h i == 0)) ((cr b c e f + h) % 4096))) := (hb.cell (p := ⟨g1_0, 1, none⟩) l1_3).trans c1_10
      have c2_11 : u2.cell? ⟨g1_0, 2, none⟩ = some (.int .i64 (ad (tv a b c && tv d e f && (joinT g h i == 0)) ((cr c a f d + i) % 4096))) := (hb.cell (p := ⟨g1_0, 2, none⟩) l1_3).trans c1_11
      have hB_2 := bstep hb n_1 hB_1
      have n_2 : w.heap.size ≤ u2.heap.size := by omega
      clear c1_0 c1_1 c1_2 c1_3 c1_4 c1_5 c1_6 c1_7 c1_8 c1_9 c1_10 c1_11 l1_0 l1_1 l1_2 l1_3 m_2 hB_1 n_1 hb
      have l2_4 := gb0
      have c2_12 := d0_0
      have c2_13 := d0_1
      have c2_14 := d0_2
      clear ga0 gb0 d0_0 d0_1 d0_2
      go_wp2_with fail
      refine (l_eqThree_same _ _ _ _).mono ?_
      rintro e u3 ⟨rfl, hb⟩
      have m_3 := hb.size
      have l3_0 : w.heap.size < u3.heap.size := by omega
      have l3_1 : w.heap.size + 1 < u3.heap.size := by omega
      have l3_2 : w.heap.size + 2 < u3.heap.size := by omega
      have l3_3 : g1_0 < u3.heap.size := by omega
      have l3_4 : g2_0 < u3.heap.size := by omega
      have c3_0 : u3.cell? ⟨w.heap.size, 0, none⟩ = some (.int .i64 a) := (hb.cell (p := ⟨w.heap.size, 0, none⟩) l2_0).trans c2_0
      have c3_1 : u3.cell? ⟨w.heap.size, 1, none⟩ = some (.int .i64 b) := (hb.cell (p := ⟨w.heap.size, 1, none⟩) l2_0).trans c2_1
      have c3_2 : u3.cell? ⟨w.heap.size, 2, none⟩ = some (.int .i64 c) := (hb.cell (p := ⟨w.heap.size, 2, none⟩) l2_0).trans c2_2
      have c3_3 : u3.cell? ⟨w.heap.size + 1, 0, none⟩ = some (.int .i64 d) := (hb.cell (p := ⟨w.heap.size + 1, 0, none⟩) l2_1).trans c2_3
      have c3_4 : u3.cell? ⟨w.heap.size + 1, 1, none⟩ = some (.int .i64 e) := (hb.cell (p := ⟨w.heap.size + 1, 1, none⟩) l2_1).trans c2_4
      have c3_5 : u3.cell? ⟨w.heap.size + 1, 2, none⟩ = some (.int .i64 f) := (hb.cell (p := ⟨w.heap.size + 1, 2, none⟩) l2_1).trans c2_5
      have c3_6 : u3.cell? ⟨w.heap.size + 2, 0, none⟩ = some (.int .i64 g) := (hb.cell (p := ⟨w.heap.size + 2, 0, none⟩) l2_2).trans c2_6
      have c3_7 : u3.cell? ⟨w.heap.size + 2, 1, none⟩ = some (.int .i64 h) := (hb.cell (p := ⟨w.heap.size + 2, 1, none⟩) l2_2).trans c2_7
      have c3_8 : u3.cell? ⟨w.heap.size + 2, 2, none⟩ = some (.int .i64 i) := (hb.cell (p := ⟨w.heap.size + 2, 2, none⟩) l2_2).trans c2_8
      have c3_9 : u3.cell? ⟨g1_0, 0, none⟩ = some (.int .i64 (ad (tv a b c && tv d e f && (joinT g h i == 0)) ((cr a b d e + g) % 4096))) := (hb.cell (p := ⟨g1_0, 0, none⟩) l2_3).trans c2_9
      have c3_10 : u3.cell? ⟨g1_0, 1, none⟩ = some (.int .i64 (ad (tv a b c && tv d e f && (joinT g h i == 0)) ((cr b c e f + h) % 4096))) := (hb.cell (p := ⟨g1_0, 1, none⟩) l2_3).trans c2_10
      have c3_11 : u3.cell? ⟨g1_0, 2, none⟩ = some (.int .i64 (ad (tv a b c && tv d e f && (joinT g h i == 0)) ((cr c a f d + i) % 4096))) := (hb.cell (p := ⟨g1_0, 2, none⟩) l2_3).trans c2_11
      have c3_12 : u3.cell? ⟨g2_0, 0, none⟩ = some (.int .i64 (ad (tv a b c && tv d e f && (joinT g h i == 0)) ((cr a b d e + g) % 4096))) := (hb.cell (p := ⟨g2_0, 0, none⟩) l2_4).trans c2_12
      have c3_13 : u3.cell? ⟨g2_0, 1, none⟩ = some (.int .i64 (ad (tv a b c && tv d e f && (joinT g h i == 0)) ((cr b c e f + h) % 4096))) := (hb.cell (p := ⟨g2_0, 1, none⟩) l2_4).trans c2_13
      have c3_14 : u3.cell? ⟨g2_0, 2, none⟩ = some (.int .i64 (ad (tv a b c && tv d e f && (joinT g h i == 0)) ((cr c a f d + i) % 4096))) := (hb.cell (p := ⟨g2_0, 2, none⟩) l2_4).trans c2_14
      have hB_3 := bstep hb n_2 hB_2
      have n_3 : w.heap.size ≤ u3.heap.size := by omega
      clear c2_0 c2_1 c2_2 c2_3 c2_4 c2_5 c2_6 c2_7 c2_8 c2_9 c2_10 c2_11 c2_12 c2_13 c2_14 l2_0 l2_1 l2_2 l2_3 l2_4 m_3 hB_2 n_2 hb
      go_wp2
      go_ret
      exact ⟨rfl, hB_3⟩
end Go.Proofs.Ytlhaocccdkpjaaa

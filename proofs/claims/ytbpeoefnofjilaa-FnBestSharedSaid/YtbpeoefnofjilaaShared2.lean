/-
  CONTRACTS: sums and differences of shares. Printed by gen_shared2.py.
-/
import Derived.Test.YtbpeoefnofjilaaShared
namespace Go.Proofs.Ytbpeoefnofjilaa
open Go.RowKit
set_option linter.unusedVariables false
set_option linter.unusedSimpArgs false

theorem i_AddShares_f1 {a b : Int} (h : sv a b = false) (c d : Int) (w : World) : Calls Try.prog 61 #[T2 a b, T2 c d] w fun e w' => e = .returned (T2 (-1) (-1)) ∧ Below w.heap.size w w' := by
  go_enter Try.func61, Try.ntmps61
  go_wp2_with fail
  refine (i_SharedValid_f h _).mono ?_
  rintro e w1 ⟨rfl, hb1⟩
  obtain ⟨hc1, hf1⟩ := bcell hb1
  have hs1 := hb1.size
  try simp at hs1
  have z1 : w.heap.size < w1.heap.size := by omega
  have z1' : w.heap.size + 1 < w1.heap.size := by omega
  have z1'' : w.heap.size + 1 + 1 < w1.heap.size := by omega
  clear hs1
  go_wp2_with fail
  refine (i_noShares _).mono ?_
  rintro e w2 ⟨rfl, hb2⟩
  obtain ⟨hc2, hf2⟩ := bcell hb2
  have hs2 := hb2.size
  try simp at hs2
  have z2 : w.heap.size < w2.heap.size := by omega
  have z2' : w.heap.size + 1 < w2.heap.size := by omega
  have z2'' : w.heap.size + 1 + 1 < w2.heap.size := by omega
  clear hs2
  go_wp2
  exact bodyPost_ret (v := T2 (-1) (-1)) (by simp [results, Try.results61, go_sem, T2, hc1, hf1, z1, z1', z1'', hc2, hf2, z2, z2', z2'']) rfl ⟨rfl, (by repeat (first | assumption | exact Below.refl _ _ | apply Below.drew | (refine Below.setCell ?_ (by (first | omega | (simp <;> omega))) _) | (refine Below.alloc ?_ (by (first | omega | (simp <;> omega))) _) | (refine bstep (by assumption) (by (first | omega | (simp <;> omega))) ?_)))⟩
theorem i_AddShares_f2 {a b c d : Int} (h : sv a b = true) (h2 : sv c d = false) (w : World) : Calls Try.prog 61 #[T2 a b, T2 c d] w fun e w' => e = .returned (T2 (-1) (-1)) ∧ Below w.heap.size w w' := by
  go_enter Try.func61, Try.ntmps61
  go_wp2_with fail
  refine (i_SharedValid_t h _).mono ?_
  rintro e w1 ⟨rfl, hb1⟩
  obtain ⟨hc1, hf1⟩ := bcell hb1
  have hs1 := hb1.size
  try simp at hs1
  have z1 : w.heap.size < w1.heap.size := by omega
  have z1' : w.heap.size + 1 < w1.heap.size := by omega
  have z1'' : w.heap.size + 1 + 1 < w1.heap.size := by omega
  clear hs1
  go_wp2_with fail
  refine (i_SharedValid_f h2 _).mono ?_
  rintro e w2 ⟨rfl, hb2⟩
  obtain ⟨hc2, hf2⟩ := bcell hb2
  have hs2 := hb2.size
  try simp at hs2
  have z2 : w.heap.size < w2.heap.size := by omega
  have z2' : w.heap.size + 1 < w2.heap.size := by omega
  have z2'' : w.heap.size + 1 + 1 < w2.heap.size := by omega
  clear hs2
  go_wp2_with fail
  refine (i_noShares _).mono ?_
  rintro e w3 ⟨rfl, hb3⟩
  obtain ⟨hc3, hf3⟩ := bcell hb3
  have hs3 := hb3.size
  try simp at hs3
  have z3 : w.heap.size < w3.heap.size := by omega
  have z3' : w.heap.size + 1 < w3.heap.size := by omega
  have z3'' : w.heap.size + 1 + 1 < w3.heap.size := by omega
  clear hs3
  go_wp2
  exact bodyPost_ret (v := T2 (-1) (-1)) (by simp [results, Try.results61, go_sem, T2, hc1, hf1, z1, z1', z1'', hc2, hf2, z2, z2', z2'', hc3, hf3, z3, z3', z3'']) rfl ⟨rfl, (by repeat (first | assumption | exact Below.refl _ _ | apply Below.drew | (refine Below.setCell ?_ (by (first | omega | (simp <;> omega))) _) | (refine Below.alloc ?_ (by (first | omega | (simp <;> omega))) _) | (refine bstep (by assumption) (by (first | omega | (simp <;> omega))) ?_)))⟩
theorem i_AddShares_t {a b c d : Int} (h : sv a b = true) (h2 : sv c d = true) (w : World) : Calls Try.prog 61 #[T2 a b, T2 c d] w fun e w' => e = .returned (T2 ((a + c) % 4096) ((b + d) % 4096)) ∧ Below w.heap.size w w' := by
  obtain ⟨ha, hb⟩ := sv_of h
  obtain ⟨hc, hd⟩ := sv_of h2
  go_enter Try.func61, Try.ntmps61
  go_wp2_with fail
  refine (i_SharedValid_t h _).mono ?_
  rintro e w1 ⟨rfl, hb1⟩
  obtain ⟨hc1, hf1⟩ := bcell hb1
  have hs1 := hb1.size
  try simp at hs1
  have z1 : w.heap.size < w1.heap.size := by omega
  have z1' : w.heap.size + 1 < w1.heap.size := by omega
  have z1'' : w.heap.size + 1 + 1 < w1.heap.size := by omega
  clear hs1
  go_wp2_with fail
  refine (i_SharedValid_t h2 _).mono ?_
  rintro e w2 ⟨rfl, hb2⟩
  obtain ⟨hc2, hf2⟩ := bcell hb2
  have hs2 := hb2.size
  try simp at hs2
  have z2 : w.heap.size < w2.heap.size := by omega
  have z2' : w.heap.size + 1 < w2.heap.size := by omega
  have z2'' : w.heap.size + 1 + 1 < w2.heap.size := by omega
  clear hs2
  have hab := i_bothAdd a b c d
  rw [addR_in ha hc, addR_in hb hd] at hab
  go_wp2_with fail
  refine (hab _).mono ?_
  rintro e w3 ⟨rfl, hb3⟩
  obtain ⟨hc3, hf3⟩ := bcell hb3
  have hs3 := hb3.size
  try simp at hs3
  have z3 : w.heap.size < w3.heap.size := by omega
  have z3' : w.heap.size + 1 < w3.heap.size := by omega
  have z3'' : w.heap.size + 1 + 1 < w3.heap.size := by omega
  clear hs3
  go_wp2
  exact bodyPost_ret (v := T2 ((a + c) % 4096) ((b + d) % 4096)) (by simp [results, Try.results61, go_sem, T2, hc1, hf1, z1, z1', z1'', hc2, hf2, z2, z2', z2'', hc3, hf3, z3, z3', z3'']) rfl ⟨rfl, (by repeat (first | assumption | exact Below.refl _ _ | apply Below.drew | (refine Below.setCell ?_ (by (first | omega | (simp <;> omega))) _) | (refine Below.alloc ?_ (by (first | omega | (simp <;> omega))) _) | (refine bstep (by assumption) (by (first | omega | (simp <;> omega))) ?_)))⟩
theorem i_SubShares_f1 {a b : Int} (h : sv a b = false) (c d : Int) (w : World) : Calls Try.prog 58 #[T2 a b, T2 c d] w fun e w' => e = .returned (T2 (-1) (-1)) ∧ Below w.heap.size w w' := by
  go_enter Try.func58, Try.ntmps58
  go_wp2_with fail
  refine (i_SharedValid_f h _).mono ?_
  rintro e w1 ⟨rfl, hb1⟩
  obtain ⟨hc1, hf1⟩ := bcell hb1
  have hs1 := hb1.size
  try simp at hs1
  have z1 : w.heap.size < w1.heap.size := by omega
  have z1' : w.heap.size + 1 < w1.heap.size := by omega
  have z1'' : w.heap.size + 1 + 1 < w1.heap.size := by omega
  clear hs1
  go_wp2_with fail
  refine (i_noShares _).mono ?_
  rintro e w2 ⟨rfl, hb2⟩
  obtain ⟨hc2, hf2⟩ := bcell hb2
  have hs2 := hb2.size
  try simp at hs2
  have z2 : w.heap.size < w2.heap.size := by omega
  have z2' : w.heap.size + 1 < w2.heap.size := by omega
  have z2'' : w.heap.size + 1 + 1 < w2.heap.size := by omega
  clear hs2
  go_wp2
  exact bodyPost_ret (v := T2 (-1) (-1)) (by simp [results, Try.results58, go_sem, T2, hc1, hf1, z1, z1', z1'', hc2, hf2, z2, z2', z2'']) rfl ⟨rfl, (by repeat (first | assumption | exact Below.refl _ _ | apply Below.drew | (refine Below.setCell ?_ (by (first | omega | (simp <;> omega))) _) | (refine Below.alloc ?_ (by (first | omega | (simp <;> omega))) _) | (refine bstep (by assumption) (by (first | omega | (simp <;> omega))) ?_)))⟩
theorem i_SubShares_f2 {a b c d : Int} (h : sv a b = true) (h2 : sv c d = false) (w : World) : Calls Try.prog 58 #[T2 a b, T2 c d] w fun e w' => e = .returned (T2 (-1) (-1)) ∧ Below w.heap.size w w' := by
  go_enter Try.func58, Try.ntmps58
  go_wp2_with fail
  refine (i_SharedValid_t h _).mono ?_
  rintro e w1 ⟨rfl, hb1⟩
  obtain ⟨hc1, hf1⟩ := bcell hb1
  have hs1 := hb1.size
  try simp at hs1
  have z1 : w.heap.size < w1.heap.size := by omega
  have z1' : w.heap.size + 1 < w1.heap.size := by omega
  have z1'' : w.heap.size + 1 + 1 < w1.heap.size := by omega
  clear hs1
  go_wp2_with fail
  refine (i_SharedValid_f h2 _).mono ?_
  rintro e w2 ⟨rfl, hb2⟩
  obtain ⟨hc2, hf2⟩ := bcell hb2
  have hs2 := hb2.size
  try simp at hs2
  have z2 : w.heap.size < w2.heap.size := by omega
  have z2' : w.heap.size + 1 < w2.heap.size := by omega
  have z2'' : w.heap.size + 1 + 1 < w2.heap.size := by omega
  clear hs2
  go_wp2_with fail
  refine (i_noShares _).mono ?_
  rintro e w3 ⟨rfl, hb3⟩
  obtain ⟨hc3, hf3⟩ := bcell hb3
  have hs3 := hb3.size
  try simp at hs3
  have z3 : w.heap.size < w3.heap.size := by omega
  have z3' : w.heap.size + 1 < w3.heap.size := by omega
  have z3'' : w.heap.size + 1 + 1 < w3.heap.size := by omega
  clear hs3
  go_wp2
  exact bodyPost_ret (v := T2 (-1) (-1)) (by simp [results, Try.results58, go_sem, T2, hc1, hf1, z1, z1', z1'', hc2, hf2, z2, z2', z2'', hc3, hf3, z3, z3', z3'']) rfl ⟨rfl, (by repeat (first | assumption | exact Below.refl _ _ | apply Below.drew | (refine Below.setCell ?_ (by (first | omega | (simp <;> omega))) _) | (refine Below.alloc ?_ (by (first | omega | (simp <;> omega))) _) | (refine bstep (by assumption) (by (first | omega | (simp <;> omega))) ?_)))⟩
theorem i_SubShares_t {a b c d : Int} (h : sv a b = true) (h2 : sv c d = true) (w : World) : Calls Try.prog 58 #[T2 a b, T2 c d] w fun e w' => e = .returned (T2 ((a - c) % 4096) ((b - d) % 4096)) ∧ Below w.heap.size w w' := by
  obtain ⟨ha, hb⟩ := sv_of h
  obtain ⟨hc, hd⟩ := sv_of h2
  go_enter Try.func58, Try.ntmps58
  go_wp2_with fail
  refine (i_SharedValid_t h _).mono ?_
  rintro e w1 ⟨rfl, hb1⟩
  obtain ⟨hc1, hf1⟩ := bcell hb1
  have hs1 := hb1.size
  try simp at hs1
  have z1 : w.heap.size < w1.heap.size := by omega
  have z1' : w.heap.size + 1 < w1.heap.size := by omega
  have z1'' : w.heap.size + 1 + 1 < w1.heap.size := by omega
  clear hs1
  go_wp2_with fail
  refine (i_SharedValid_t h2 _).mono ?_
  rintro e w2 ⟨rfl, hb2⟩
  obtain ⟨hc2, hf2⟩ := bcell hb2
  have hs2 := hb2.size
  try simp at hs2
  have z2 : w.heap.size < w2.heap.size := by omega
  have z2' : w.heap.size + 1 < w2.heap.size := by omega
  have z2'' : w.heap.size + 1 + 1 < w2.heap.size := by omega
  clear hs2
  have hab := i_bothSub a b c d
  rw [subR_in ha hc, subR_in hb hd] at hab
  go_wp2_with fail
  refine (hab _).mono ?_
  rintro e w3 ⟨rfl, hb3⟩
  obtain ⟨hc3, hf3⟩ := bcell hb3
  have hs3 := hb3.size
  try simp at hs3
  have z3 : w.heap.size < w3.heap.size := by omega
  have z3' : w.heap.size + 1 < w3.heap.size := by omega
  have z3'' : w.heap.size + 1 + 1 < w3.heap.size := by omega
  clear hs3
  go_wp2
  exact bodyPost_ret (v := T2 ((a - c) % 4096) ((b - d) % 4096)) (by simp [results, Try.results58, go_sem, T2, hc1, hf1, z1, z1', z1'', hc2, hf2, z2, z2', z2'', hc3, hf3, z3, z3', z3'']) rfl ⟨rfl, (by repeat (first | assumption | exact Below.refl _ _ | apply Below.drew | (refine Below.setCell ?_ (by (first | omega | (simp <;> omega))) _) | (refine Below.alloc ?_ (by (first | omega | (simp <;> omega))) _) | (refine bstep (by assumption) (by (first | omega | (simp <;> omega))) ?_)))⟩
theorem s_AddShares_f1 {a b : Int} (h : sv a b = false) (c d : Int) (w : World) : Calls Try.prog 28 #[T2 a b, T2 c d] w fun e w' => e = .returned (T2 (-1) (-1)) ∧ Below w.heap.size w w' := by
  go_enter Try.func28, Try.ntmps28
  go_wp2_with fail
  refine (s_SharedValid_f h _).mono ?_
  rintro e w1 ⟨rfl, hb1⟩
  obtain ⟨hc1, hf1⟩ := bcell hb1
  have hs1 := hb1.size
  try simp at hs1
  have z1 : w.heap.size < w1.heap.size := by omega
  have z1' : w.heap.size + 1 < w1.heap.size := by omega
  have z1'' : w.heap.size + 1 + 1 < w1.heap.size := by omega
  clear hs1
  go_wp2_with fail
  refine (s_l6Bad _).mono ?_
  rintro e w2 ⟨rfl, hb2⟩
  obtain ⟨hc2, hf2⟩ := bcell hb2
  have hs2 := hb2.size
  try simp at hs2
  have z2 : w.heap.size < w2.heap.size := by omega
  have z2' : w.heap.size + 1 < w2.heap.size := by omega
  have z2'' : w.heap.size + 1 + 1 < w2.heap.size := by omega
  clear hs2
  go_wp2
  exact bodyPost_ret (v := T2 (-1) (-1)) (by simp [results, Try.results28, go_sem, T2, hc1, hf1, z1, z1', z1'', hc2, hf2, z2, z2', z2'']) rfl ⟨rfl, (by repeat (first | assumption | exact Below.refl _ _ | apply Below.drew | (refine Below.setCell ?_ (by (first | omega | (simp <;> omega))) _) | (refine Below.alloc ?_ (by (first | omega | (simp <;> omega))) _) | (refine bstep (by assumption) (by (first | omega | (simp <;> omega))) ?_)))⟩
theorem s_AddShares_f2 {a b c d : Int} (h : sv a b = true) (h2 : sv c d = false) (w : World) : Calls Try.prog 28 #[T2 a b, T2 c d] w fun e w' => e = .returned (T2 (-1) (-1)) ∧ Below w.heap.size w w' := by
  go_enter Try.func28, Try.ntmps28
  go_wp2_with fail
  refine (s_SharedValid_t h _).mono ?_
  rintro e w1 ⟨rfl, hb1⟩
  obtain ⟨hc1, hf1⟩ := bcell hb1
  have hs1 := hb1.size
  try simp at hs1
  have z1 : w.heap.size < w1.heap.size := by omega
  have z1' : w.heap.size + 1 < w1.heap.size := by omega
  have z1'' : w.heap.size + 1 + 1 < w1.heap.size := by omega
  clear hs1
  go_wp2_with fail
  refine (s_SharedValid_f h2 _).mono ?_
  rintro e w2 ⟨rfl, hb2⟩
  obtain ⟨hc2, hf2⟩ := bcell hb2
  have hs2 := hb2.size
  try simp at hs2
  have z2 : w.heap.size < w2.heap.size := by omega
  have z2' : w.heap.size + 1 < w2.heap.size := by omega
  have z2'' : w.heap.size + 1 + 1 < w2.heap.size := by omega
  clear hs2
  go_wp2_with fail
  refine (s_l6Bad _).mono ?_
  rintro e w3 ⟨rfl, hb3⟩
  obtain ⟨hc3, hf3⟩ := bcell hb3
  have hs3 := hb3.size
  try simp at hs3
  have z3 : w.heap.size < w3.heap.size := by omega
  have z3' : w.heap.size + 1 < w3.heap.size := by omega
  have z3'' : w.heap.size + 1 + 1 < w3.heap.size := by omega
  clear hs3
  go_wp2
  exact bodyPost_ret (v := T2 (-1) (-1)) (by simp [results, Try.results28, go_sem, T2, hc1, hf1, z1, z1', z1'', hc2, hf2, z2, z2', z2'', hc3, hf3, z3, z3', z3'']) rfl ⟨rfl, (by repeat (first | assumption | exact Below.refl _ _ | apply Below.drew | (refine Below.setCell ?_ (by (first | omega | (simp <;> omega))) _) | (refine Below.alloc ?_ (by (first | omega | (simp <;> omega))) _) | (refine bstep (by assumption) (by (first | omega | (simp <;> omega))) ?_)))⟩
theorem s_AddShares_t {a b c d : Int} (h : sv a b = true) (h2 : sv c d = true) (w : World) : Calls Try.prog 28 #[T2 a b, T2 c d] w fun e w' => e = .returned (T2 ((a + c) % 4096) ((b + d) % 4096)) ∧ Below w.heap.size w w' := by
  obtain ⟨ha, hb⟩ := sv_of h
  obtain ⟨hc, hd⟩ := sv_of h2
  go_enter Try.func28, Try.ntmps28
  go_wp2_with fail
  refine (s_SharedValid_t h _).mono ?_
  rintro e w1 ⟨rfl, hb1⟩
  obtain ⟨hc1, hf1⟩ := bcell hb1
  have hs1 := hb1.size
  try simp at hs1
  have z1 : w.heap.size < w1.heap.size := by omega
  have z1' : w.heap.size + 1 < w1.heap.size := by omega
  have z1'' : w.heap.size + 1 + 1 < w1.heap.size := by omega
  clear hs1
  go_wp2_with fail
  refine (s_SharedValid_t h2 _).mono ?_
  rintro e w2 ⟨rfl, hb2⟩
  obtain ⟨hc2, hf2⟩ := bcell hb2
  have hs2 := hb2.size
  try simp at hs2
  have z2 : w.heap.size < w2.heap.size := by omega
  have z2' : w.heap.size + 1 < w2.heap.size := by omega
  have z2'' : w.heap.size + 1 + 1 < w2.heap.size := by omega
  clear hs2
  have e1 : IntKind.i64.wrap (a + c) = a + c := IntWalk.i64_in _ (by omega)
  have e2 : IntKind.i64.wrap (b + d) = b + d := IntWalk.i64_in _ (by omega)
  have q0 : w2.cell? ⟨w.heap.size, 0, none⟩ = some (.int .i64 a) := by
    rw [hc2 _ _ (by first | omega | assumption), hc1 _ _ (by simp <;> omega)]
    simp [go_sem, World.cell?_alloc_past]
  have q1 : w2.cell? ⟨w.heap.size, 1, none⟩ = some (.int .i64 b) := by
    rw [hc2 _ _ (by first | omega | assumption), hc1 _ _ (by simp <;> omega)]
    simp [go_sem, World.cell?_alloc_past]
  have q2 : w2.cell? ⟨w.heap.size + 1, 0, none⟩ = some (.int .i64 c) := by
    rw [hc2 _ _ (by first | omega | assumption), hc1 _ _ (by simp <;> omega)]
    simp [go_sem, World.cell?_alloc_past]
  have q3 : w2.cell? ⟨w.heap.size + 1, 1, none⟩ = some (.int .i64 d) := by
    rw [hc2 _ _ (by first | omega | assumption), hc1 _ _ (by simp <;> omega)]
    simp [go_sem, World.cell?_alloc_past]
  go_wp2_with fail
  go_region_held3 (fun w' => w'.cell? ⟨w.heap.size, 0, none⟩ = some (.int .i64 a) ∧ w'.cell? ⟨w.heap.size, 1, none⟩ = some (.int .i64 b) ∧ w'.cell? ⟨w.heap.size + 1, 0, none⟩ = some (.int .i64 c) ∧ w'.cell? ⟨w.heap.size + 1, 1, none⟩ = some (.int .i64 d)) (first | (simp [go_sem, q0, q1, q2, q3]; done) | exact ⟨q0, q1, q2, q3⟩)
    ((go_at_call 39; refine (s_l1Ring _ _).mono ?_; rintro e w' ⟨rfl, rfl⟩))
  all_goals
    go_wp2
    exact bodyPost_ret (v := T2 ((a + c) % 4096) ((b + d) % 4096)) (by simp [results, Try.results28, go_sem, T2, hc1, hf1, z1, z1', z1'', hc2, hf2, z2, z2', z2'']) rfl ⟨rfl, (by repeat (first | assumption | exact Below.refl _ _ | apply Below.drew | (refine Below.setCell ?_ (by (first | omega | (simp <;> omega))) _) | (refine Below.alloc ?_ (by (first | omega | (simp <;> omega))) _) | (refine bstep (by assumption) (by (first | omega | (simp <;> omega))) ?_)))⟩
theorem s_SubShares_f1 {a b : Int} (h : sv a b = false) (c d : Int) (w : World) : Calls Try.prog 27 #[T2 a b, T2 c d] w fun e w' => e = .returned (T2 (-1) (-1)) ∧ Below w.heap.size w w' := by
  go_enter Try.func27, Try.ntmps27
  go_wp2_with fail
  refine (s_SharedValid_f h _).mono ?_
  rintro e w1 ⟨rfl, hb1⟩
  obtain ⟨hc1, hf1⟩ := bcell hb1
  have hs1 := hb1.size
  try simp at hs1
  have z1 : w.heap.size < w1.heap.size := by omega
  have z1' : w.heap.size + 1 < w1.heap.size := by omega
  have z1'' : w.heap.size + 1 + 1 < w1.heap.size := by omega
  clear hs1
  go_wp2_with fail
  refine (s_l6Bad _).mono ?_
  rintro e w2 ⟨rfl, hb2⟩
  obtain ⟨hc2, hf2⟩ := bcell hb2
  have hs2 := hb2.size
  try simp at hs2
  have z2 : w.heap.size < w2.heap.size := by omega
  have z2' : w.heap.size + 1 < w2.heap.size := by omega
  have z2'' : w.heap.size + 1 + 1 < w2.heap.size := by omega
  clear hs2
  go_wp2
  exact bodyPost_ret (v := T2 (-1) (-1)) (by simp [results, Try.results27, go_sem, T2, hc1, hf1, z1, z1', z1'', hc2, hf2, z2, z2', z2'']) rfl ⟨rfl, (by repeat (first | assumption | exact Below.refl _ _ | apply Below.drew | (refine Below.setCell ?_ (by (first | omega | (simp <;> omega))) _) | (refine Below.alloc ?_ (by (first | omega | (simp <;> omega))) _) | (refine bstep (by assumption) (by (first | omega | (simp <;> omega))) ?_)))⟩
theorem s_SubShares_f2 {a b c d : Int} (h : sv a b = true) (h2 : sv c d = false) (w : World) : Calls Try.prog 27 #[T2 a b, T2 c d] w fun e w' => e = .returned (T2 (-1) (-1)) ∧ Below w.heap.size w w' := by
  go_enter Try.func27, Try.ntmps27
  go_wp2_with fail
  refine (s_SharedValid_t h _).mono ?_
  rintro e w1 ⟨rfl, hb1⟩
  obtain ⟨hc1, hf1⟩ := bcell hb1
  have hs1 := hb1.size
  try simp at hs1
  have z1 : w.heap.size < w1.heap.size := by omega
  have z1' : w.heap.size + 1 < w1.heap.size := by omega
  have z1'' : w.heap.size + 1 + 1 < w1.heap.size := by omega
  clear hs1
  go_wp2_with fail
  refine (s_SharedValid_f h2 _).mono ?_
  rintro e w2 ⟨rfl, hb2⟩
  obtain ⟨hc2, hf2⟩ := bcell hb2
  have hs2 := hb2.size
  try simp at hs2
  have z2 : w.heap.size < w2.heap.size := by omega
  have z2' : w.heap.size + 1 < w2.heap.size := by omega
  have z2'' : w.heap.size + 1 + 1 < w2.heap.size := by omega
  clear hs2
  go_wp2_with fail
  refine (s_l6Bad _).mono ?_
  rintro e w3 ⟨rfl, hb3⟩
  obtain ⟨hc3, hf3⟩ := bcell hb3
  have hs3 := hb3.size
  try simp at hs3
  have z3 : w.heap.size < w3.heap.size := by omega
  have z3' : w.heap.size + 1 < w3.heap.size := by omega
  have z3'' : w.heap.size + 1 + 1 < w3.heap.size := by omega
  clear hs3
  go_wp2
  exact bodyPost_ret (v := T2 (-1) (-1)) (by simp [results, Try.results27, go_sem, T2, hc1, hf1, z1, z1', z1'', hc2, hf2, z2, z2', z2'', hc3, hf3, z3, z3', z3'']) rfl ⟨rfl, (by repeat (first | assumption | exact Below.refl _ _ | apply Below.drew | (refine Below.setCell ?_ (by (first | omega | (simp <;> omega))) _) | (refine Below.alloc ?_ (by (first | omega | (simp <;> omega))) _) | (refine bstep (by assumption) (by (first | omega | (simp <;> omega))) ?_)))⟩
theorem s_SubShares_t {a b c d : Int} (h : sv a b = true) (h2 : sv c d = true) (w : World) : Calls Try.prog 27 #[T2 a b, T2 c d] w fun e w' => e = .returned (T2 ((a - c) % 4096) ((b - d) % 4096)) ∧ Below w.heap.size w w' := by
  obtain ⟨ha, hb⟩ := sv_of h
  obtain ⟨hc, hd⟩ := sv_of h2
  go_enter Try.func27, Try.ntmps27
  go_wp2_with fail
  refine (s_SharedValid_t h _).mono ?_
  rintro e w1 ⟨rfl, hb1⟩
  obtain ⟨hc1, hf1⟩ := bcell hb1
  have hs1 := hb1.size
  try simp at hs1
  have z1 : w.heap.size < w1.heap.size := by omega
  have z1' : w.heap.size + 1 < w1.heap.size := by omega
  have z1'' : w.heap.size + 1 + 1 < w1.heap.size := by omega
  clear hs1
  go_wp2_with fail
  refine (s_SharedValid_t h2 _).mono ?_
  rintro e w2 ⟨rfl, hb2⟩
  obtain ⟨hc2, hf2⟩ := bcell hb2
  have hs2 := hb2.size
  try simp at hs2
  have z2 : w.heap.size < w2.heap.size := by omega
  have z2' : w.heap.size + 1 < w2.heap.size := by omega
  have z2'' : w.heap.size + 1 + 1 < w2.heap.size := by omega
  clear hs2
  have e1 : IntKind.i64.wrap (a - c) = a - c := IntWalk.i64_in _ (by omega)
  have e2 : IntKind.i64.wrap (b - d) = b - d := IntWalk.i64_in _ (by omega)
  have q0 : w2.cell? ⟨w.heap.size, 0, none⟩ = some (.int .i64 a) := by
    rw [hc2 _ _ (by first | omega | assumption), hc1 _ _ (by simp <;> omega)]
    simp [go_sem, World.cell?_alloc_past]
  have q1 : w2.cell? ⟨w.heap.size, 1, none⟩ = some (.int .i64 b) := by
    rw [hc2 _ _ (by first | omega | assumption), hc1 _ _ (by simp <;> omega)]
    simp [go_sem, World.cell?_alloc_past]
  have q2 : w2.cell? ⟨w.heap.size + 1, 0, none⟩ = some (.int .i64 c) := by
    rw [hc2 _ _ (by first | omega | assumption), hc1 _ _ (by simp <;> omega)]
    simp [go_sem, World.cell?_alloc_past]
  have q3 : w2.cell? ⟨w.heap.size + 1, 1, none⟩ = some (.int .i64 d) := by
    rw [hc2 _ _ (by first | omega | assumption), hc1 _ _ (by simp <;> omega)]
    simp [go_sem, World.cell?_alloc_past]
  go_wp2_with fail
  go_region_held3 (fun w' => w'.cell? ⟨w.heap.size, 0, none⟩ = some (.int .i64 a) ∧ w'.cell? ⟨w.heap.size, 1, none⟩ = some (.int .i64 b) ∧ w'.cell? ⟨w.heap.size + 1, 0, none⟩ = some (.int .i64 c) ∧ w'.cell? ⟨w.heap.size + 1, 1, none⟩ = some (.int .i64 d)) (first | (simp [go_sem, q0, q1, q2, q3]; done) | exact ⟨q0, q1, q2, q3⟩)
    ((go_at_call 39; refine (s_l1Ring _ _).mono ?_; rintro e w' ⟨rfl, rfl⟩))
  all_goals
    go_wp2
    exact bodyPost_ret (v := T2 ((a - c) % 4096) ((b - d) % 4096)) (by simp [results, Try.results27, go_sem, T2, hc1, hf1, z1, z1', z1'', hc2, hf2, z2, z2', z2'']) rfl ⟨rfl, (by repeat (first | assumption | exact Below.refl _ _ | apply Below.drew | (refine Below.setCell ?_ (by (first | omega | (simp <;> omega))) _) | (refine Below.alloc ?_ (by (first | omega | (simp <;> omega))) _) | (refine bstep (by assumption) (by (first | omega | (simp <;> omega))) ?_)))⟩
theorem i_JoinShares (a b : Int) (w : World) : Calls Try.prog 18 #[T2 a b] w fun e w' => e = .returned (.int .i64 (addR a b)) ∧ Below w.heap.size w w' := by
  go_enter Try.func18, Try.ntmps18
  go_wp2_with fail
  refine (i_AddRing a b _).mono ?_
  rintro e w' ⟨rfl, rfl⟩
  go_wp2
  go_ret
  exact ⟨rfl, (by repeat (first | assumption | exact Below.refl _ _ | apply Below.drew | (refine Below.setCell ?_ (by (first | omega | (simp <;> omega))) _) | (refine Below.alloc ?_ (by (first | omega | (simp <;> omega))) _) | (refine bstep (by assumption) (by (first | omega | (simp <;> omega))) ?_)))⟩
theorem s_JoinShares (a b : Int) (w : World) : Calls Try.prog 53 #[T2 a b] w fun e w' => e = .returned (.int .i64 (addR a b)) ∧ Below w.heap.size w w' := by
  go_enter Try.func53, Try.ntmps53
  go_wp2_with fail
  refine (s_AddRing a b _).mono ?_
  rintro e w' ⟨rfl, rfl⟩
  go_wp2
  go_ret
  exact ⟨rfl, (by repeat (first | assumption | exact Below.refl _ _ | apply Below.drew | (refine Below.setCell ?_ (by (first | omega | (simp <;> omega))) _) | (refine Below.alloc ?_ (by (first | omega | (simp <;> omega))) _) | (refine bstep (by assumption) (by (first | omega | (simp <;> omega))) ?_)))⟩
end Go.Proofs.Ytbpeoefnofjilaa

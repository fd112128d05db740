/-
  CONTRACTS: the best number (SignedOf, allRing, PlainBest), and the draw of its list.
-/
import Derived.Test.YtkpmnfegdhfhcaaFl
import Derived.Test.YtkpmnfegdhfhcaaRdRing
namespace Go.Proofs.Ytkpmnfegdhfhcaa
open Go.RowKit
set_option linter.unusedVariables false
set_option linter.unusedSimpArgs false

theorem own_push_rd {w wr w1 : World} {base k c g cap rb P : Nat} {A : Option Addr} {xs : List Int} {x : Int} {o : Obj} (hos : OS wr base A k c xs) (ho : Only rb w wr) (hr : Rd wr rb P) (h0 : w.heap.size ≤ base) (hrb : rb < base) (hbs : base ≤ wr.heap.size)
    (hown : w1.ownsRow base 3 1 (.slice (some ⟨g, 0, none⟩) (k + 1) cap) (k + 1) (xs.map (Value.int .i64) ++ [.int .i64 x])) (hg : (wr.alloc o).grownBy w1 (Value.slice A k c).ownBlock)
    (hat : (Value.slice A k c).ownBlock = some g ∨ g = wr.heap.size + 1) :
    OS w1 base (some ⟨g, 0, none⟩) (k + 1) cap (xs ++ [x]) ∧ Only rb w w1 ∧ Rd w1 rb P := by
  obtain ⟨h1, _, h3, _⟩ := own_push_at hos (Below.refl base wr) hbs hown hg hat
  have hne : ∀ i, i < base → some i ≠ blk A := fun i hi e => by have := (hos.blk_lt i e.symm).1; omega
  refine ⟨h1, ⟨h3.os.trans ho.os, h3.tape.trans ho.tape, h3.output.trans ho.output, Nat.le_trans ho.size h3.size, fun i hi hnr => (h3.block i (by omega) (hne i (by omega))).trans (ho.block i hi hnr)⟩, hr.keep fun i hi => h3.block i (by omega) (hne i (by omega))⟩
theorem OS.only {w w' : World} {base n cap rb : Nat} {A : Option Addr} {xs : List Int} (h : OS w base A n cap xs) (ho : Only rb w w') (hr : rb < base) : OS w' base A n cap xs := h.keep ho.size fun g hg hl => ho.block g hl (fun e => by injection e; have := (h.blk_lt g hg).1; omega)

theorem xor_all : (List.range 4096).all (fun x => decide ((x ^^^ 2048 : Nat) = if 2048 ≤ x then x - 2048 else x + 2048)) = true := by decide +kernel
theorem sgn_bits {x : Int} (h : 0 ≤ x ∧ x ≤ 4095) : IntKind.i64.wrap (bits .xor .i64 x 2048 - 2048) = sgn x := by
  obtain ⟨m, rfl⟩ : ∃ m : Nat, x = (m : Int) := ⟨x.toNat, by omega⟩
  have hm : m < 4096 := by omega
  have e := i64_xor_nat m 2048 (by omega) (by omega)
  have e2 : ((2048 : Nat) : Int) = (2048 : Int) := rfl
  rw [e2] at e
  rw [e]
  have h1 := of_decide_eq_true (List.all_eq_true.1 xor_all m (List.mem_range.2 hm))
  rw [h1]
  unfold sgn
  rw [if_pos (rv_true h)]
  split
  · rw [if_pos (by omega), IntWalk.i64_in _ (by omega)]; omega
  · rw [if_neg (by omega), IntWalk.i64_in _ (by omega)]; omega
theorem sgn_bd (x : Int) : -4096 ≤ sgn x ∧ sgn x ≤ 2047 := by
  unfold sgn
  split
  · have := rv_of (by assumption); split <;> omega
  · omega
theorem sgn_f {x : Int} (h : ¬ (0 ≤ x ∧ x ≤ 4095)) : sgn x = -4096 := by
  unfold sgn
  rw [rv_false h]; rfl
theorem sgn_hi {x : Int} (h : 0 ≤ x ∧ x ≤ 4095) (h2 : 2048 ≤ x) : sgn x = x - 4096 := by
  unfold sgn
  rw [if_pos (rv_true h), if_pos h2]
theorem sgn_lo {x : Int} (h : 0 ≤ x ∧ x ≤ 4095) (h2 : ¬ 2048 ≤ x) : sgn x = x := by
  unfold sgn
  rw [if_pos (rv_true h), if_neg h2]

/-! ## The best place -/
def bst (xs : List Int) : Nat → Nat
  | 0 => 0
  | k + 1 => if sgn (xs.getD (bst xs k) 0) < sgn (xs.getD k 0) then k else bst xs k
theorem bst_lt (xs : List Int) : ∀ k, bst xs k < k ∨ bst xs k = 0
  | 0 => .inr rfl
  | k + 1 => by
    unfold bst
    split
    · exact .inl (by omega)
    · have := bst_lt xs k; omega
theorem bst_max (xs : List Int) : ∀ k, (∀ j, j < k → sgn (xs.getD j 0) ≤ sgn (xs.getD (bst xs k) 0)) ∧ ∀ j, j < bst xs k → sgn (xs.getD j 0) < sgn (xs.getD (bst xs k) 0)
  | 0 => ⟨fun j h => absurd h (by omega), fun j h => absurd h (by simp [bst])⟩
  | k + 1 => by
    obtain ⟨h1, h2⟩ := bst_max xs k
    unfold bst
    split
    · rename_i h
      refine ⟨fun j hj => ?_, fun j hj => ?_⟩
      · rcases (by omega : j < k ∨ j = k) with h3 | rfl
        · have := h1 j h3; omega
        · exact Int.le_refl _
      · have := h1 j hj; omega
    · rename_i h
      refine ⟨fun j hj => ?_, h2⟩
      rcases (by omega : j < k ∨ j = k) with h3 | rfl
      · exact h1 j h3
      · omega
/-- what PlainBest returns -/
def bestR (xs : List Int) : Int := if (decide (1 ≤ xs.length ∧ xs.length ≤ 8) && xs.all rv) = true then (bst xs xs.length : Int) else -1
theorem bestR_t {xs : List Int} (h : 1 ≤ xs.length ∧ xs.length ≤ 8) (ha : xs.all rv = true) : bestR xs = (bst xs xs.length : Int) := by
  unfold bestR
  rw [decide_eq_true h, ha]; rfl
theorem bestR_len {xs : List Int} (h : ¬ (1 ≤ xs.length ∧ xs.length ≤ 8)) : bestR xs = -1 := by
  unfold bestR
  rw [decide_eq_false h]; rfl
theorem bestR_bad {xs : List Int} (ha : xs.all rv = false) : bestR xs = -1 := by
  unfold bestR
  rw [ha, Bool.and_false]; rfl
theorem all_bad {f : Int → Bool} {xs : List Int} {x : Int} (hm : x ∈ xs) (h : f x = false) : xs.all f = false := by
  rw [List.all_eq_false]; exact ⟨x, hm, by simp [h]⟩
theorem allr_succ {f : Int → Bool} {xs : List Int} {k : Nat} (h1 : k < xs.length) (h : (xs.take k).all f = true) (hx : f (xs.getD k 0) = true) : (xs.take (k + 1)).all f = true := by
  rw [getD_get xs k h1] at hx
  rw [take_snoc xs k h1, List.all_append, h]; simp [hx]

set_option maxHeartbeats 1000000 in
theorem i_allRing (A : Option Addr) (n c : Nat) (xs : List Int) (w : World) (hx : SI w A n xs) (bn : n ≤ 281474976710656) :
    Calls Try.prog 75 #[.slice A n c] w fun e w' => e = .returned (.bool (xs.all rv)) ∧ w = w' := by
  by_cases h0 : n = 0
  · subst h0
    have e0 : xs = [] := List.eq_nil_of_length_eq_zero hx.1
    subst e0
    clear hx
    go_enter Try.func75, Try.ntmps75
    go_wp2
    refine wp_loop_rounds 1 ?_
    rw [rounds_succ]
    go_wp2
    go_ret
    exact ⟨rfl, rfl⟩
  obtain ⟨b, off, rfl, hb, hc⟩ := hx.2 (by omega)
  have lx := Lib.hid hx.1
  have HC := Lib.hid hc
  clear hx hc
  go_enter Try.func75, Try.ntmps75
  go_wp2
  go_loop [7] (fun i => ∃ k : Nat, k ≤ n ∧ i = .int .i64 k ∧ Hid ((xs.take k).all rv = true)) (fun i => n - (intOf i).toNat)
  case atStart => exact ⟨0, Nat.zero_le _, rfl, by simp [Hid]⟩
  case round =>
    obtain ⟨k, hk, rfl, heq⟩ := hrel
    by_cases hlt : k < n
    · obtain ⟨x, ex⟩ : ∃ x, x = xs.getD k 0 := ⟨_, rfl⟩
      have cx : w.cell? ⟨b, off + k, none⟩ = some (.int .i64 x) := by rw [ex]; exact HC.out k hlt
      have EX := Lib.hid ex
      clear ex
      by_cases hxv : 0 ≤ x ∧ x ≤ 4095
      · go_wp2_with fail
        refine (i_RingValid_t x hxv _).mono ?_
        rintro e w' ⟨rfl, rfl⟩
        go_wp2
        go_round
        case rel => exact ⟨k + 1, by omega, by go_num, allr_succ (by rw [lx.out]; exact hlt) heq.out (by rw [← EX.out]; exact rv_true hxv)⟩
        case measure => simp [intOf]; omega
      · have hfin : xs.all rv = false := all_bad (getD_mem (k := k) (by rw [lx.out]; exact hlt)) (by rw [← EX.out]; exact rv_false hxv)
        have HF := Lib.hid hfin
        clear hfin
        go_wp2_with fail
        refine (i_RingValid_f x hxv _).mono ?_
        rintro e w' ⟨rfl, rfl⟩
        go_wp2
        go_ret
        exact ⟨ret_bool (a := false) HF.out.symm, rfl⟩
    · have hfin : xs.all rv = true := by
        have : k = n := by omega
        subst this
        have h := heq.out
        rwa [List.take_of_length_le (by rw [lx.out]; exact Nat.le_refl _)] at h
      have HF := Lib.hid hfin
      clear hfin heq
      go_wp2
      go_ret
      exact ⟨ret_bool (a := true) HF.out.symm, rfl⟩
end Go.Proofs.Ytkpmnfegdhfhcaa

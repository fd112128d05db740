/-
  READING A FIXED NUMBER, in plain words.
-/
import Derived.Test.YtcmgnnfkgkibgaaDoorFixP
import Derived.Test.YtcmgnnfkgkibgaaDoorNeedsP
import Derived.Lib.IndexMore
namespace Go.Proofs.YtcmgnnfkgkibgaaDoor
open Go.RowKit
set_option linter.unusedVariables false
set_option linter.unusedSimpArgs false

def isD (b : UInt8) : Bool := decide (48 ≤ b.toNat ∧ b.toNat ≤ 57)
def vl (l : List UInt8) : Int := l.foldl (fun a b => a * 10 + ((b.toNat : Int) - 48)) 0
theorem vl_nil : vl [] = 0 := rfl
theorem vl_snoc (l : List UInt8) (b : UInt8) : vl (l ++ [b]) = vl l * 10 + ((b.toNat : Int) - 48) := by simp [vl, List.foldl_append]
theorem vl_dd (u : Nat) : vl (Lib.decDigits u) = (u : Int) := by
  induction u using Nat.strongRecOn with
  | _ u ih =>
    rw [Lib.decDigits]
    split
    · rename_i h
      have e : (UInt8.ofNat (48 + u)).toNat = 48 + u := by simp; omega
      simp only [vl, List.foldl_cons, List.foldl_nil, e]
      omega
    · rename_i h
      have e : (UInt8.ofNat (48 + u % 10)).toNat = 48 + u % 10 := by simp; omega
      rw [vl_snoc, ih (u / 10) (by omega), e]
      omega
theorem vl_dec {m : Int} (h : 0 ≤ m) : vl (dec m) = m := by unfold dec; rw [vl_dd]; omega
theorem dec_D (m : Int) : (dec m).all isD = true := by
  rw [List.all_eq_true]
  intro x hx
  exact decide_eq_true (dd_mem _ x hx)
theorem dec_len1 (m : Int) : 1 ≤ (dec m).length := (dd_len _).1
theorem dec_len3 {m : Int} (h : m ≤ 999) : (dec m).length ≤ 3 := by
  unfold dec
  rw [Lib.decDigits]
  split
  · simp
  · rw [Lib.decDigits]
    split
    · simp
    · rw [Lib.decDigits, dif_pos (by omega)]
      simp
theorem vl_bd (l : List UInt8) (h : l.all isD = true) : ∀ k, k ≤ l.length → 0 ≤ vl (l.take k) ∧ vl (l.take k) ≤ 10 ^ k - 1 := by
  intro k
  induction k with
  | zero => intro _; simp [vl]
  | succ k ih =>
    intro hk
    obtain ⟨h1, h2⟩ := ih (by omega)
    rw [List.all_eq_true] at h
    have h3 : 48 ≤ (l[k]).toNat ∧ (l[k]).toNat ≤ 57 := of_decide_eq_true (h _ (List.getElem_mem _))
    rw [List.take_succ_eq_append_getElem (by omega), vl_snoc, Int.pow_succ]
    omega
theorem cut_none {a : List UInt8} {c : UInt8} (h : c ∉ a) : Lib.cut a [c] = (a, [], false) := by
  have e : Lib.index a [c] = -1 := by
    induction a with
    | nil => rfl
    | cons b a ih =>
      have hb : b ≠ c := fun e => h (by rw [e]; exact List.mem_cons_self ..)
      have hp : List.isPrefixOf [c] (b :: a) = false := by simp [List.isPrefixOf, Ne.symm hb]
      unfold Lib.index
      rw [hp, ih (fun e => h (List.mem_cons_of_mem _ e))]
      rfl
  unfold Lib.cut
  rw [if_neg (by rw [e]; decide)]
theorem index_at {a b : List UInt8} {c : UInt8} (h : c ∉ a) : Lib.index (a ++ c :: b) [c] = (a.length : Int) := by
  induction a with
  | nil => simp [Lib.index, List.isPrefixOf]
  | cons d a ih =>
    have hb : d ≠ c := fun e => h (by rw [e]; exact List.mem_cons_self ..)
    have hp : List.isPrefixOf [c] (d :: (a ++ c :: b)) = false := by simp [List.isPrefixOf, Ne.symm hb]
    rw [List.cons_append]
    unfold Lib.index
    rw [hp, ih (fun e => h (List.mem_cons_of_mem _ e))]
    have : (((a.length : Int)) == -1) = false := by rw [beq_eq_false_iff_ne]; omega
    simp [this]
theorem cut_at {a b : List UInt8} {c : UInt8} (h : c ∉ a) : Lib.cut (a ++ c :: b) [c] = (a, b, true) := by
  unfold Lib.cut
  rw [index_at h, if_pos (by omega)]
  simp
/-- the number of a text of digits -/
def dOf (l : List UInt8) : Int × Bool := if l.all isD = true then (vl l, decide (l ≠ [])) else (0, false)
/-- four digits -/
def four (l : List UInt8) : List UInt8 := l ++ List.replicate (4 - l.length) 48
/-- what the program reads, ahead of its test -/
def pI (l : List UInt8) : Option Int :=
  let c := Lib.cut (Lib.trimPrefix l [45]) [46]
  if 3 < c.1.length ∨ 4 < c.2.1.length then none
  else if (dOf c.1).2 = true ∧ (dOf (four c.2.1)).2 = true then
    some ((if Lib.hasPrefix l [45] = true then -((dOf c.1).1 * 16 + (dOf (four c.2.1)).1 / 625) else (dOf c.1).1 * 16 + (dOf (four c.2.1)).1 / 625) % 4096)
  else none
theorem four_fd : ∀ r : Fin 16, (fd r.val).length ≤ 4 ∧ dOf (four (fd r.val)) = ((r.val : Int) * 625, true) := by decide
theorem dec_not (m : Int) {c : UInt8} (hc : c.toNat < 48) : c ∉ dec m := fun h => by have := dd_mem _ c h; omega
theorem cut_fxn {n : Int} (h0 : 0 ≤ n) (h1 : n ≤ 4096) : ∃ b, Lib.cut (fxn n) [46] = (dec (n / 16), fd (n % 16).toNat, b) := by
  unfold fxn
  split
  · rename_i h
    rw [List.append_nil, cut_none (dec_not _ (by decide)), h]
    exact ⟨_, rfl⟩
  · rw [cut_at (dec_not _ (by decide))]
    exact ⟨_, rfl⟩
theorem fxn_head (n : Int) : ∃ d r, fxn n = d :: r ∧ 48 ≤ d.toNat := by
  have h := dec_len1 (n / 16)
  cases hd : dec (n / 16) with
  | nil => rw [hd] at h; simp at h
  | cons d t =>
    have hm := dd_mem (n / 16).toNat d (by show d ∈ dec (n / 16); rw [hd]; exact List.mem_cons_self ..)
    unfold fxn
    rw [hd]
    exact ⟨d, _, rfl, hm.1⟩
theorem fxs_prefix (n : Int) : Lib.hasPrefix (fxs n) [45] = decide (n < 0) ∧ Lib.trimPrefix (fxs n) [45] = fxn (ab n) := by
  unfold fxs ab
  by_cases h : n < 0
  · rw [if_pos h, if_pos h]
    simp [Lib.hasPrefix, Lib.trimPrefix, List.isPrefixOf, h]
  · rw [if_neg h, if_neg h]
    obtain ⟨d, r, e, hd⟩ := fxn_head n
    have hne : (45 : UInt8) ≠ d := fun e => by rw [← e] at hd; revert hd; decide
    rw [e]
    simp [Lib.hasPrefix, Lib.trimPrefix, List.isPrefixOf, h, hne]
theorem sgn_mod {x : Int} (h0 : 0 ≤ x) (h1 : x ≤ 4095) : sgn x % 4096 = x := by
  unfold sgn
  rw [if_pos (rv_true ⟨h0, h1⟩)]
  split <;> omega
theorem pI_fx {x : Int} (h0 : 0 ≤ x) (h1 : x ≤ 4095) : pI (fx x) = some x := by
  have hb := sgn_bd' x
  obtain ⟨hp, ht⟩ := fxs_prefix (sgn x)
  have ha : 0 ≤ ab (sgn x) ∧ ab (sgn x) ≤ 4096 := by unfold ab; split <;> omega
  obtain ⟨b, hc⟩ := cut_fxn ha.1 ha.2
  have hr := four_fd ⟨(ab (sgn x) % 16).toNat, by omega⟩
  dsimp only at hr
  have hd : dOf (dec (ab (sgn x) / 16)) = (ab (sgn x) / 16, true) := by
    unfold dOf
    rw [if_pos (dec_D _), vl_dec (by omega)]
    have : dec (ab (sgn x) / 16) ≠ [] := fun e => by have := dec_len1 (ab (sgn x) / 16); rw [e] at this; simp at this
    simp [this]
  unfold pI fx
  rw [hp, ht, hc]
  dsimp only
  rw [hr.2, hd]
  have hl := dec_len3 (m := ab (sgn x) / 16) (by omega)
  rw [if_neg (by omega), if_pos ⟨rfl, rfl⟩]
  have e1 : (((ab (sgn x) % 16).toNat : Int) * 625) / 625 = ab (sgn x) % 16 := by omega
  dsimp only
  rw [e1]
  have e2 : ab (sgn x) / 16 * 16 + ab (sgn x) % 16 = ab (sgn x) := by omega
  rw [e2]
  congr 1
  have h3 := sgn_mod h0 h1
  unfold ab
  by_cases h : sgn x < 0
  · simp only [h, decide_true, if_true]
    omega
  · simp only [h, decide_false, if_false, Bool.false_eq_true]
    exact h3
theorem fx_inj {x y : Int} (hx : 0 ≤ x ∧ x ≤ 4095) (hy : 0 ≤ y ∧ y ≤ 4095) (h : fx x = fx y) : x = y := by
  have h1 := pI_fx hx.1 hx.2
  rw [h, pI_fx hy.1 hy.2] at h1
  injection h1 with h1
  exact h1.symm
theorem fx_ne (x : Int) : fx x ≠ [] := by
  obtain ⟨d, r, e, _⟩ := fxn_head (ab (sgn x))
  unfold fx
  rw [fxs_eq, e]
  simp
/-- what reading a word gives -/
def RF (l : List UInt8) (v : Int) (ok : Bool) : Prop := (ok = true ∧ (0 ≤ v ∧ v ≤ 4095) ∧ fx v = l) ∨ (ok = false ∧ v = 0 ∧ ∀ x, 0 ≤ x → x ≤ 4095 → fx x ≠ l)
theorem RF.yes {l : List UInt8} {v : Int} (h0 : 0 ≤ v ∧ v ≤ 4095) (h : fx v = l) : RF l v true := .inl ⟨rfl, h0, h⟩
theorem RF.noI {l : List UInt8} (h : pI l = none) : RF l 0 false := .inr ⟨rfl, rfl, fun x h0 h1 e => by rw [← e, pI_fx h0 h1] at h; cases h⟩
theorem RF.noI2 {l : List UInt8} {v : Int} (h : pI l = some v) (hne : fx v ≠ l) : RF l 0 false := .inr ⟨rfl, rfl, fun x h0 h1 e => by
  rw [← e, pI_fx h0 h1] at h
  injection h with h
  exact hne (by rw [← h]; exact e)⟩
end Go.Proofs.YtcmgnnfkgkibgaaDoor

/-
  READING A MATRIX as the reference does, in plain words.
-/
import Derived.Test.YtcmgnnfkgkibgaaDoorWd
namespace Go.Proofs.YtcmgnnfkgkibgaaDoor
open Go.RowKit
set_option linter.unusedVariables false
set_option linter.unusedSimpArgs false

/-- the words of a matrix' text -/
def wk (v : List Int) (C n k : Nat) : List UInt8 := fx (v.getD k 0) ++ (if (k + 1) % C = 0 ∧ k + 1 < n then [59] else [])
theorem join_wk (v : List Int) (C n : Nat) : ∀ j, 1 ≤ j → j ≤ n → Lib.join ((List.range j).map (wk v C n)) [32] = st v C j ++ (if j % C = 0 ∧ j < n then [59] else []) := by
  intro j
  induction j with
  | zero => intro h; omega
  | succ j ih =>
    intro _ hj
    rw [List.range_succ, List.map_append, List.map_cons, List.map_nil]
    by_cases h0 : j = 0
    · subst h0
      simp [Lib.join_one, wk, st]
    · have hne : (List.range j).map (wk v C n) ≠ [] := by
        intro h
        have := congrArg List.length h
        simp at this
        omega
      rw [join_snoc hne, ih (by omega) (by omega), st, wk, if_neg h0]
      by_cases hm : j % C = 0
      · rw [if_pos ⟨hm, by omega⟩, if_pos hm]; simp [List.append_assoc]
      · rw [if_neg (fun h => hm h.1), if_neg hm]; simp [List.append_assoc]
theorem wk_not (v : List Int) (C n k : Nat) : (32 : UInt8) ∉ wk v C n k := by
  unfold wk
  intro h
  rcases List.mem_append.1 h with h | h
  · exact fx_not _ (.inl rfl) h
  · split at h
    · exact absurd h (by decide)
    · cases h
theorem sp_words {v : List Int} {R C : Nat} (R1 : 1 ≤ R) (C1 : 1 ≤ C) (hl : v.length = R * C) : Lib.split (mtx v R C) [32] = (List.range (R * C)).map (wk v C (R * C)) := by
  have hn : 1 ≤ R * C := Nat.mul_pos R1 C1
  have h := join_wk v C (R * C) (R * C) hn (Nat.le_refl _)
  rw [if_neg (by omega), List.append_nil, st_rows v C C1 R (by omega)] at h
  rw [← h]
  refine sp_join (fun e => ?_) fun x hx => ?_
  · have := congrArg List.length e
    simp at this
    omega
  · obtain ⟨y, _, rfl⟩ := List.mem_map.1 hx
    exact wk_not v C _ y
/-- a word ends with the sign -/
def ed (w : List UInt8) : Bool := decide (w.getLast? = some 59)
def sw (w : List UInt8) : List UInt8 := if ed w = true then w.dropLast else w
theorem ed_fx (x : Int) : ed (fx x) = false := by
  unfold ed
  rw [decide_eq_false_iff_not]
  intro h
  exact fx_not x (.inr rfl) (List.mem_of_getLast? h)
theorem ed_sign (l : List UInt8) : ed (l ++ [59]) = true := by simp [ed]
theorem sw_fx (x : Int) : sw (fx x) = fx x := by unfold sw; rw [ed_fx]; rfl
theorem sw_sign (l : List UInt8) : sw (l ++ [59]) = l := by unfold sw; rw [if_pos (ed_sign l)]; simp
/-- where the text is a matrix', k words read -/
def Ex (l : List UInt8) (k : Nat) (vs : List Int) (ro ga : Nat) : Prop := ∀ m, mvB m = true → mt m = l → ∃ R C : Nat, m.r = (R : Int) ∧ m.c = (C : Int) ∧ vs = m.v.take k ∧ ro = 1 + min (k / C) (R - 1) ∧ ga = min k C
theorem Ex.start (l : List UInt8) : Ex l 0 [] 1 0 := fun m hm _ => by
  obtain ⟨R, C, hr, hc, R1, R5, C1, C5, hl, h25, hall⟩ := mv_facts hm
  exact ⟨R, C, hr, hc, by simp, by simp, by simp⟩
theorem word_at {l : List UInt8} {m : Mx} (hm : mvB m = true) (hl : mt m = l) {k : Nat} (hk : k < (Lib.split l [32]).length) : ∃ R C : Nat, m.r = (R : Int) ∧ m.c = (C : Int) ∧ 1 ≤ R ∧ 1 ≤ C ∧ m.v.length = R * C ∧ R * C ≤ 25 ∧ k < R * C ∧ (Lib.split l [32]).length = R * C ∧ (0 ≤ m.v.getD k 0 ∧ m.v.getD k 0 ≤ 4095) ∧ (Lib.split l [32]).getD k [] = wk m.v C (R * C) k := by
  obtain ⟨R, C, hr, hc, R1, R5, C1, C5, hlen, h25, hall⟩ := mv_facts hm
  have e : Lib.split l [32] = (List.range (R * C)).map (wk m.v C (R * C)) := by rw [← hl, mt_ok hm hr hc, sp_words R1 C1 hlen]
  rw [e] at hk ⊢
  have hk2 : k < R * C := by simpa using hk
  exact ⟨R, C, hr, hc, R1, C1, hlen, h25, hk2, by simp, all_rv hall (by omega), by simp [List.getD_eq_getElem?_getD, hk2]⟩
theorem sw_wk (v : List Int) (C n k : Nat) : sw (wk v C n k) = fx (v.getD k 0) ∧ ed (wk v C n k) = decide ((k + 1) % C = 0 ∧ k + 1 < n) := by
  unfold wk
  by_cases h : (k + 1) % C = 0 ∧ k + 1 < n
  · rw [if_pos h, decide_eq_true h]
    exact ⟨sw_sign _, ed_sign _⟩
  · rw [if_neg h, decide_eq_false h, List.append_nil]
    exact ⟨sw_fx _, ed_fx _⟩
theorem div_step {k C : Nat} (hC : 1 ≤ C) : (k + 1) / C = if (k + 1) % C = 0 then k / C + 1 else k / C := by
  rw [Nat.succ_div]
  by_cases h : (k + 1) % C = 0
  · rw [if_pos h, if_pos (Nat.dvd_of_mod_eq_zero h)]
  · rw [if_neg h, if_neg (fun hd => h (Nat.mod_eq_zero_of_dvd hd)), Nat.add_zero]
theorem Ex.step {l : List UInt8} {k ro ga : Nat} {vs : List Int} {x : Int} (h : Ex l k vs ro ga) (hk : k < (Lib.split l [32]).length) (hx : RF (sw ((Lib.split l [32]).getD k [])) x true) : Ex l (k + 1) (vs ++ [x]) (if ed ((Lib.split l [32]).getD k []) = true then ro + 1 else ro) (if ro = 1 then k + 1 else ga) := fun m hm hl => by
  obtain ⟨R, C, hr, hc, R1, C1, hlen, h25, hk2, _, hrv, hw⟩ := word_at hm hl hk
  obtain ⟨R', C', hr', hc', hvs, hro, hga⟩ := h m hm hl
  obtain rfl : R' = R := by omega
  obtain rfl : C' = C := by omega
  obtain ⟨hs, he⟩ := sw_wk m.v C' (R' * C') k
  rw [hw, hs] at hx
  obtain ⟨hx1, hx2⟩ := hx.num
  have hxe : x = m.v.getD k 0 := fx_inj hx1 hrv hx2
  refine ⟨R', C', hr, hc, ?_, ?_, ?_⟩
  · rw [hvs, hxe, List.take_succ_eq_append_getElem (by omega), getD_get _ _ (by omega)]
  · rw [hw, he, hro, div_step C1]
    have hd : k / C' < R' := by rw [Nat.div_lt_iff_lt_mul (by omega)]; exact hk2
    by_cases hm0 : (k + 1) % C' = 0
    · rw [if_pos hm0]
      have hq : (k + 1) / C' = k / C' + 1 := by rw [div_step C1, if_pos hm0]
      have hmul : C' * ((k + 1) / C') = k + 1 := Nat.mul_div_cancel' (Nat.dvd_of_mod_eq_zero hm0)
      rw [hq] at hmul
      by_cases hlast : k + 1 < R' * C'
      · rw [decide_eq_true ⟨hm0, hlast⟩, if_pos rfl]
        have : k / C' + 1 < R' := by
          rcases Nat.lt_or_ge (k / C' + 1) R' with h | h
          · exact h
          · exfalso
            have := Nat.mul_le_mul_left C' h
            rw [hmul, Nat.mul_comm] at this
            omega
        omega
      · rw [decide_eq_false (fun h => hlast h.2), if_neg (by decide)]
        have : R' ≤ k / C' + 1 := by
          rcases Nat.lt_or_ge (k / C' + 1) R' with h | h
          · exfalso
            have := Nat.mul_lt_mul_of_pos_left h (show 0 < C' by omega)
            rw [hmul, Nat.mul_comm] at this
            omega
          · exact h
        omega
    · rw [if_neg hm0, decide_eq_false (fun h => hm0 h.1), if_neg (by decide)]
  · rw [hro, hga]
    by_cases hkC : k < C'
    · have : k / C' = 0 := Nat.div_eq_of_lt hkC
      rw [if_pos (by omega)]
      omega
    · have h1 : 1 ≤ k / C' := (Nat.one_le_div_iff (by omega)).2 (by omega)
      have h2 : 2 ≤ R' := by
        rcases Nat.lt_or_ge R' 2 with h | h
        · exfalso
          have : R' = 1 := by omega
          subst this
          omega
        · exact h
      rw [if_neg (by omega)]
      omega
theorem Ex.badw {l : List UInt8} {k ro ga : Nat} {vs : List Int} {x : Int} (h : Ex l k vs ro ga) (hk : k < (Lib.split l [32]).length) (hx : RF (sw ((Lib.split l [32]).getD k [])) x false) : RMp l Mx.z false := RMp.no fun m hm hl => by
  obtain ⟨R, C, hr, hc, R1, C1, hlen, h25, hk2, _, hrv, hw⟩ := word_at hm hl hk
  rw [hw, (sw_wk m.v C (R * C) k).1] at hx
  rcases hx with ⟨hx, _⟩ | ⟨_, _, hx⟩
  · cases hx
  · exact hx _ hrv.1 hrv.2 rfl
theorem Ex.badn {l : List UInt8} {k ro ga : Nat} {vs : List Int} (h : Ex l k vs ro ga) (hk : k < (Lib.split l [32]).length) (hn : 25 ≤ vs.length) : RMp l Mx.z false := RMp.no fun m hm hl => by
  obtain ⟨R, C, hr, hc, R1, C1, hlen, h25, hk2, _, hrv, hw⟩ := word_at hm hl hk
  obtain ⟨_, _, _, _, hvs, _, _⟩ := h m hm hl
  rw [hvs, List.length_take] at hn
  omega
theorem Ex.full {l : List UInt8} {ro ga : Nat} {vs : List Int} (h : Ex l (Lib.split l [32]).length vs ro ga) {m : Mx} (hm : mvB m = true) (hl : mt m = l) : m = ⟨(ro : Int), (ga : Int), vs⟩ := by
  obtain ⟨R, C, hr, hc, hvs, hro, hga⟩ := h m hm hl
  obtain ⟨R', C', hr', hc', R1, R5, C1, C5, hlen, h25, hall⟩ := mv_facts hm
  obtain rfl : R' = R := by omega
  obtain rfl : C' = C := by omega
  have e : (Lib.split l [32]).length = R' * C' := by rw [← hl, mt_ok hm hr hc, sp_words R1 C1 hlen]; simp
  rw [e] at hvs hro hga
  rw [List.take_of_length_le (by omega)] at hvs
  have h1 : R' * C' / C' = R' := Nat.mul_div_cancel _ (by omega)
  rw [h1] at hro
  have h2 : C' ≤ R' * C' := Nat.le_mul_of_pos_left _ (by omega)
  have e1 : ro = R' := by omega
  have e2 : ga = C' := by omega
  obtain ⟨a, b, c⟩ := m
  dsimp only at hr hc hvs
  rw [hr, hc, hvs, e1, e2]
theorem Ex.fail {l : List UInt8} {ro ga : Nat} {vs : List Int} (h : Ex l (Lib.split l [32]).length vs ro ga) (hb : mvB ⟨(ro : Int), (ga : Int), vs⟩ = false ∨ mt ⟨(ro : Int), (ga : Int), vs⟩ ≠ l) : RMp l Mx.z false := RMp.no fun m hm hl => by
  have e := h.full hm hl
  rw [e] at hm hl
  rcases hb with hb | hb
  · rw [hb] at hm; cases hm
  · exact hb hl
end Go.Proofs.YtcmgnnfkgkibgaaDoor

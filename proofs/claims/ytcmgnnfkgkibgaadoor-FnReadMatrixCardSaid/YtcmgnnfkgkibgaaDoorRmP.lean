/-
  READING A MATRIX, in plain words.
-/
import Derived.Test.YtcmgnnfkgkibgaaDoorSp
import Derived.Test.YtcmgnnfkgkibgaaDoorMt2
namespace Go.Proofs.YtcmgnnfkgkibgaaDoor
open Go.RowKit
set_option linter.unusedVariables false
set_option linter.unusedSimpArgs false

theorem strs_at {P : List (List UInt8)} {k : Nat} (h : k < P.length) : (strs P)[k]? = some (.string (bs (P.getD k []))) := by
  rw [strs, List.getElem?_map, List.getElem?_eq_getElem h, List.getD_eq_getElem?_getD, List.getElem?_eq_getElem h]
  rfl
theorem getD_in {P : List (List UInt8)} {k : Nat} (h : k < P.length) : P.getD k [] ∈ P := by
  rw [List.getD_eq_getElem?_getD, List.getElem?_eq_getElem h]
  exact List.getElem_mem h
/-- what reading a text gives -/
def RMp (l : List UInt8) (m : Mx) (ok : Bool) : Prop := (ok = true ∧ mvB m = true ∧ mt m = l) ∨ (ok = false ∧ m = Mx.z ∧ ∀ m', mvB m' = true → mt m' ≠ l)
theorem fx_not {c : UInt8} (x : Int) (h : c = 32 ∨ c = 59) : c ∉ fx x := by
  have hd : ∀ m : Int, c ∉ dec m := fun m => by
    intro hm
    have := dd_mem _ c hm
    rcases h with rfl | rfl
    · exact absurd this.1 (by decide)
    · exact absurd this.2 (by decide)
  have hf : ∀ r : Fin 16, c ∉ fd r.val := by
    rcases h with rfl | rfl <;> decide
  have hn : ∀ n : Int, c ∉ fxn n := fun n => by
    unfold fxn
    intro hm
    rcases List.mem_append.1 hm with hm | hm
    · exact hd _ hm
    · split at hm
      · cases hm
      · rcases List.mem_cons.1 hm with hm | hm
        · rcases h with rfl | rfl <;> exact absurd hm (by decide)
        · exact hf ⟨(n % 16).toNat, by omega⟩ hm
  unfold fx fxs
  split
  · intro hm
    rcases List.mem_cons.1 hm with hm | hm
    · rcases h with rfl | rfl <;> exact absurd hm (by decide)
    · exact hn _ hm
  · exact hn _
theorem mem_join {c : UInt8} {sep : List UInt8} (hs : c ∉ sep) : ∀ {ls : List (List UInt8)}, (∀ x ∈ ls, c ∉ x) → c ∉ Lib.join ls sep := by
  intro ls
  induction ls with
  | nil => intro _; simp [Lib.join, List.intercalate]
  | cons x ls ih =>
    intro h
    by_cases hl : ls = []
    · subst hl; rw [Lib.join_one]; exact h x (List.mem_cons_self ..)
    · rw [join_cons2 x hl]
      intro hm
      rcases List.mem_append.1 hm with hm | hm
      · rcases List.mem_append.1 hm with hm | hm
        · exact h x (List.mem_cons_self ..) hm
        · exact hs hm
      · exact ih (fun y hy => h y (List.mem_cons_of_mem _ hy)) hm
theorem rt_not (v : List Int) (C k : Nat) : (59 : UInt8) ∉ rt v C k := by
  unfold rt
  refine mem_join (by decide) fun x hx => ?_
  obtain ⟨y, _, rfl⟩ := List.mem_map.1 hx
  exact fx_not y (.inr rfl)
theorem row_len (v : List Int) (C k : Nat) (h : k * C + C ≤ v.length) : ((v.drop (k * C)).take C).length = C := by rw [List.length_take, List.length_drop]; omega
/-- the words of a row -/
theorem sp_rt {v : List Int} {C k : Nat} (hC : 1 ≤ C) (h : k * C + C ≤ v.length) : Lib.split (rt v C k) [32] = ((v.drop (k * C)).take C).map fx := by
  unfold rt
  refine sp_join (fun e => ?_) fun x hx => ?_
  · have := congrArg List.length e
    rw [List.length_map, row_len v C k h, List.length_nil] at this
    omega
  · obtain ⟨y, _, rfl⟩ := List.mem_map.1 hx
    exact fx_not y (.inl rfl)
theorem sp_mtx {v : List Int} {R C : Nat} (hR : 1 ≤ R) : Lib.split (mtx v R C) [59, 32] = (List.range R).map (rt v C) := by
  unfold mtx
  refine sp_join (fun e => ?_) fun x hx => ?_
  · have := congrArg List.length e
    simp at this
    omega
  · obtain ⟨y, _, rfl⟩ := List.mem_map.1 hx
    exact rt_not v C y
/-- what a good text is like -/
theorem good_of {l : List UInt8} {m : Mx} (h : mvB m = true) (hl : mt m = l) : ∃ R C : Nat, 1 ≤ R ∧ R ≤ 5 ∧ 1 ≤ C ∧ C ≤ 5 ∧ (Lib.split l [59, 32]).length = R ∧ ∀ k, k < R → (Lib.split ((Lib.split l [59, 32]).getD k []) [32]).length = C ∧ ∀ w ∈ Lib.split ((Lib.split l [59, 32]).getD k []) [32], ∃ x, (0 ≤ x ∧ x ≤ 4095) ∧ fx x = w := by
  obtain ⟨R, C, hr, hc, R1, R5, C1, C5, hlen, _, hall⟩ := mv_facts h
  have e : Lib.split l [59, 32] = (List.range R).map (rt m.v C) := by rw [← hl, mt_ok h hr hc, sp_mtx R1]
  refine ⟨R, C, R1, R5, C1, C5, by rw [e]; simp, fun k hk => ?_⟩
  have hk2 : k * C + C ≤ m.v.length := by rw [hlen]; have := Nat.mul_le_mul_right C (show k + 1 ≤ R by omega); rw [Nat.succ_mul] at this; exact this
  have e2 : (Lib.split l [59, 32]).getD k [] = rt m.v C k := by rw [e]; simp [List.getD_eq_getElem?_getD, hk]
  rw [e2, sp_rt C1 hk2]
  refine ⟨by rw [List.length_map, row_len _ _ _ hk2], fun w hw => ?_⟩
  obtain ⟨x, hx, rfl⟩ := List.mem_map.1 hw
  rw [List.all_eq_true] at hall
  exact ⟨x, rv_of (hall x (List.mem_of_mem_drop (List.mem_of_mem_take hx))), rfl⟩
/-- k rows read -/
def Rok (P : List (List UInt8)) (C k : Nat) (vs : List Int) : Prop :=
  vs.length = k * C ∧ vs.all rv = true ∧ (0 < k → 1 ≤ C ∧ C ≤ 5 ∧ (Lib.split (P.getD 0 []) [32]).length = C) ∧ ∀ i, i < k → P.getD i [] = rt vs C i
theorem Rok.start (P : List (List UInt8)) (C : Nat) : Rok P C 0 [] := ⟨by simp, rfl, fun h => absurd h (by omega), fun i h => absurd h (by omega)⟩
theorem RMp.no {l : List UInt8} (h : ∀ m', mvB m' = true → mt m' ≠ l) : RMp l Mx.z false := .inr ⟨rfl, rfl, h⟩
theorem bad_rows {l : List UInt8} (h : 5 < (Lib.split l [59, 32]).length) : RMp l Mx.z false := RMp.no fun m hm e => by
  obtain ⟨R, C, _, _, _, _, h1, _⟩ := good_of hm e
  omega
theorem bad_wide {l : List UInt8} {k : Nat} (hk : k < (Lib.split l [59, 32]).length) (h : 5 < (Lib.split ((Lib.split l [59, 32]).getD k []) [32]).length) : RMp l Mx.z false := RMp.no fun m hm e => by
  obtain ⟨R, C, _, _, _, _, h1, h2⟩ := good_of hm e
  have := (h2 k (by omega)).1
  omega
theorem bad_cols {l : List UInt8} {k C : Nat} {vs : List Int} (hk : k < (Lib.split l [59, 32]).length) (h0 : 0 < k) (hr : Rok (Lib.split l [59, 32]) C k vs) (h : (Lib.split ((Lib.split l [59, 32]).getD k []) [32]).length ≠ C) : RMp l Mx.z false := RMp.no fun m hm e => by
  obtain ⟨R, C', _, _, _, _, h1, h2⟩ := good_of hm e
  have h3 := (h2 k (by omega)).1
  have h4 := (h2 0 (by omega)).1
  have h5 := (hr.2.2.1 h0).2.2
  omega
theorem bad_word {l w : List UInt8} {k : Nat} {v : Int} (hk : k < (Lib.split l [59, 32]).length) (hw : w ∈ Lib.split ((Lib.split l [59, 32]).getD k []) [32]) (h : RF w v false) : RMp l Mx.z false := RMp.no fun m hm e => by
  obtain ⟨R, C, _, _, _, _, h1, h2⟩ := good_of hm e
  obtain ⟨x, hx, hxw⟩ := (h2 k (by omega)).2 w hw
  rcases h with ⟨h, _⟩ | ⟨_, _, h⟩
  · cases h
  · exact h x hx.1 hx.2 hxw
theorem RF.num {w : List UInt8} {v : Int} (h : RF w v true) : (0 ≤ v ∧ v ≤ 4095) ∧ fx v = w := by
  rcases h with ⟨_, h1, h2⟩ | ⟨h, _⟩
  · exact ⟨h1, h2⟩
  · cases h
/-- j words of row k read -/
def Rjk (W : List (List UInt8)) (j : Nat) (ys : List Int) : Prop := ys.length = j ∧ ys.all rv = true ∧ ys.map fx = W.take j
theorem Rjk.start (W : List (List UInt8)) : Rjk W 0 [] := ⟨rfl, rfl, rfl⟩
theorem Rjk.step {W : List (List UInt8)} {j : Nat} {ys : List Int} {x : Int} (h : Rjk W j ys) (hj : j < W.length) (hx : 0 ≤ x ∧ x ≤ 4095) (e : fx x = W.getD j []) : Rjk W (j + 1) (ys ++ [x]) := by
  obtain ⟨h1, h2, h3⟩ := h
  refine ⟨by simp [h1], by rw [List.all_append, h2, List.all_cons, rv_true hx]; rfl, ?_⟩
  rw [List.map_append, h3, List.take_succ_eq_append_getElem hj, List.map_cons, List.map_nil, e, List.getD_eq_getElem?_getD, List.getElem?_eq_getElem hj]
  rfl
theorem rt_app_old {vs ys : List Int} {C i : Nat} (h : i * C + C ≤ vs.length) : rt (vs ++ ys) C i = rt vs C i := by
  unfold rt
  congr 2
  rw [List.drop_append_of_le_length (by omega), List.take_append_of_le_length (by rw [List.length_drop]; omega)]
theorem Rok.next {P : List (List UInt8)} {C k : Nat} {vs ys : List Int} (h : Rok P C k vs) (hk : k < P.length) (hy : Rjk (Lib.split (P.getD k []) [32]) C ys) (hC : (Lib.split (P.getD k []) [32]).length = C) (C5 : C ≤ 5) : Rok P C (k + 1) (vs ++ ys) := by
  obtain ⟨h1, h2, h3, h4⟩ := h
  obtain ⟨y1, y2, y3⟩ := hy
  have hW : ys.map fx = Lib.split (P.getD k []) [32] := by rw [y3, List.take_of_length_le (by omega)]
  have hC1 : 1 ≤ C := by rw [← hC]; have := sp_ne (P.getD k []) [32]; cases hs : Lib.split (P.getD k []) [32] with | nil => exact absurd hs this | cons => simp
  refine ⟨by rw [List.length_append, h1, y1, Nat.succ_mul], by rw [List.all_append, h2, y2]; rfl, fun _ => ⟨hC1, C5, ?_⟩, fun i hi => ?_⟩
  · rcases Nat.eq_zero_or_pos k with h0 | h0
    · subst h0; exact hC
    · exact (h3 h0).2.2
  · by_cases hik : i < k
    · have : i * C + C ≤ vs.length := by rw [h1]; have := Nat.mul_le_mul_right C (show i + 1 ≤ k by omega); rw [Nat.succ_mul] at this; exact this
      rw [rt_app_old this]
      exact h4 i hik
    · obtain rfl : i = k := by omega
      have e1 : ((vs ++ ys).drop (i * C)).take C = ys := by rw [← h1, List.drop_left, List.take_of_length_le (by omega)]
      unfold rt
      rw [e1, hW]
      exact (join_sp [32] (by simp) _ _ (Nat.lt_succ_self _)).symm
theorem good_fin {l : List UInt8} {C : Nat} {vs : List Int} (h : Rok (Lib.split l [59, 32]) C (Lib.split l [59, 32]).length vs) (h5 : (Lib.split l [59, 32]).length ≤ 5) : RMp l ⟨((Lib.split l [59, 32]).length : Int), (C : Int), vs⟩ true := by
  obtain ⟨p, hp⟩ : ∃ p, p = (Lib.split l [59, 32]).length := ⟨_, rfl⟩
  rw [← hp] at h h5 ⊢
  have hp1 : 1 ≤ p := by rw [hp]; have := sp_ne l [59, 32]; cases hs : Lib.split l [59, 32] with | nil => exact absurd hs this | cons => simp
  obtain ⟨h1, h2, h3, h4⟩ := h
  obtain ⟨C1, C5, _⟩ := h3 (by omega)
  have hv : mvB ⟨(p : Int), (C : Int), vs⟩ = true := by
    have a : side (p : Int) = true := decide_eq_true (by omega)
    have b : side (C : Int) = true := decide_eq_true (by omega)
    simp [mvB, a, b, h1, h2]
  refine .inl ⟨rfl, hv, ?_⟩
  rw [mt_ok hv rfl rfl]
  have e : Lib.split l [59, 32] = (List.range p).map (rt vs C) := by
    apply List.ext_getElem
    · simp [hp]
    · intro i a b
      have := h4 i (by omega)
      rw [List.getD_eq_getElem?_getD, List.getElem?_eq_getElem a] at this
      simpa using this
  unfold mtx
  rw [← e]
  exact join_sp [59, 32] (by simp) _ _ (Nat.lt_succ_self _)
/-- reading gives one thing -/
theorem RMp.one {l : List UInt8} {m1 m2 : Mx} {a b : Bool} (h1 : RMp l m1 a) (h2 : RMp l m2 b) : m1 = m2 ∧ a = b := by
  rcases h1 with ⟨rfl, v1, e1⟩ | ⟨rfl, rfl, n1⟩
  · rcases h2 with ⟨rfl, v2, e2⟩ | ⟨rfl, rfl, n2⟩
    · refine ⟨?_, rfl⟩
      obtain ⟨R1, C1, r1, c1, a1, _, b1, _, l1, _, q1⟩ := mv_facts v1
      obtain ⟨R2, C2, r2, c2, a2, _, b2, _, l2, _, q2⟩ := mv_facts v2
      have s1 : Lib.split l [59, 32] = (List.range R1).map (rt m1.v C1) := by rw [← e1, mt_ok v1 r1 c1, sp_mtx a1]
      have s2 : Lib.split l [59, 32] = (List.range R2).map (rt m2.v C2) := by rw [← e2, mt_ok v2 r2 c2, sp_mtx a2]
      have hR : R1 = R2 := by have h := congrArg List.length (s1.symm.trans s2); simpa using h
      subst hR
      have hrow (k : Nat) (hk : k < R1) : rt m1.v C1 k = rt m2.v C2 k := by
        have h := congrArg (fun x => x[k]?) (s1.symm.trans s2)
        simpa [hk] using h
      have hm (C k : Nat) (hk : k < R1) : k * C + C ≤ R1 * C := by have := Nat.mul_le_mul_right C (show k + 1 ≤ R1 by omega); rw [Nat.succ_mul] at this; exact this
      have hw (k : Nat) (hk : k < R1) : ((m1.v.drop (k * C1)).take C1).map fx = ((m2.v.drop (k * C2)).take C2).map fx := by
        rw [← sp_rt b1 (by rw [l1]; exact hm C1 k hk), ← sp_rt b2 (by rw [l2]; exact hm C2 k hk), hrow k hk]
      have hC : C1 = C2 := by
        have h := congrArg List.length (hw 0 (by omega))
        rw [List.length_map, List.length_map, row_len _ _ _ (by rw [l1]; exact hm C1 0 (by omega)), row_len _ _ _ (by rw [l2]; exact hm C2 0 (by omega))] at h
        exact h
      subst hC
      have hv : m1.v = m2.v := by
        apply List.ext_getElem (by rw [l1, l2])
        intro i hi1 hi2
        have hk : i / C1 < R1 := by rw [Nat.div_lt_iff_lt_mul (by omega)]; rw [l1] at hi1; exact hi1
        have hj : i % C1 < C1 := Nat.mod_lt _ (by omega)
        have hij : i / C1 * C1 + i % C1 = i := by rw [Nat.mul_comm]; exact Nat.div_add_mod i C1
        have h := congrArg (fun x => x[i % C1]?) (hw (i / C1) hk)
        simp only [List.getElem?_map, List.getElem?_take_of_lt hj, List.getElem?_drop, hij, List.getElem?_eq_getElem hi1, List.getElem?_eq_getElem hi2, Option.map_some, Option.some.injEq] at h
        rw [List.all_eq_true] at q1 q2
        exact fx_inj (rv_of (q1 _ (List.getElem_mem hi1))) (rv_of (q2 _ (List.getElem_mem hi2))) h
      obtain ⟨x, y, z⟩ := m1
      obtain ⟨x2, y2, z2⟩ := m2
      dsimp only at r1 c1 r2 c2 hv
      rw [r1, c1, r2, c2, hv]
    · exact absurd e1 (n2 _ v1)
  · rcases h2 with ⟨rfl, v2, e2⟩ | ⟨rfl, rfl, n2⟩
    · exact absurd e2 (n1 _ v2)
    · exact ⟨rfl, rfl⟩
end Go.Proofs.YtcmgnnfkgkibgaaDoor

/-
  PLAIN LAWS of messages one behind the other; an append of a row, or of nil.
-/
import Derived.Test.YtoeffaalihndoaaOmPlain
import Derived.Test.YtoeffaalihndoaaDrawMsgs
import Derived.Laws.AppendOwnNone
import Derived.BigFrame
namespace Go.Proofs.Ytoeffaalihndoaa
open Go.RowKit Go.BigFrame
set_option linter.unusedVariables false
set_option linter.unusedSimpArgs false

theorem getD_app_l (xs ys : List Int) (i : Nat) (h : i < xs.length) : (xs ++ ys).getD i 0 = xs.getD i 0 := by
  rw [List.getD_eq_getElem?_getD, List.getD_eq_getElem?_getD, List.getElem?_append_left h]
theorem getD_app_r (xs ys : List Int) (i : Nat) : (xs ++ ys).getD (xs.length + i) 0 = ys.getD i 0 := by
  rw [List.getD_eq_getElem?_getD, List.getD_eq_getElem?_getD, List.getElem?_append_right (by omega), Nat.add_sub_cancel_left]
section
variable {n m : Nat} {xs ys : List Int}
theorem join_l (hx : xs.length = n * 3) (k : Nat) (h : k < n) : mR (xs ++ ys) k = mR xs k ∧ mF (xs ++ ys) k = mF xs k ∧ mV (xs ++ ys) k = mV xs k :=
  ⟨getD_app_l _ _ _ (by omega), getD_app_l _ _ _ (by omega), getD_app_l _ _ _ (by omega)⟩
theorem join_r (hx : xs.length = n * 3) (k : Nat) : mR (xs ++ ys) (n + k) = mR ys k ∧ mF (xs ++ ys) (n + k) = mF ys k ∧ mV (xs ++ ys) (n + k) = mV ys k := by
  unfold mR mF mV
  have e0 : (n + k) * 3 = xs.length + k * 3 := by omega
  have e1 : (n + k) * 3 + 1 = xs.length + (k * 3 + 1) := by omega
  have e2 : (n + k) * 3 + 2 = xs.length + (k * 3 + 2) := by omega
  rw [e2, e1, e0, getD_app_r, getD_app_r, getD_app_r]
  exact ⟨rfl, rfl, rfl⟩
theorem join_MV (hx : xs.length = n * 3) (h1 : MV n xs) (h2 : MV m ys) (hn : n + m ≤ 2000) (r1 : ∀ k, k < n → mR xs k ≤ 3) (r2 : ∀ k, k < m → 3 ≤ mR ys k) : MV (n + m) (xs ++ ys) := by
  have e1 := h1.1.2
  have e2 := h2.1.2
  refine ⟨⟨hn, by omega⟩, fun k hk => ?_⟩
  rcases Nat.lt_or_ge k n with h | h
  · have ok := h1.2 k h
    obtain ⟨a, b, c⟩ := join_l (ys := ys) hx k h
    have hp : prevR (xs ++ ys) k = prevR xs k := by
      cases k with
      | zero => rfl
      | succ j => exact (join_l (ys := ys) hx j (by omega)).1
    unfold mOk
    rw [a, b, c, hp]
    exact ok
  · obtain ⟨j, rfl⟩ : ∃ j, k = n + j := ⟨k - n, by omega⟩
    have ok := h2.2 j (by omega)
    obtain ⟨a, b, c⟩ := join_r (ys := ys) hx j
    have hmod : (n + j) % 2 = j % 2 := by omega
    unfold mOk at ok ⊢
    rw [a, b, c, hmod]
    obtain ⟨o1, o2, o3, o4, o5⟩ := ok
    cases j with
    | zero =>
      refine ⟨o1, ?_, o3, o4, fun h => by omega⟩
      cases n with
      | zero => exact o1.1
      | succ i =>
        have hp : prevR (xs ++ ys) (i + 1 + 0) = mR xs i := (join_l (ys := ys) hx i (by omega)).1
        rw [hp]
        have q1 := r1 i (by omega)
        have q2 := r2 0 (by omega)
        omega
    | succ i =>
      have hp : prevR (xs ++ ys) (n + (i + 1)) = prevR ys (i + 1) := (join_r (ys := ys) hx i).1
      rw [hp]
      exact ⟨o1, o2, o3, o4, o5⟩
theorem join_opn (hx : xs.length = n * 3) (he : n % 2 = 0) (hm : m % 2 = 0) : fl (opn (xs ++ ys)) ((n + m) / 2) = fl (opn xs) (n / 2) ++ fl (opn ys) (m / 2) := by
  have hd : (n + m) / 2 = n / 2 + m / 2 := by omega
  unfold fl
  rw [hd, List.range_add, List.map_append, List.map_map]
  congr 1
  · apply List.map_congr_left
    intro j hj
    have hj := List.mem_range.1 hj
    unfold opn
    rw [(join_l (ys := ys) hx (2 * j) (by omega)).2.2, (join_l (ys := ys) hx (2 * j + 1) (by omega)).2.2]
  · apply List.map_congr_left
    intro j hj
    show opn (xs ++ ys) (n / 2 + j) = opn ys j
    unfold opn
    have e0 : 2 * (n / 2 + j) = n + 2 * j := by omega
    have e1 : 2 * (n / 2 + j) + 1 = n + (2 * j + 1) := by omega
    rw [e1, e0, (join_r (ys := ys) hx (2 * j)).2.2, (join_r (ys := ys) hx (2 * j + 1)).2.2]
end
/-- 'append(v, b...)' where both are the call's own rows, b perhaps nil -/
theorem wpList_append_row {P : Program} {w : World} {ops : Array Oper} {rest : List Oper} {o : Oper} {a : Act} {Q : Exit → Act → World → Prop} (hgd : o.guard = none) (s x : Operand) (t : TypeId)
    (ho : o.op = .call { callee := .builtin .append, args := #[s, x], argTypes := #[t, t] })
    (base base' : Nat) (e : TypeId) (i : TypeInfo) (z : Value) (size bytes : Nat) (ht : P.underlying t = some (.slice e)) (hi : P.info? e = some i) (hz : i.zero = some z)
    (hsize : i.size = size) (hby : i.bytes = bytes) (hzs : z.cells.size = size) (hsz : 0 < size)
    (A : Addr) (k c n : Nat) (xs : List Value) (hs : a.eval s = .slice (some A) k c) (hown : w.ownsRow base e size (.slice (some A) k c) n xs)
    (B : Option Addr) (m d : Nat) (news : List Value) (hx : a.eval x = .slice B m d) (hrow : w.ownsRow base' e size (.slice B m d) m news) (h1 : ∀ u ∈ news, u.oneCell' = true)
    (h63 : n + m ≤ maxLen) (hbytes : (n + m) * bytes ≤ 140737488355328) (hbase : base ≤ w.heap.size)
    (h : ∀ v' w', w'.ownsRow base e size v' (n + m) (xs ++ news) → w.grownBy w' (Value.slice (some A) k c).ownBlock → ¬ v' = .slice none 0 0 → wpList P ops Q rest (a.put o.dst v') w') : wpList P ops Q (o :: rest) a w := by
  have hnews := hrow
  rcases hrow.2 with ⟨e1, e2⟩ | ⟨g, cp, cur, e1, _⟩
  · have hm : m = 0 := e2
    have hlen : news = [] := List.eq_nil_of_length_eq_zero (by rw [hrow.1, hm]; simp)
    subst hm hlen
    refine wpList_append_own_none hgd s x t ho base e i size ht hi (.slice (some A) k c) n xs hs hown (hx.trans e1) ?_
    refine h _ w ?_ (World.grownBy.refl w _) (fun hh => by cases hh)
    rw [List.append_nil]
    exact hown
  · injection e1 with e1 e2 e3
    subst e1
    refine wpList_append_own w hgd s x t ho base e i z size bytes ht hi hz hsize hby hzs hsz (.slice (some A) k c) n xs hs hown ⟨g, 0, none⟩ m d news hx hrow.1 (World.ownsRow.cells hrow rfl) h1 h63 hbytes hbase ?_
    intro v' w' ho' hg hn
    exact h v' w' ho' hg (fun hh => by have := (hn.1 hh).1; cases this)
/-- the same behind a guard that says yes -/
theorem wpList_append_row_g {P : Program} {w : World} {ops : Array Oper} {rest : List Oper} {o : Oper} {a : Act} {Q : Exit → Act → World → Prop} (hw : Region.wanted o (yielded ops a.tmps) = true) (s x : Operand) (t : TypeId)
    (ho : o.op = .call { callee := .builtin .append, args := #[s, x], argTypes := #[t, t] })
    (base base' : Nat) (e : TypeId) (i : TypeInfo) (z : Value) (size bytes : Nat) (ht : P.underlying t = some (.slice e)) (hi : P.info? e = some i) (hz : i.zero = some z)
    (hsize : i.size = size) (hby : i.bytes = bytes) (hzs : z.cells.size = size) (hsz : 0 < size)
    (A : Addr) (k c n : Nat) (xs : List Value) (hs : a.eval s = .slice (some A) k c) (hown : w.ownsRow base e size (.slice (some A) k c) n xs)
    (B : Option Addr) (m d : Nat) (news : List Value) (hx : a.eval x = .slice B m d) (hrow : w.ownsRow base' e size (.slice B m d) m news) (h1 : ∀ u ∈ news, u.oneCell' = true)
    (h63 : n + m ≤ maxLen) (hbytes : (n + m) * bytes ≤ 140737488355328) (hbase : base ≤ w.heap.size)
    (h : ∀ v' w', w'.ownsRow base e size v' (n + m) (xs ++ news) → w.grownBy w' (Value.slice (some A) k c).ownBlock → ¬ v' = .slice none 0 0 → wpList P ops Q rest (a.put o.dst v') w') : wpList P ops Q (o :: rest) a w := by
  have hnews := hrow
  rcases hrow.2 with ⟨e1, e2⟩ | ⟨g, cp, cur, e1, _⟩
  · have hm : m = 0 := e2
    have hlen : news = [] := List.eq_nil_of_length_eq_zero (by rw [hrow.1, hm]; simp)
    subst hm hlen
    refine wpList_want hw fun K hK => ?_
    have hrun := run_append_owned_none (P := P) (w := w) base t o.type e i size ht hi (.slice (some A) k c) n xs hown
    have hx2 := hx.trans e1
    unfold Oper.wp
    simp [execOp, ho, resolve, invoke, builtin, hs, hx2, hrun, Result.andThen]
    refine hK _ _ (h _ w ?_ (World.grownBy.refl w _) (fun hh => by cases hh))
    rw [List.append_nil]
    exact hown
  · injection e1 with e1 e2 e3
    subst e1
    refine wpList_want hw fun K hK => wp_append_own w s x t ho base e i z size bytes ht hi hz hsize hby hzs hsz (.slice (some A) k c) n xs hs hown ⟨g, 0, none⟩ m d news hx hrow.1 (World.ownsRow.cells hrow rfl) h1 h63 hbytes hbase ?_
    intro v' w' ho' hg hn
    exact hK _ _ (h v' w' ho' hg (fun hh => by have := (hn.1 hh).1; cases this))
/-- what OpenMessages of both hand back, for a valid round -/
theorem open_both (q : Int) (ps : List (Int × Int)) (n : Nat) (hq : 0 ≤ q ∧ q ≤ 1000) (hn : ps.length = n) (h6 : n ≤ 6) : ∃ (k : Nat) (zs : List Int), k ≤ 12 ∧ zs.length = k * 3 ∧ MV k zs ∧ (∀ i, i < k → mR zs i = q) ∧
    (∀ (A : Option Addr) (c : Nat) (u : World), EI 2 u A n (flat ps) → Calls Try.prog 51 #[.int .i64 q, .slice A n c] u fun e w' => ∃ (B : Option Addr) (d : Nat), e = .returned (.slice B k d) ∧ EO 75 3 w' u.heap.size B k d zs ∧ Below u.heap.size u w') ∧
    ∀ (A : Option Addr) (c : Nat) (u : World), EI 2 u A n (flat ps) → Calls Try.prog 53 #[.int .i64 q, .slice A n c] u fun e w' => ∃ (B : Option Addr) (d : Nat), e = .returned (.slice B k d) ∧ EI 3 w' B k zs ∧ Below u.heap.size u w' := by
  cases hs : shv ps
  · refine ⟨0, [], by omega, rfl, ⟨⟨by omega, rfl⟩, fun k hk => absurd hk (by omega)⟩, fun i hi => absurd hi (by omega), fun A c u hu => ?_, fun A c u hu => ?_⟩
    · refine (i_OpenMessages_r q A n c ps u hq hn (by omega) hu).mono fun e w' h => ?_
      obtain ⟨h1, h2⟩ := h.2 hs
      exact ⟨none, 0, h1, EO.nil _ _, h2⟩
    · refine (s_OpenMessages_v q A n c ps u hq hn (by omega) hu hs).mono fun e w' h => ?_
      obtain ⟨B, d, h1, h2⟩ := h
      exact ⟨B, d, h1, SI.nil _ _, h2⟩
  · refine ⟨2 * n, oms q ps, by omega, by rw [oms_len, hn]; omega, oms_MV q ps n hq hs hn (by omega), fun i hi => oms_R q ps i (by omega), fun A c u hu => ?_, fun A c u hu => ?_⟩
    · refine (i_OpenMessages_r q A n c ps u hq hn (by omega) hu).mono fun e w' h => ?_
      obtain ⟨B, d, h1, h2, h3⟩ := h.1 hs
      exact ⟨some B, d, h1, h2, h3⟩
    · refine (s_OpenMessages_t q A n c ps u hq hn (by omega) hu hs).mono fun e w' h => ?_
      obtain ⟨B, d, h1, h2, h3⟩ := h
      exact ⟨some B, d, h1, h2.si, h3⟩
end Go.Proofs.Ytoeffaalihndoaa

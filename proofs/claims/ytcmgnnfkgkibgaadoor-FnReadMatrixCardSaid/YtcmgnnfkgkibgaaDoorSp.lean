/-
  strings.Split at this program: the pieces, joined again; the pieces of a joined text.
-/
import Derived.Test.YtcmgnnfkgkibgaaDoorRf
import Derived.Test.YtcmgnnfkgkibgaaDoorMtP
import Derived.Lib.Split
namespace Go.Proofs.YtcmgnnfkgkibgaaDoor
open Go.RowKit
set_option linter.unusedVariables false
set_option linter.unusedSimpArgs false

theorem sp_miss {l sep : List UInt8} (h : Lib.index l sep = -1) : Lib.split l sep = [l] := by
  unfold Lib.split
  rw [Lib.count_miss h]
  rfl
theorem sp_hit {l sep : List UInt8} {i : Nat} (hs : sep ≠ []) (h : Lib.index l sep = i) : Lib.split l sep = l.take i :: Lib.split (l.drop (i + sep.length)) sep := by
  unfold Lib.split
  rw [Lib.count_hit hs h, Nat.add_comm, Lib.splitK, if_neg (by rw [h]; simp), h]
  simp
theorem sp_length (sep : List UInt8) (hs : sep ≠ []) : ∀ (n : Nat) (l : List UInt8), l.length < n → (Lib.split l sep).length = Lib.count l sep + 1 := by
  intro n
  induction n with
  | zero => intro l h; omega
  | succ n ih =>
    intro l h
    rcases Lib.index_spec l sep with ⟨h1, _⟩ | ⟨i, h1, h2, h3, _⟩
    · rw [sp_miss h1, Lib.count_miss h1]; rfl
    · have hd := Lib.drop_shorter hs (s := l) (by rw [h1]; simp)
      rw [h1] at hd
      simp only [Int.toNat_natCast] at hd
      rw [sp_hit hs h1, Lib.count_hit hs h1, List.length_cons, ih _ (by omega)]
      omega
theorem sp_ne (l sep : List UInt8) : Lib.split l sep ≠ [] := by
  unfold Lib.split
  cases Lib.count l sep with
  | zero => simp [Lib.splitK]
  | succ k => unfold Lib.splitK; split <;> simp
theorem join_cons2 (x : List UInt8) {r : List (List UInt8)} (hr : r ≠ []) (sep : List UInt8) : Lib.join (x :: r) sep = x ++ sep ++ Lib.join r sep := by
  cases r with
  | nil => exact absurd rfl hr
  | cons y r => simp [Lib.join_cons, Lib.joinTail, List.append_assoc]
theorem occ_eq {l sep : List UInt8} {i : Nat} (h : Lib.occAt l sep i = true) : l = l.take i ++ sep ++ l.drop (i + sep.length) := by
  have h1 : sep <+: l.drop i := List.isPrefixOf_iff_prefix.1 h
  obtain ⟨r, hr⟩ := h1
  have h2 : l.drop (i + sep.length) = r := by
    rw [← List.drop_drop, ← hr, List.drop_left]
  rw [h2, List.append_assoc, hr, List.take_append_drop]
/-- the pieces, joined again -/
theorem join_sp (sep : List UInt8) (hs : sep ≠ []) : ∀ (n : Nat) (l : List UInt8), l.length < n → Lib.join (Lib.split l sep) sep = l := by
  intro n
  induction n with
  | zero => intro l h; omega
  | succ n ih =>
    intro l h
    rcases Lib.index_spec l sep with ⟨h1, _⟩ | ⟨i, h1, h2, h3, _⟩
    · rw [sp_miss h1, Lib.join_one]
    · have hd := Lib.drop_shorter hs (s := l) (by rw [h1]; simp)
      rw [h1] at hd
      simp only [Int.toNat_natCast] at hd
      rw [sp_hit hs h1, join_cons2 _ (sp_ne _ _), ih _ (by omega)]
      exact (occ_eq h3).symm
theorem index_none' {a sr : List UInt8} {c : UInt8} (h : c ∉ a) : Lib.index a (c :: sr) = -1 := by
  induction a with
  | nil => rfl
  | cons b a ih =>
    have hb : b ≠ c := fun e => h (by rw [e]; exact List.mem_cons_self ..)
    have hp : List.isPrefixOf (c :: sr) (b :: a) = false := by simp [List.isPrefixOf, Ne.symm hb]
    unfold Lib.index
    rw [hp, ih (fun e => h (List.mem_cons_of_mem _ e))]
    rfl
theorem index_at' {a b sr : List UInt8} {c : UInt8} (h : c ∉ a) : Lib.index (a ++ ((c :: sr) ++ b)) (c :: sr) = (a.length : Int) := by
  induction a with
  | nil =>
    have hp : List.isPrefixOf (c :: sr) (c :: (sr ++ b)) = true := List.isPrefixOf_iff_prefix.2 ⟨b, rfl⟩
    simp only [List.nil_append, List.cons_append]
    unfold Lib.index
    rw [hp]
    rfl
  | cons d a ih =>
    have hb : d ≠ c := fun e => h (by rw [e]; exact List.mem_cons_self ..)
    have hp : List.isPrefixOf (c :: sr) (d :: (a ++ ((c :: sr) ++ b))) = false := by simp [List.isPrefixOf, Ne.symm hb]
    rw [List.cons_append]
    unfold Lib.index
    rw [hp, ih (fun e => h (List.mem_cons_of_mem _ e))]
    have : (((a.length : Int)) == -1) = false := by rw [beq_eq_false_iff_ne]; omega
    simp [this]
/-- the pieces of a joined text -/
theorem sp_join {c : UInt8} {sr : List UInt8} : ∀ {ls : List (List UInt8)}, ls ≠ [] → (∀ x ∈ ls, c ∉ x) → Lib.split (Lib.join ls (c :: sr)) (c :: sr) = ls := by
  intro ls
  induction ls with
  | nil => intro h; exact absurd rfl h
  | cons x ls ih =>
    intro _ hm
    have hx := hm x (List.mem_cons_self ..)
    by_cases hl : ls = []
    · subst hl
      rw [Lib.join_one, sp_miss (index_none' hx)]
    · rw [join_cons2 x hl, List.append_assoc, sp_hit (by simp) (index_at' hx)]
      have e1 : (x ++ (c :: sr ++ Lib.join ls (c :: sr))).take x.length = x := List.take_left
      have e2 : (x ++ (c :: sr ++ Lib.join ls (c :: sr))).drop (x.length + (c :: sr).length) = Lib.join ls (c :: sr) := by
        rw [← List.drop_drop, List.drop_left, List.drop_left]
      rw [e1, e2, ih hl (fun y hy => hm y (List.mem_cons_of_mem _ hy))]
theorem sp_piece_len {l sep x : List UInt8} (hs : sep ≠ []) (h : x ∈ Lib.split l sep) : x.length ≤ l.length := by
  have key : ∀ (n : Nat) (l : List UInt8), l.length < n → ∀ x ∈ Lib.split l sep, x.length ≤ l.length := by
    intro n
    induction n with
    | zero => intro l h; omega
    | succ n ih =>
      intro l h x hx
      rcases Lib.index_spec l sep with ⟨h1, _⟩ | ⟨i, h1, h2, h3, _⟩
      · rw [sp_miss h1] at hx
        have : x = l := by simpa using hx
        rw [this]
        exact Nat.le_refl _
      · have hd := Lib.drop_shorter hs (s := l) (by rw [h1]; simp)
        rw [h1] at hd
        simp only [Int.toNat_natCast] at hd
        rw [sp_hit hs h1] at hx
        rcases List.mem_cons.1 hx with rfl | hx
        · rw [List.length_take]; omega
        · have := ih _ (by omega) x hx
          omega
  exact key _ l (Nat.lt_succ_self _) x h
/-- the pieces in memory -/
def Spl (l sep : List UInt8) (w : World) (e : Ending) (w' : World) : Prop := e = .returned (.slice (some ⟨w.heap.size, 0, none⟩) (Lib.split l sep).length (Lib.split l sep).length) ∧ VO w' w.heap.size 9 1 (some ⟨w.heap.size, 0, none⟩) (Lib.split l sep).length (Lib.split l sep).length (strs (Lib.split l sep)) ∧ Below w.heap.size w w'
theorem sp_count_le (l sep : List UInt8) : Lib.count l sep ≤ l.length + 1 := Lib.count_le l sep
theorem f_Split (l sep : List UInt8) (hs : sep ≠ []) (hl : l.length ≤ 1048577) (w : World) (hm : MaxL w) : Calls Tryd.prog 44 #[.string (bs l), .string (bs sep)] w (Spl l sep w) := by
  obtain ⟨m, hm⟩ := hm
  refine (Tryd.strings_Split (bs l) (bs sep) m w (by rw [bs_size]; omega) hm (by rw [bs_size]; cases sep; exact absurd rfl hs; simp)).mono ?_
  rintro e w' ⟨rfl, rfl⟩
  have hc : Lib.countB (bs l) (bs sep) + 1 = (Lib.split l sep).length := (sp_length sep hs _ l (Nat.lt_succ_self _)).symm
  have hv : (Lib.splitB (bs sep) 0 (Lib.countB (bs l) (bs sep)) (bs l)).map Value.string = strs (Lib.split l sep) := by
    have h := Lib.splitB_data (bs sep) 0 (Lib.countB (bs l) (bs sep)) (bs l)
    have h2 : Lib.split l sep = (Lib.splitB (bs sep) 0 (Lib.countB (bs l) (bs sep)) (bs l)).map (fun x => x.data.toList) := h.symm
    rw [strs, h2, List.map_map]
    apply List.map_congr_left
    intro x _
    show Value.string x = Value.string (bs x.data.toList)
    rw [bs_list]
  refine ⟨by rw [hc], ?_, (Below.refl _ _).alloc (Nat.le_refl _) _⟩
  rw [hv]
  have hle := Lib.count_le l sep
  have h3 := sp_length sep hs _ l (Nat.lt_succ_self _)
  refine ⟨by simp [strs], .inr ⟨w.heap.size, _, _, rfl, Nat.le_refl _, Blk.new w 9 _, Nat.le_refl _, by unfold maxLen; omega, by simp [strs], ?_⟩⟩
  rw [List.take_of_length_le (by simp [strs])]
end Go.Proofs.YtcmgnnfkgkibgaaDoor

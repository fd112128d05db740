/-
  strconv.Itoa and strings.Join at this program, in the words of these texts; the table that Itoa reads.
-/
import Derived.Test.YtcmgnnfkgkibgaaDoorStr
import Derived.Test.YtcmgnnfkgkibgaaDoorVo
import Derived.Test.YtcmgnnfkgkibgaaDoorShelf
import Derived.WalkSmall
import Derived.Lib.LaidTab
import Derived.Shelf.Vars
namespace Go.Proofs.YtcmgnnfkgkibgaaDoor
open Go.RowKit
set_option linter.unusedVariables false
set_option linter.unusedSimpArgs false

/-- the table of powers lies in old memory -/
def Tab (w : World) : Prop := ∃ g, Tryd.prog.globalNamed "internal/strconv.uint64pow10" = some g ∧ g < w.heap.size ∧ Lib.TabIs Tryd.prog w "internal/strconv.uint64pow10" .u64 Lib.pow10Tab
theorem Tab.below {w w' : World} {B : Nat} (h : Tab w) (hb : Below B w w') (hB : w.heap.size ≤ B) : Tab w' := by
  obtain ⟨g, h1, h2, h3⟩ := h
  exact ⟨g, h1, Nat.lt_of_lt_of_le h2 hb.size, var?_below hb h1 (Nat.lt_of_lt_of_le h2 hB) h3⟩
theorem Tab.of {w : World} {g : Nat} (hg : Tryd.prog.globalNamed "internal/strconv.uint64pow10" = some g) (h : Lib.TabIs Tryd.prog w "internal/strconv.uint64pow10" .u64 Lib.pow10Tab) : Tab w :=
  ⟨g, hg, World.block_lt_of_cell? w _ (h.cell hg 0 (by decide)), h⟩
/-- the length from which the library searches otherwise -/
def MaxL (w : World) : Prop := ∃ m : Int, w.cell? ⟨1, 0, none⟩ = some (.int .i64 m)
theorem MaxL.below {w w' : World} {B : Nat} (h : MaxL w) (hb : Below B w w') (hB : w.heap.size ≤ B) : MaxL w' := by
  obtain ⟨m, hm⟩ := h
  exact ⟨m, (hb.cell (p := ⟨_, 0, none⟩) (Nat.lt_of_lt_of_le (World.block_lt_of_cell? w _ hm) hB)).trans hm⟩
theorem MaxL.of {w : World} (h : w.ShapedOpen Tryd.prog) : MaxL w :=
  Go.Proofs.cell_of_shapedOpen_int h (g := 1) (t := 3) (zero := #[.int .i64 0]) (by decide +kernel) (by kernel_rfl) rfl (by kernel_rfl) (by kernel_rfl) Tryd.underlying3
theorem below_grow' (w : World) (k : Nat) (os : Array Obj) : Below w.heap.size w (Go.Sort.grow (w.drewN k) os) := by
  refine ⟨rfl, rfl, rfl, ?_, fun i hi => ?_⟩
  · show w.heap.size ≤ (w.heap ++ os).size
    simp
  · show (w.heap ++ os)[i]? = w.heap[i]?
    exact Array.getElem?_append_left hi
theorem itoa_nn {n : Int} (h : 0 ≤ n) : Lib.itoa n = Lib.decDigits n.toNat := by unfold Lib.itoa; rw [if_neg (by omega)]
theorem f_Itoa (n : Int) (h0 : 0 ≤ n) (h1 : n ≤ 1000000) (w : World) (ht : Tab w) : Calls Tryd.prog 29 #[.int .i64 n] w fun e w' => e = .returned (.string (bs (Lib.decDigits n.toNat))) ∧ Below w.heap.size w w' := by
  obtain ⟨g, h2, h3, h4⟩ := ht
  refine (Tryd.strconv_Itoa n (by omega) (by omega) w h4).mono ?_
  rintro e w' ⟨rfl, k, os, rfl⟩
  exact ⟨by rw [itoa_nn h0]; rfl, below_grow' w k os⟩
/-- strings as values -/
abbrev strs (l : List (List UInt8)) : List Value := l.map fun x => Value.string (bs x)
theorem f_Join (base : Nat) (A : Option Addr) (n cap : Nat) (xs : List (List UInt8)) (sep : List UInt8) (w : World) (hx : VO w base 9 1 A n cap (strs xs)) (hn : n ≤ 1048576) (hlen : (Lib.join xs sep).length ≤ 140737488355328) :
    Calls Tryd.prog 30 #[.slice A n cap, .string (bs sep)] w fun e w' => e = .returned (.string (bs (Lib.join xs sep))) ∧ Below w.heap.size w w' := by
  have hl := hx.len
  simp only [strs, List.length_map, Nat.mul_one] at hl
  by_cases h0 : n = 0
  · subst h0
    have e0 : xs = [] := List.eq_nil_of_length_eq_zero hl
    subst e0
    refine (Tryd.strings_Join_none A cap (bs sep) w).mono ?_
    rintro e w' ⟨rfl, rfl⟩
    exact ⟨rfl, Below.refl _ _⟩
  · obtain ⟨g, rfl, hg, hlt⟩ := hx.pos (by omega)
    subst hl
    have e1 : (xs.map bs).length = xs.length := List.length_map ..
    have e2 : (xs.map bs).map (fun x => x.data.toList) = xs := by
      rw [List.map_map]
      exact List.map_id'' (fun _ => rfl) _
    have h := Tryd.strings_Join g 0 cap (xs.map bs) (bs sep) w (fun j x hj => by
      have hj' : j < xs.length := by
        rcases Nat.lt_or_ge j xs.length with h | h
        · exact h
        · rw [List.getElem?_eq_none (by simpa using h)] at hj; cases hj
      rw [Nat.zero_add, hx.cell j (by omega)]
      rw [List.getElem?_map] at hj ⊢
      rw [List.getElem?_eq_getElem hj'] at hj ⊢
      injection hj with hj
      rw [← hj]
      rfl) hlt (by rw [e1]; omega) (by rw [e1]; exact hx.cap_le.1) (by rw [e2]; exact hlen)
    rw [e1, e2] at h
    exact h
theorem infoStr : (Tryd.prog.info? 9).map (fun i => (i.zero, i.size, i.bytes)) = some (some (.string ByteArray.empty), 1, 16) := by kernel_rfl
end Go.Proofs.YtcmgnnfkgkibgaaDoor

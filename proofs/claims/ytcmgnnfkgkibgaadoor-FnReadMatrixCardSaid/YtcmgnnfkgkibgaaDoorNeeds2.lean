/-
  NeedsText of the program.
-/
import Derived.Test.YtcmgnnfkgkibgaaDoorNeeds
import Derived.Test.YtcmgnnfkgkibgaaDoorItoa
namespace Go.Proofs.YtcmgnnfkgkibgaaDoor
open Go.RowKit
set_option linter.unusedVariables false
set_option linter.unusedSimpArgs false

theorem jn_len (l : List Int) (h : l.all okN = true) : (jn l).length ≤ l.length * 1000002 := by
  have key : ∀ l : List Int, l.all okN = true → (Lib.joinTail [32] (l.map dec)).length ≤ l.length * 1000002 := by
    intro l
    induction l with
    | nil => intro _; simp [Lib.joinTail]
    | cons a l ih =>
      intro h
      rw [List.all_cons, Bool.and_eq_true] at h
      have h1 := ih h.2
      have h2 := dec_len h.1
      simp only [Lib.joinTail, List.map_cons, List.flatten_cons, List.length_append, List.length_cons, List.length_nil] at h1 ⊢
      omega
  cases l with
  | nil => simp [jn, Lib.join, List.intercalate]
  | cons a l =>
    rw [List.all_cons, Bool.and_eq_true] at h
    have h1 := key l h.2
    have h2 := dec_len h.1
    simp only [jn, List.map_cons, Lib.join_cons, List.length_append, List.length_cons]
    omega
/-- between two rounds -/
def Ni (l : List Int) (w wr : World) (k : Nat) (A : Option Addr) (c : Nat) : Prop :=
  (l.take k).all okN = true ∧ VO wr w.heap.size 9 1 A k c (strs ((l.take k).map dec)) ∧ Below w.heap.size w wr
theorem Ni.push {l : List Int} {w wr wc w1 : World} {k c g cap : Nat} {A : Option Addr} {o : Obj} (h : Ni l w wr k A c) (hk : k < l.length) (hx : okN (l.getD k 0) = true) (hb : Below wr.heap.size wr wc)
    (hown : w1.ownsRow w.heap.size 9 1 (.slice (some ⟨g, 0, none⟩) (k + 1) cap) (k + 1) (strs ((l.take k).map dec) ++ [.string (bs (dec (l.getD k 0)))])) (hg : (wc.alloc o).grownBy w1 (Value.slice A k c).ownBlock)
    (hat : (Value.slice A k c).ownBlock = some g ∨ g = wc.heap.size + 1) : Ni l w w1 (k + 1) (some ⟨g, 0, none⟩) cap ∧ OnlyS A wc w1 := by
  obtain ⟨h1, h2, h3⟩ := h
  obtain ⟨k1, k2, k3, _⟩ := VO.push (h2.below hb) (bstep hb h3.size h3) (Nat.le_refl _) (Nat.le_trans h3.size hb.size) hown hg hat
  have e : l.take (k + 1) = l.take k ++ [l.getD k 0] := take_s l k hk
  refine ⟨⟨by rw [e, List.all_append, h1, List.all_cons, hx]; rfl, ?_, k2⟩, k3⟩
  rw [e, List.map_append, strs, List.map_append]
  exact k1
set_option maxRecDepth 20000 in
set_option maxHeartbeats 1000000 in
theorem i_NeedsText (a b c d : Int) (w : World) (ht : Tab w) : Calls Tryd.prog 11 #[.agg #[.int .i64 a, .int .i64 b, .int .i64 c, .int .i64 d]] w fun e w' => e = .returned (.string (bs (nt [a, b, c, d]))) ∧ Below w.heap.size w w' := by
  obtain ⟨u1, hu1⟩ : ∃ u, u = (w.alloc (.cells #[.int .i64 a, .int .i64 b, .int .i64 c, .int .i64 d] 25)).alloc (.cells #[.int .i64 a, .int .i64 b, .int .i64 c, .int .i64 d] 3) := ⟨_, rfl⟩
  have HB : Hid (Blk u1 (w.heap.size + 1) 3 #[.int .i64 a, .int .i64 b, .int .i64 c, .int .i64 d]) := by
    rw [hu1]
    have h := Blk.new (w.alloc (.cells #[.int .i64 a, .int .i64 b, .int .i64 c, .int .i64 d] 25)) 3 #[.int .i64 a, .int .i64 b, .int .i64 c, .int .i64 d]
    show Blk _ _ _ _
    simpa using h
  have HO : Hid (Below w.heap.size w u1) := by rw [hu1]; exact ((Below.refl _ _).alloc (Nat.le_refl _) _).alloc (by simp) _
  have HT := Lib.hid ht
  clear ht
  obtain ⟨i0', hi, hz0, hz1, hz2⟩ := info_parts infoStr
  go_enter Tryd.func11, Tryd.ntmps11
  go_wp2_with fail
  rw [← hu1]
  clear hu1
  go_loopw [3, 16] (fun o q wr => ∃ (k : Nat) (A : Option Addr) (cp : Nat), k ≤ 4 ∧ q = .int .i64 k ∧ o = .slice A k cp ∧ Hid (Ni [a, b, c, d] w wr k A cp) ∧ Hid (Blk wr (w.heap.size + 1) 3 #[.int .i64 a, .int .i64 b, .int .i64 c, .int .i64 d])) (fun _ q _ => 4 - (intOf q).toNat)
  case atStart => exact ⟨0, none, 0, by omega, rfl, rfl, ⟨rfl, VO.nil _ _ _ _, HO⟩, HB⟩
  case round =>
    obtain ⟨k, A, cp, hk, rfl, rfl, hn, hb⟩ := hrel
    by_cases hlt : k < 4
    · obtain ⟨x, ex⟩ : ∃ x, x = [a, b, c, d].getD k 0 := ⟨_, rfl⟩
      have cx : wr.cell? ⟨w.heap.size + 1, k, none⟩ = some (.int .i64 x) := by rw [hb.out.cell, ex]; exact cell4 a b c d k hlt
      have EX := Lib.hid ex
      have i0 : (0 : Int) ≤ (k : Int) := by omega
      have i1 : (k : Int) < 4 := by omega
      cases hx : okN x
      · have HF : Hid (nt [a, b, c, d] = []) := nt_bad (mem4 a b c d k hlt) (by rw [← ex]; exact hx)
        have hno : ¬ (0 ≤ x ∧ x ≤ 1000000) := of_decide_eq_false hx
        clear ex hx
        by_cases hx0 : x < 0
        · clear hno
          go_wp2
          go_ret
          exact ⟨ret_str (by rw [HF.out]; rfl), hn.out.2.2⟩
        · have hx1 : 1000000 < x := by omega
          clear hno
          go_wp2
          go_ret
          exact ⟨ret_str (by rw [HF.out]; rfl), hn.out.2.2⟩
      · obtain ⟨x0, x1⟩ := okN_t hx
        have HX := Lib.hid hx
        clear ex hx
        go_wp2_with fail
        refine (f_Itoa x x0 x1 wr (HT.out.below hn.out.2.2 (Nat.le_refl _))).mono ?_
        rintro e w1 ⟨rfl, hb1⟩
        have hr2 : Lib.decDigits x.toNat = dec x := rfl
        rw [hr2]
        clear hr2
        have hsz := Nat.le_trans hn.out.2.2.size hb1.size
        go_wp2_with (at_builtin; refine wpList_append_lies _ rfl _ _ 50 rfl w.heap.size 9 i0' (.string ByteArray.empty) 1 16 Tryd.underlying50 hi hz0 hz1 hz2 rfl (by decide) (.slice A k cp) k _ rfl (World.ownsRow.alloc (hn.out.2.1.below hb1) _) ⟨w1.heap.size, 0, none⟩ 1 1 [.string (bs (dec x))] rfl rfl ?c1 ?c2 ?c3 ?c4 ?c5 ?c6 (w1.heap.size + 1) ?c7 ?_)
        case c1 => exact cells_one _ _ _
        case c2 => simp [Value.oneCell']
        case c3 => omega
        case c4 => unfold maxLen; omega
        case c5 => omega
        case c6 => simp; omega
        case c7 => simp
        intro g cap' w2 hown hgrow hat _
        obtain ⟨hn2, hon⟩ := hn.out.push hlt (by rw [← EX.out]; exact HX.out) hb1 (by rw [← EX.out]; simpa [strs, List.map_take] using hown) hgrow hat
        have hb2 : Hid (Blk w2 (w.heap.size + 1) 3 #[.int .i64 a, .int .i64 b, .int .i64 c, .int .i64 d]) := Blk.onlyV (hb.out.below' hb1) hon (hn.out.2.1.below hb1) (by decide)
        have HN := Lib.hid hn2
        clear hown hgrow hat hon hn2
        go_wp2
        go_roundw
        case rel => exact ⟨k + 1, _, _, by omega, by go_num, rfl, HN, hb2⟩
        case measure => simp [intOf]; omega
    · obtain rfl : k = 4 := by omega
      have e4 : [a, b, c, d].take 4 = [a, b, c, d] := rfl
      obtain ⟨hall, hv, hbel⟩ := hn.out
      rw [e4] at hall hv
      have HF : Hid (nt [a, b, c, d] = jn [a, b, c, d]) := nt_ok hall
      have HL : Hid ((jn [a, b, c, d]).length ≤ 4 * 1000002) := jn_len _ hall
      have HV := Lib.hid hv
      have HB2 := Lib.hid hbel
      clear hn hall hv hbel e4
      go_wp2_with fail
      refine (f_Join w.heap.size A 4 cp ([a, b, c, d].map dec) [32] wr HV.out (by omega) (Nat.le_trans HL.out (by omega))).mono ?_
      rintro e w1 ⟨rfl, hb1⟩
      go_wp2
      go_ret
      exact ⟨ret_str (by rw [HF.out]; rfl), bstep hb1 HB2.out.size HB2.out⟩
end Go.Proofs.YtcmgnnfkgkibgaaDoor

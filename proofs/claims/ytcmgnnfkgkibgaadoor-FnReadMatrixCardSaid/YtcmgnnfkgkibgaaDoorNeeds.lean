/-
  NeedsText of the reference.
-/
import Derived.Test.YtcmgnnfkgkibgaaDoorStr
import Derived.Test.YtcmgnnfkgkibgaaDoorRd
import Derived.Lib.Join
namespace Go.Proofs.YtcmgnnfkgkibgaaDoor
open Go.RowKit
set_option linter.unusedVariables false
set_option linter.unusedSimpArgs false

def okN (n : Int) : Bool := decide (0 ≤ n ∧ n ≤ 1000000)
/-- numbers with spaces between them -/
def jn (l : List Int) : List UInt8 := Lib.join (l.map dec) [32]
/-- the text of needs -/
def nt (l : List Int) : List UInt8 := if l.all okN = true then jn l else []
theorem jn_snoc {l : List Int} (h : l ≠ []) (x : Int) : jn (l ++ [x]) = jn l ++ [32] ++ dec x := by
  cases l with
  | nil => exact absurd rfl h
  | cons a l => simp [jn, Lib.join_cons, Lib.joinTail]
theorem jn_one (x : Int) : jn [x] = dec x := by simp [jn, Lib.join_one]
theorem nt_bad {l : List Int} {x : Int} (h : x ∈ l) (hx : okN x = false) : nt l = [] := if_neg (fun e => by rw [List.all_eq_true] at e; have := e x h; rw [hx] at this; cases this)
theorem nt_ok {l : List Int} (h : l.all okN = true) : nt l = jn l := if_pos h
theorem okN_t {x : Int} (h : okN x = true) : 0 ≤ x ∧ x ≤ 1000000 := of_decide_eq_true h
theorem dec_len {x : Int} (h : okN x = true) : (dec x).length ≤ 1000001 := by
  have := okN_t h
  have := (dd_len x.toNat).2
  unfold dec
  omega
theorem take_s (l : List Int) (k : Nat) (h : k < l.length) : l.take (k + 1) = l.take k ++ [l.getD k 0] := by
  rw [List.take_succ_eq_append_getElem h, List.getD_eq_getElem?_getD, List.getElem?_eq_getElem h]; rfl
/-- between two rounds -/
def Nk (l : List Int) (k : Nat) (s : ByteArray) : Prop := (l.take k).all okN = true ∧ s = bs (jn (l.take k)) ∧ s.size ≤ k * 1000002
theorem Nk.start (l : List Int) : Nk l 0 ⟨#[]⟩ := ⟨rfl, rfl, Nat.le_refl _⟩
theorem Nk.one {l : List Int} {s : ByteArray} (h : Nk l 0 s) (hk : 0 < l.length) (hx : okN (l.getD 0 0) = true) : Nk l 1 (s ++ bs (dec (l.getD 0 0))) := by
  obtain ⟨h1, rfl, h3⟩ := h
  have e : l.take 1 = [l.getD 0 0] := by simpa using take_s l 0 hk
  have e2 : jn (l.take 0) = [] := rfl
  refine ⟨by rw [e, List.all_cons, hx]; rfl, by rw [e, jn_one, e2, bs_app]; rfl, ?_⟩
  rw [e2, bs_app, bs_size, List.nil_append]
  have := dec_len hx
  omega
theorem Nk.next {l : List Int} {k : Nat} {s : ByteArray} (h : Nk l k s) (h0 : 0 < k) (hk : k < l.length) (hx : okN (l.getD k 0) = true) : Nk l (k + 1) (s ++ ⟨#[32]⟩ ++ bs (dec (l.getD k 0))) := by
  obtain ⟨h1, rfl, h3⟩ := h
  have e : l.take (k + 1) = l.take k ++ [l.getD k 0] := take_s l k hk
  have e2 : (⟨#[32]⟩ : ByteArray) = bs [32] := rfl
  have hne : l.take k ≠ [] := by
    intro h
    have := congrArg List.length h
    rw [List.length_take, List.length_nil] at this
    omega
  have e3 : bs (jn (l.take k)) ++ ⟨#[32]⟩ ++ bs (dec (l.getD k 0)) = bs (jn (l.take (k + 1))) := by rw [e, jn_snoc hne, e2, bs_app, bs_app]
  refine ⟨by rw [e, List.all_append, h1, List.all_cons, hx]; rfl, e3, ?_⟩
  rw [e2, bs_app, bs_app, bs_size]
  rw [bs_size] at h3
  have := dec_len hx
  simp only [List.length_append, List.length_cons, List.length_nil]
  omega
theorem Nk.fin {l : List Int} {s : ByteArray} (h : Nk l l.length s) : s = bs (nt l) := by
  obtain ⟨h1, h2, _⟩ := h
  rw [List.take_length] at h1 h2
  rw [nt_ok h1]
  exact h2
theorem no_over {a b : Nat} (h : a + b ≤ 9223372036854775807) : (9223372036854775807 < a + b) = False := by simp only [eq_iff_iff, iff_false]; omega
theorem cell4 (a b c d : Int) (k : Nat) (hk : k < 4) : (#[Value.int .i64 a, .int .i64 b, .int .i64 c, .int .i64 d] : Array Value)[k]? = some (.int .i64 ([a, b, c, d].getD k 0)) := by
  match k, hk with
  | 0, _ => rfl
  | 1, _ => rfl
  | 2, _ => rfl
  | 3, _ => rfl
theorem mem4 (a b c d : Int) (k : Nat) (hk : k < 4) : [a, b, c, d].getD k 0 ∈ [a, b, c, d] := by
  match k, hk with
  | 0, _ => simp
  | 1, _ => simp
  | 2, _ => simp
  | 3, _ => simp
theorem s_l1In_ok (x : Int) {b : Bool} (h : okN x = b) (w : World) : Calls Tryd.prog 27 #[.int .i64 x, .int .i64 0, .int .i64 1000000] w fun e w' => e = .returned (.bool b) ∧ w = w' := by
  subst h
  exact s_l1In x 0 1000000 w
set_option maxRecDepth 20000 in
set_option maxHeartbeats 1000000 in
theorem s_NeedsText (a b c d : Int) (w : World) : Calls Tryd.prog 9 #[.agg #[.int .i64 a, .int .i64 b, .int .i64 c, .int .i64 d]] w fun e w' => e = .returned (.string (bs (nt [a, b, c, d]))) ∧ Below w.heap.size w w' := by
  obtain ⟨u1, hu1⟩ : ∃ u, u = (w.alloc (.cells #[.int .i64 a, .int .i64 b, .int .i64 c, .int .i64 d] 25)).alloc (.cells #[.int .i64 a, .int .i64 b, .int .i64 c, .int .i64 d] 3) := ⟨_, rfl⟩
  have HB : Hid (Blk u1 (w.heap.size + 1) 3 #[.int .i64 a, .int .i64 b, .int .i64 c, .int .i64 d]) := by
    rw [hu1]
    have h := Blk.new (w.alloc (.cells #[.int .i64 a, .int .i64 b, .int .i64 c, .int .i64 d] 25)) 3 #[.int .i64 a, .int .i64 b, .int .i64 c, .int .i64 d]
    show Blk _ _ _ _
    simpa using h
  have HO : Hid (Below w.heap.size w u1) := by rw [hu1]; exact ((Below.refl _ _).alloc (Nat.le_refl _) _).alloc (by simp) _
  go_enter Tryd.func9, Tryd.ntmps9
  go_wp2_with fail
  rw [← hu1]
  clear hu1
  go_loopw [4, 5] (fun o q wr => ∃ (k : Nat) (s : ByteArray), k ≤ 4 ∧ q = .int .i64 k ∧ o = .string s ∧ Hid (Nk [a, b, c, d] k s) ∧ Hid (Blk wr (w.heap.size + 1) 3 #[.int .i64 a, .int .i64 b, .int .i64 c, .int .i64 d]) ∧ Hid (Below w.heap.size w wr)) (fun _ q _ => 4 - (intOf q).toNat)
  case atStart => exact ⟨0, _, by omega, rfl, rfl, Nk.start _, HB, HO⟩
  case round =>
    obtain ⟨k, s, hk, rfl, rfl, hn, hb, ho⟩ := hrel
    by_cases hlt : k < 4
    · obtain ⟨x, ex⟩ : ∃ x, x = [a, b, c, d].getD k 0 := ⟨_, rfl⟩
      have cx : wr.cell? ⟨w.heap.size + 1, k, none⟩ = some (.int .i64 x) := by rw [hb.out.cell, ex]; exact cell4 a b c d k hlt
      have EX := Lib.hid ex
      have i0 : (0 : Int) ≤ (k : Int) := by omega
      have i1 : (k : Int) < 4 := by omega
      cases hx : okN x
      · have HF : Hid (nt [a, b, c, d] = []) := nt_bad (mem4 a b c d k hlt) (by rw [← ex]; exact hx)
        clear ex
        go_wp2_with fail
        refine (s_l1In_ok x hx wr).mono ?_
        rintro e w' ⟨rfl, rfl⟩
        go_wp2
        go_ret
        exact ⟨ret_str (by rw [HF.out]; rfl), ho.out⟩
      · obtain ⟨x0, x1⟩ := okN_t hx
        have hsz : s.size ≤ 4 * 1000002 := Nat.le_trans hn.out.2.2 (Nat.mul_le_mul_right _ hk)
        have hdl := dec_len hx
        have HX := Lib.hid hx
        clear ex
        by_cases hk0 : k = 0
        · subst hk0
          go_wp2_with fail
          refine (s_l1In_ok x HX.out wr).mono ?_
          rintro e w' ⟨rfl, rfl⟩
          clear hx
          go_wp2_with fail
          refine (s_l2Number x x0 x1 wr).mono ?_
          rintro e w1 ⟨rfl, hb1⟩
          obtain ⟨r, hr⟩ : ∃ r, r = bs (dec x) := ⟨_, rfl⟩
          have hr2 : r = bs (Lib.decDigits x.toNat) := hr
          have hrs : r.size = (dec x).length := by rw [hr, bs_size]
          rw [← hr2]
          have HR := Lib.hid hr
          clear hr hr2
          have ho1 := no_over (a := s.size) (b := r.size) (by omega)
          clear hrs hdl hsz
          go_wp2
          go_roundw
          case rel => exact ⟨1, _, by omega, by go_num, rfl, by rw [HR.out, EX.out]; exact hn.out.one (Nat.succ_pos _) (by rw [← EX.out]; exact HX.out), hb.out.below' hb1, bstep hb1 ho.out.size ho.out⟩
          case measure => simp [intOf]
        · have hk1 : (0 : Int) < (k : Int) := by omega
          go_wp2_with fail
          refine (s_l1In_ok x HX.out wr).mono ?_
          rintro e w' ⟨rfl, rfl⟩
          clear hx
          have ho0 := no_over (a := s.size) (b := 1) (by omega)
          have e32 : ByteArray.size ⟨#[32]⟩ = 1 := rfl
          obtain ⟨t, ht⟩ : ∃ t, s ++ (⟨#[32]⟩ : ByteArray) = t := ⟨_, rfl⟩
          have hts : t.size = s.size + 1 := by rw [← ht]; exact ByteArray.size_append
          go_wp2_with fail
          refine (s_l2Number x x0 x1 wr).mono ?_
          rintro e w1 ⟨rfl, hb1⟩
          obtain ⟨r, hr⟩ : ∃ r, r = bs (dec x) := ⟨_, rfl⟩
          have hr2 : r = bs (Lib.decDigits x.toNat) := hr
          have hrs : r.size = (dec x).length := by rw [hr, bs_size]
          rw [← hr2]
          have HR := Lib.hid hr
          have HT := Lib.hid ht
          clear hr hr2
          have ho1 := no_over (a := t.size) (b := r.size) (by omega)
          clear hrs hdl hsz ht hts ho0 e32
          go_wp2
          go_roundw
          case rel => exact ⟨k + 1, _, by omega, by go_num, rfl, by rw [HR.out, ← HT.out, EX.out]; exact hn.out.next (by omega) hlt (by rw [← EX.out]; exact HX.out), hb.out.below' hb1, bstep hb1 ho.out.size ho.out⟩
          case measure => simp [intOf]; omega
    · obtain rfl : k = 4 := by omega
      have HF := Lib.hid hn.out.fin
      clear hn
      go_wp2
      go_ret
      exact ⟨ret_str HF.out, ho.out⟩
end Go.Proofs.YtcmgnnfkgkibgaaDoor

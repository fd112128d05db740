/-
  ReadFixed of the program.
-/
import Derived.Test.YtcmgnnfkgkibgaaDoorRfP
import Derived.Test.YtcmgnnfkgkibgaaDoorFix2
import Derived.Test.YtcmgnnfkgkibgaaDoorNeedsFn
namespace Go.Proofs.YtcmgnnfkgkibgaaDoor
open Go.RowKit
set_option linter.unusedVariables false
set_option linter.unusedSimpArgs false

theorem f_CutPrefix (l p : List UInt8) (w : World) : Calls Tryd.prog 63 #[.string (bs l), .string (bs p)] w fun e w' => e = .returned (.tuple #[.string (bs (Lib.trimPrefix l p)), .bool (Lib.hasPrefix l p)]) ∧ w = w' := by
  refine (Tryd.strings_CutPrefix (bs l) (bs p) w).mono ?_
  rintro e w' ⟨rfl, rfl⟩
  exact ⟨rfl, rfl⟩
theorem f_Cut (l p : List UInt8) (w : World) (hl : l.length ≤ 1048576) (hm : MaxL w) : Calls Tryd.prog 64 #[.string (bs l), .string (bs p)] w fun e w' => e = .returned (.tuple #[.string (bs (Lib.cut l p).1), .string (bs (Lib.cut l p).2.1), .bool (Lib.cut l p).2.2]) ∧ Below w.heap.size w w' := by
  obtain ⟨m, hm⟩ := hm
  refine (Tryd.strings_Cut (bs l) (bs p) m w (by rw [bs_size]; omega) hm).mono ?_
  rintro e w' ⟨rfl, n, rfl⟩
  exact ⟨rfl, below_drewN (Below.refl _ _) n⟩
theorem bs_at (l : List UInt8) {s : ByteArray} (hs : s = bs l) (k : Nat) (h : k < s.size) : ∃ h2 : k < l.length, l[k] = s[k] := by
  subst hs
  exact byte_at (bs l) k h
theorem dOf_bad {l : List UInt8} {k : Nat} (h : k < l.length) (hb : isD l[k] = false) : dOf l = (0, false) := by
  unfold dOf
  rw [if_neg]
  intro e
  rw [List.all_eq_true] at e
  rw [e _ (List.getElem_mem h)] at hb
  cases hb
theorem dOf_ok {l : List UInt8} (h : l.all isD = true) : dOf l = (vl l, decide (l ≠ [])) := if_pos h
theorem vl_step {l : List UInt8} {k : Nat} (h : k < l.length) (ha : (l.take k).all isD = true) (hb : isD l[k] = true) : (l.take (k + 1)).all isD = true ∧ vl (l.take (k + 1)) = vl (l.take k) * 10 + ((l[k].toNat : Int) - 48) := by
  rw [List.take_succ_eq_append_getElem h]
  exact ⟨by rw [List.all_append, ha, List.all_cons, hb]; rfl, vl_snoc _ _⟩
theorem vl_take_bd {l : List UInt8} {k : Nat} (hk : k ≤ l.length) (h8 : k ≤ 8) (ha : (l.take k).all isD = true) : 0 ≤ vl (l.take k) ∧ vl (l.take k) ≤ 99999999 := by
  have h := vl_bd (l.take k) ha k (by rw [List.length_take]; omega)
  rw [List.take_take, Nat.min_self] at h
  refine ⟨h.1, Int.le_trans h.2 ?_⟩
  have h2 : (10 : Int) ^ k ≤ 10 ^ 8 := by
    have := Nat.pow_le_pow_right (show 0 < 10 by omega) h8
    exact_mod_cast this
  have h3 : (10 : Int) ^ 8 = 100000000 := by decide
  omega
theorem isD_f {b : UInt8} (h : ¬ (48 ≤ b.toNat ∧ b.toNat ≤ 57)) : isD b = false := decide_eq_false h
theorem isD_t {b : UInt8} (h : 48 ≤ b.toNat ∧ b.toNat ≤ 57) : isD b = true := decide_eq_true h
theorem ret_ib {a b : Int} {c d : Bool} (h : a = b) (h2 : c = d) : Ending.returned (.tuple #[.int .i64 a, .bool c]) = .returned (.tuple #[.int .i64 b, .bool d]) := by rw [h, h2]
set_option maxRecDepth 20000 in
set_option maxHeartbeats 1000000 in
theorem i_decimalOf (l : List UInt8) (hl : l.length ≤ 8) (w : World) : Calls Tryd.prog 65 #[.string (bs l)] w fun e w' => e = .returned (.tuple #[.int .i64 (dOf l).1, .bool (dOf l).2]) ∧ w = w' := by
  obtain ⟨s, hs⟩ : ∃ s, s = bs l := ⟨_, rfl⟩
  rw [← hs]
  have hss : s.size = l.length := by rw [hs, bs_size]
  have HS := Lib.hid hs
  have HL := Lib.hid hl
  by_cases h0 : l = []
  · have hz : s.toList.isEmpty = true := by rw [te_eq]; exact (ba_eq _ _).2 (by rw [hs, h0]; rfl)
    have hz2 : s.size = 0 := by rw [hss, h0]; rfl
    have e1 : dOf l = (0, false) := by rw [h0]; rfl
    rw [e1]
    clear hs hss h0 e1 hl
    go_enter Tryd.func65, Tryd.ntmps65
    go_wp2
    refine wp_loop_rounds 1 ?_
    rw [rounds_succ]
    go_wp2
    go_ret2
    exact ⟨rfl, rfl⟩
  have hz : s.toList.isEmpty = false := by rw [te_eq]; exact ba_ne (fun e => h0 (bs_inj (by rw [← hs]; exact e)))
  have HSS := Lib.hid hss
  have H0 := Lib.hid h0
  clear hs hss hl h0
  go_enter Tryd.func65, Tryd.ntmps65
  go_wp2
  go_loop [4, 8] (fun q i => ∃ (k : Nat) (n : Int), k ≤ s.size ∧ i = .int .i64 k ∧ q = .int .i64 n ∧ 0 ≤ n ∧ n ≤ 99999999 ∧ Hid ((l.take k).all isD = true ∧ n = vl (l.take k))) (fun _ i => s.size - (intOf i).toNat)
  case atStart => exact ⟨0, 0, Nat.zero_le _, rfl, rfl, by omega, by omega, rfl, rfl⟩
  case round =>
    obtain ⟨k, n, hk, rfl, rfl, n0, n1, hn⟩ := hrel
    by_cases hlt : k < s.size
    · obtain ⟨hkl, hbk⟩ := bs_at l HS.out k hlt
      have hk64 : (s.size : Int) ≤ 9223372036854775807 := by have := HSS.out; have := HL.out; omega
      have hk0 : (0 : Int) ≤ (k : Int) := by omega
      obtain ⟨y, hy⟩ : ∃ y : Int, (s[k].toNat : Int) = y := ⟨_, rfl⟩
      have hyl : (l[k].toNat : Int) = y := by rw [hbk]; exact hy
      have HY := Lib.hid hyl
      clear hyl hbk
      by_cases hd : 48 ≤ y ∧ y ≤ 57
      · obtain ⟨d0, d1⟩ := hd
        have hst := vl_step hkl hn.out.1 (isD_t (by have := HY.out; omega))
        rw [HY.out, ← hn.out.2] at hst
        have hbd := vl_take_bd (l := l) (k := k + 1) (by omega) (by have := HL.out; omega) hst.1
        rw [hst.2] at hbd
        obtain ⟨b0, b1⟩ := hbd
        have HST := Lib.hid hst
        have p1 := IntWalk.i64_in (n * 10) (by omega)
        have p2 := IntWalk.i64_in (n * 10 + (y - 48)) (by omega)
        clear hst hn
        go_wp2
        go_round
        case rel => exact ⟨k + 1, n * 10 + (y - 48), by omega, by go_num, by go_num, by omega, by omega, HST.out.1, HST.out.2.symm⟩
        case measure => simp [intOf]; omega
      · have HF : Hid (dOf l = (0, false)) := dOf_bad hkl (isD_f (by have := HY.out; omega))
        clear hn
        by_cases hd1 : y < 48
        · clear hd
          go_wp2
          go_ret2
          exact ⟨ret_ib (by rw [HF.out]) (by rw [HF.out]), rfl⟩
        · have hd2 : 57 < y := by omega
          clear hd
          go_wp2
          go_ret2
          exact ⟨ret_ib (by rw [HF.out]) (by rw [HF.out]), rfl⟩
    · obtain rfl : k = s.size := by omega
      have HF : Hid (dOf l = (n, true)) := by
        obtain ⟨h1, h2⟩ := hn.out
        rw [HSS.out, List.take_length] at h1 h2
        show _ = _
        rw [dOf_ok h1, h2]
        simp [H0.out]
      clear hn
      go_wp2
      go_ret2
      exact ⟨ret_ib (by rw [HF.out]) (by rw [HF.out]), rfl⟩
end Go.Proofs.YtcmgnnfkgkibgaaDoor

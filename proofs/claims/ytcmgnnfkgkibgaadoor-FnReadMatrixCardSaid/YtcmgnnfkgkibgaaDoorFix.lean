/-
  FixedText of both. Printed by gen_fix.py.
-/
import Derived.Test.YtcmgnnfkgkibgaaDoorFixP
import Derived.Test.YtcmgnnfkgkibgaaDoorNeeds
import Derived.Test.YtcmgnnfkgkibgaaDoorBest
namespace Go.Proofs.YtcmgnnfkgkibgaaDoor
open Go.RowKit
set_option linter.unusedVariables false
set_option linter.unusedSimpArgs false

theorem e_app (s : ByteArray) : (⟨#[]⟩ : ByteArray) ++ s = s := by
  rw [← bs_list s]
  show bs [] ++ bs _ = _
  rw [bs_app, List.nil_append]

set_option maxRecDepth 20000 in
set_option maxHeartbeats 1000000 in
theorem s_FixedText (x : Int) (hx : 0 ≤ x ∧ x ≤ 4095) (w : World) : Calls Tryd.prog 36 #[.int .i64 x] w fun e w' => e = .returned (.string (bs (fx x))) ∧ Below w.heap.size w w' := by
  obtain ⟨n, hn⟩ : ∃ n, n = sgn x := ⟨_, rfl⟩
  have hbd := sgn_bd' x
  rw [← hn] at hbd
  obtain ⟨b0, b1⟩ := hbd
  have HF : Hid (fx x = fxs n) := by show _ = _; rw [hn]; rfl
  have HN := Lib.hid hn
  clear hn
  by_cases hneg : n < 0
  · obtain ⟨m, hm⟩ : ∃ m, m = -n := ⟨_, rfl⟩
    have q1 : 0 ≤ m := by omega
    have q1' : m ≤ 4096 := by omega
    have q2 : 0 ≤ m / 16 := by omega
    have q3 : m / 16 ≤ 1000000 := by omega
    have HAB : Hid (m = ab n) := by show m = ab n; unfold ab; rw [if_pos hneg]; exact hm
    have hm2 : -n = m := hm.symm
    clear hm
    go_enter Tryd.func36, Tryd.ntmps36
    go_wp2_with fail
    refine (s_RingValid_t x hx w).mono ?_
    rintro e w' ⟨rfl, rfl⟩
    go_wp2_with fail
    refine (s_SignedOf x w).mono ?_
    rintro e w' ⟨rfl, rfl⟩
    rw [← HN.out]
    go_wp2_with fail
    refine (s_l2Number (m / 16) q2 q3 w).mono ?_
    rintro e w1 ⟨rfl, hb1⟩
    obtain ⟨r, hr⟩ : ∃ r, r = bs (dec (m / 16)) := ⟨_, rfl⟩
    have hr2 : r = bs (Lib.decDigits (m / 16).toNat) := hr
    rw [← hr2]
    clear hr2
    have HB1 := Lib.hid hb1
    clear hb1
    have hrs : r.size ≤ 300 := by rw [hr, bs_size]; unfold dec; have := (dd_len (m / 16).toNat).2; omega
    obtain ⟨t, ht⟩ : ∃ t, (⟨#[45]⟩ : ByteArray) ++ r = t := ⟨_, rfl⟩
    have e45 : ByteArray.size ⟨#[45]⟩ = 1 := rfl
    have ho0 := no_over (a := 1) (b := r.size) (by omega)
    have hts : t.size ≤ 301 := by rw [← ht, ByteArray.size_append]; omega
    have HT : Hid (t = bs (sg n ++ dec (m / 16))) := by rw [← ht, hr]; unfold sg; rw [if_pos hneg]; exact bs_app [45] _
    clear hr hrs
    by_cases hz : m % 16 = 0
    · have HZ : Hid (fxs n = sg n ++ dec (m / 16)) := by show _ = _; rw [HAB.out]; exact fxs_whole (by rw [← HAB.out]; exact hz)
      clear hts
      go_wp2
      refine wp_loop_rounds 1 ?_
      rw [rounds_succ]
      go_wp2
      go_ret
      exact ⟨ret_str (by rw [HF.out, HZ.out, HT.out]), HB1.out⟩
    · have hz2 : 0 < m % 16 := by omega
      have hz3 : m % 16 ≤ 15 := by omega
      obtain ⟨t2, ht2⟩ : ∃ t2, t ++ (⟨#[46]⟩ : ByteArray) = t2 := ⟨_, rfl⟩
      have e46 : ByteArray.size ⟨#[46]⟩ = 1 := rfl
      have ho2 := no_over (a := t.size) (b := 1) (by omega)
      have HFR : Hid (Fr n (m % 16) t2) := by
        rw [← ht2, HT.out, HAB.out]
        have h := Fr.start n ⟨b0, b1⟩ (by rw [← HAB.out]; exact hz)
        have e : (⟨#[46]⟩ : ByteArray) = bs [46] := rfl
        rw [e, bs_app]
        exact h
      clear hts hz
      go_wp2
      clear ho2 ho0
      go_loopw [4, 5] (fun o q wr => ∃ (r : Int) (s : ByteArray), o = .string s ∧ q = .int .i64 r ∧ 0 ≤ r ∧ r ≤ 15 ∧ Hid (Fr n r s) ∧ Hid (Below w.heap.size w wr)) (fun _ q _ => fm (intOf q).toNat)
      case atStart => exact ⟨_, _, rfl, rfl, by omega, by omega, HFR, HB1⟩
      case round =>
        obtain ⟨r, s, rfl, rfl, r0, r1, hfr, hbr⟩ := hrel
        by_cases hr0 : 0 < r
        · have p1 : 0 ≤ 10 * r / 16 := by omega
          have p2 : 10 * r / 16 ≤ 1000000 := by omega
          have p3 := IntWalk.i64_in (10 * r) (by omega)
          have p4 : 0 ≤ 10 * r := by omega
          go_wp2_with fail
          refine (s_l2Number (10 * r / 16) p1 p2 wr).mono ?_
          rintro e w2 ⟨rfl, hb2⟩
          obtain ⟨d, hd⟩ : ∃ d, d = bs (dec (10 * r / 16)) := ⟨_, rfl⟩
          have hd2 : d = bs (Lib.decDigits (10 * r / 16).toNat) := hd
          rw [← hd2]
          clear hd2
          have hds : d.size ≤ 11 := by rw [hd, bs_size]; unfold dec; have := (dd_len (10 * r / 16).toNat).2; omega
          have hss : s.size ≤ 900 := by have := hfr.out.1; omega
          have ho3 := no_over (a := s.size) (b := d.size) (by omega)
          have HD := Lib.hid hd
          have HB2 := Lib.hid hb2
          clear hd hds hss hb2
          go_wp2
          go_roundw
          case rel => exact ⟨10 * r % 16, _, rfl, rfl, by omega, by omega, by rw [HD.out]; exact hfr.out.step hr0 r1, bstep HB2.out hbr.out.size hbr.out⟩
          case measure => exact fm_dec hr0 r1
        · obtain rfl : r = 0 := by omega
          have HFI := Lib.hid hfr.out.fin
          clear hfr
          go_wp2
          go_ret
          exact ⟨ret_str (by rw [HF.out, HFI.out]), hbr.out⟩
  · have hneg2 : 0 ≤ n := by omega
    have q1 : 0 ≤ n := by omega
    have q1' : n ≤ 4096 := by omega
    have q2 : 0 ≤ n / 16 := by omega
    have q3 : n / 16 ≤ 1000000 := by omega
    have HAB : Hid (n = ab n) := by show n = ab n; unfold ab; rw [if_neg (by omega)]
    go_enter Tryd.func36, Tryd.ntmps36
    go_wp2_with fail
    refine (s_RingValid_t x hx w).mono ?_
    rintro e w' ⟨rfl, rfl⟩
    go_wp2_with fail
    refine (s_SignedOf x w).mono ?_
    rintro e w' ⟨rfl, rfl⟩
    rw [← HN.out]
    go_wp2_with fail
    refine (s_l2Number (n / 16) q2 q3 w).mono ?_
    rintro e w1 ⟨rfl, hb1⟩
    obtain ⟨r, hr⟩ : ∃ r, r = bs (dec (n / 16)) := ⟨_, rfl⟩
    have hr2 : r = bs (Lib.decDigits (n / 16).toNat) := hr
    rw [← hr2]
    clear hr2
    have HB1 := Lib.hid hb1
    clear hb1
    have hrs : r.size ≤ 300 := by rw [hr, bs_size]; unfold dec; have := (dd_len (n / 16).toNat).2; omega
    obtain ⟨t, ht⟩ : ∃ t, (⟨#[]⟩ : ByteArray) ++ r = t := ⟨_, rfl⟩
    have e45 : ByteArray.size ⟨#[]⟩ = 0 := rfl
    have ho0 : (9223372036854775807 < r.size) = False := by simp only [eq_iff_iff, iff_false]; omega
    have hts : t.size ≤ 301 := by rw [← ht, e_app]; omega
    have HT : Hid (t = bs (sg n ++ dec (n / 16))) := by rw [← ht, hr]; unfold sg; rw [if_neg (by omega)]; exact bs_app [] _
    clear hr hrs
    by_cases hz : n % 16 = 0
    · have HZ : Hid (fxs n = sg n ++ dec (n / 16)) := by show _ = _; have e := HAB.out; have h := fxs_whole (n := n) (by rw [← e]; exact hz); rw [← e] at h; exact h
      clear hts
      go_wp2
      refine wp_loop_rounds 1 ?_
      rw [rounds_succ]
      go_wp2
      go_ret
      exact ⟨ret_str (by rw [HF.out, HZ.out, HT.out]), HB1.out⟩
    · have hz2 : 0 < n % 16 := by omega
      have hz3 : n % 16 ≤ 15 := by omega
      obtain ⟨t2, ht2⟩ : ∃ t2, t ++ (⟨#[46]⟩ : ByteArray) = t2 := ⟨_, rfl⟩
      have e46 : ByteArray.size ⟨#[46]⟩ = 1 := rfl
      have ho2 := no_over (a := t.size) (b := 1) (by omega)
      have HFR : Hid (Fr n (n % 16) t2) := by
        rw [← ht2, HT.out]
        have h := Fr.start n ⟨b0, b1⟩ (by rw [← HAB.out]; exact hz); rw [← HAB.out] at h
        have e : (⟨#[46]⟩ : ByteArray) = bs [46] := rfl
        rw [e, bs_app]
        exact h
      clear hts hz
      go_wp2
      clear ho2 ho0
      go_loopw [4, 5] (fun o q wr => ∃ (r : Int) (s : ByteArray), o = .string s ∧ q = .int .i64 r ∧ 0 ≤ r ∧ r ≤ 15 ∧ Hid (Fr n r s) ∧ Hid (Below w.heap.size w wr)) (fun _ q _ => fm (intOf q).toNat)
      case atStart => exact ⟨_, _, rfl, rfl, by omega, by omega, HFR, HB1⟩
      case round =>
        obtain ⟨r, s, rfl, rfl, r0, r1, hfr, hbr⟩ := hrel
        by_cases hr0 : 0 < r
        · have p1 : 0 ≤ 10 * r / 16 := by omega
          have p2 : 10 * r / 16 ≤ 1000000 := by omega
          have p3 := IntWalk.i64_in (10 * r) (by omega)
          have p4 : 0 ≤ 10 * r := by omega
          go_wp2_with fail
          refine (s_l2Number (10 * r / 16) p1 p2 wr).mono ?_
          rintro e w2 ⟨rfl, hb2⟩
          obtain ⟨d, hd⟩ : ∃ d, d = bs (dec (10 * r / 16)) := ⟨_, rfl⟩
          have hd2 : d = bs (Lib.decDigits (10 * r / 16).toNat) := hd
          rw [← hd2]
          clear hd2
          have hds : d.size ≤ 11 := by rw [hd, bs_size]; unfold dec; have := (dd_len (10 * r / 16).toNat).2; omega
          have hss : s.size ≤ 900 := by have := hfr.out.1; omega
          have ho3 := no_over (a := s.size) (b := d.size) (by omega)
          have HD := Lib.hid hd
          have HB2 := Lib.hid hb2
          clear hd hds hss hb2
          go_wp2
          go_roundw
          case rel => exact ⟨10 * r % 16, _, rfl, rfl, by omega, by omega, by rw [HD.out]; exact hfr.out.step hr0 r1, bstep HB2.out hbr.out.size hbr.out⟩
          case measure => exact fm_dec hr0 r1
        · obtain rfl : r = 0 := by omega
          have HFI := Lib.hid hfr.out.fin
          clear hfr
          go_wp2
          go_ret
          exact ⟨ret_str (by rw [HF.out, HFI.out]), hbr.out⟩
end Go.Proofs.YtcmgnnfkgkibgaaDoor

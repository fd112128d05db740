/-
  FixedText of the program. Printed by gen_fix2.py.
-/
import Derived.Test.YtcmgnnfkgkibgaaDoorFix
namespace Go.Proofs.YtcmgnnfkgkibgaaDoor
open Go.RowKit
set_option linter.unusedVariables false
set_option linter.unusedSimpArgs false

theorem f_TrimRight (l : List UInt8) (w : World) (h : l.length ≤ 1000000) : Calls Tryd.prog 60 #[.string (bs l), .string ⟨#[48]⟩] w fun e w' => e = .returned (.string (bs (Lib.trimRightB l 48))) ∧ w = w' := by
  refine (Tryd.strings_TrimRight_one (bs l) 48 (by decide) w (by rw [bs_size]; omega)).mono ?_
  rintro e w' ⟨rfl, rfl⟩
  exact ⟨rfl, rfl⟩
theorem bs_drop1 (l : List UInt8) : (bs l).extract 1 (bs l).size = bs (l.drop 1) := by
  rw [bs_size]
  show ByteArray.extract ⟨l.toArray⟩ 1 l.length = _
  unfold bs
  have h : (ByteArray.extract ⟨l.toArray⟩ 1 l.length).data.toList = l.drop 1 := by
    simp [ByteArray.data_extract]
    exact List.take_of_length_le (by simp)
  rw [← bs_list (ByteArray.extract ⟨l.toArray⟩ 1 l.length), h]
  rfl

set_option maxRecDepth 20000 in
set_option maxHeartbeats 1000000 in
theorem i_FixedText (x : Int) (hx : 0 ≤ x ∧ x ≤ 4095) (w : World) (ht : Tab w) : Calls Tryd.prog 40 #[.int .i64 x] w fun e w' => e = .returned (.string (bs (fx x))) ∧ Below w.heap.size w w' := by
  obtain ⟨n, hn⟩ : ∃ n, n = sgn x := ⟨_, rfl⟩
  have hbd := sgn_bd' x
  rw [← hn] at hbd
  obtain ⟨b0, b1⟩ := hbd
  have HF : Hid (fx x = fxs n) := by show _ = _; rw [hn]; rfl
  have HN := Lib.hid hn
  have HTB := Lib.hid ht
  clear hn ht
  by_cases hneg : n < 0
  · obtain ⟨m, hm⟩ : ∃ m, m = -n := ⟨_, rfl⟩
    have q1 : 0 ≤ m := by omega
    have q1' : m ≤ 4096 := by omega
    have q2 : 0 ≤ m / 16 := by omega
    have q3 : m / 16 ≤ 1000000 := by omega
    have HAB : Hid (m = ab n) := by show m = ab n; unfold ab; rw [if_pos hneg]; exact hm
    have hm2 : -n = m := hm.symm
    clear hm
    have h15 := and15 m
    go_enter Tryd.func40, Tryd.ntmps40
    go_wp2_with fail
    refine (i_RingValid_t x hx w).mono ?_
    rintro e w' ⟨rfl, rfl⟩
    go_wp2_with fail
    refine (i_SignedOf x w).mono ?_
    rintro e w' ⟨rfl, rfl⟩
    rw [← HN.out]
    go_wp2_with fail
    refine (f_Itoa (m / 16) q2 q3 w HTB.out).mono ?_
    rintro e w1 ⟨rfl, hb1⟩
    obtain ⟨r, hr⟩ : ∃ r, r = bs (dec (m / 16)) := ⟨_, rfl⟩
    have hr2 : r = bs (Lib.decDigits (m / 16).toNat) := hr
    rw [← hr2]
    clear hr2
    have HB1 := Lib.hid hb1
    clear hb1
    have hrs : r.size ≤ 300 := by rw [hr, bs_size]; unfold dec; have := (dd_len (m / 16).toNat).2; omega
    obtain ⟨t, ht⟩ : ∃ t, (⟨#[45]⟩ : ByteArray) ++ r = t := ⟨_, rfl⟩
    have e45 : ByteArray.size ⟨#[45]⟩ = 1 := rfl
    have ho0 := no_over (a := 1) (b := r.size) (by omega)
    have hts : t.size ≤ 301 := by rw [← ht, ByteArray.size_append]; omega
    have HT : Hid (t = bs (sg n ++ dec (m / 16))) := by rw [← ht, hr]; unfold sg; rw [if_pos hneg]; exact bs_app [45] _
    clear hr hrs
    by_cases hz : m % 16 = 0
    · have HZ : Hid (fxs n = sg n ++ dec (m / 16)) := by show _ = _; have e := HAB.out; have h := fxs_whole (n := n) (by rw [← e]; exact hz); rw [← e] at h; exact h
      clear hts
      go_wp2
      go_ret
      exact ⟨ret_str (by rw [HF.out, HZ.out, HT.out]), HB1.out⟩
    · obtain ⟨k, hk⟩ : ∃ k, k = m % 16 := ⟨_, rfl⟩
      have hk0 : 0 < k := by omega
      have hk1 : k ≤ 15 := by omega
      have HZ : Hid (fxs n = sg n ++ dec (m / 16) ++ [46] ++ fd k.toNat) := by show _ = _; have e := HAB.out; have h := fxs_part (n := n) (by rw [← e]; exact hz); rw [← e, ← hk] at h; exact h
      have hz2 : m % 16 = k := hk.symm
      have hzf : (k == 0) = false := by simp; omega
      clear hz hk
      have p1 := IntWalk.i64_in (k * 625) (by omega)
      have p2 := IntWalk.i64_in (10000 + k * 625) (by omega)
      have p3 : 0 ≤ 10000 + k * 625 := by omega
      have p4 : 10000 + k * 625 ≤ 1000000 := by omega
      obtain ⟨t2, ht2⟩ : ∃ t2, t ++ (⟨#[46]⟩ : ByteArray) = t2 := ⟨_, rfl⟩
      have e46 : ByteArray.size ⟨#[46]⟩ = 1 := rfl
      have ho2 := no_over (a := t.size) (b := 1) (by omega)
      have ht2s : t2.size ≤ 302 := by rw [← ht2, ByteArray.size_append]; omega
      have HT2 : Hid (t2 = bs (sg n ++ dec (m / 16) ++ [46])) := by
        rw [← ht2, HT.out]
        exact bs_app _ [46]
      go_wp2_with fail
      refine (f_Itoa (10000 + k * 625) p3 p4 w1 (HTB.out.below HB1.out (Nat.le_refl _))).mono ?_
      rintro e w2 ⟨rfl, hb2⟩
      obtain ⟨d, hd⟩ : ∃ d, d = Lib.decDigits (10000 + k * 625).toNat := ⟨_, rfl⟩
      rw [← hd]
      have hdl : d.length = 5 := by rw [hd, dd5 _ (by omega) (by omega)]; rfl
      have hbz : (bs d).size = 5 := by rw [bs_size]; exact hdl
      have hex : (bs d).extract 1 5 = bs (d.tail) := by have h := bs_drop1 d; rw [hbz, List.drop_one] at h; exact h
      have HD := Lib.hid hd
      have HB2 := Lib.hid hb2
      clear hd hb2
      go_wp2_with fail
      refine (f_TrimRight (d.tail) w2 (by rw [List.length_tail]; omega)).mono ?_
      rintro e w' ⟨rfl, rfl⟩
      have HTR : Hid (Lib.trimRightB (d.tail) 48 = fd k.toNat) := by
        show _ = _
        have h := fd_trim k.toNat (by omega) (by omega)
        have e : 10000 + k.toNat * 625 = (10000 + k * 625).toNat := by omega
        rw [e, ← HD.out, List.drop_one] at h
        exact h
      obtain ⟨z, hzz⟩ : ∃ z, z = bs (Lib.trimRightB (d.tail) 48) := ⟨_, rfl⟩
      rw [← hzz]
      have hzs : z.size ≤ 4 := by rw [hzz, HTR.out, bs_size]; exact fd_len ⟨k.toNat, by omega⟩
      have ho3 := no_over (a := t2.size) (b := z.size) (by omega)
      have HZZ := Lib.hid hzz
      clear hzz hzs ht2s hts hex hbz hdl
      go_wp2
      go_ret
      exact ⟨ret_str (by rw [HF.out, HZ.out, HT2.out, HZZ.out, HTR.out, bs_app]), bstep HB2.out HB1.out.size HB1.out⟩
  · have hneg2 : 0 ≤ n := by omega
    have q1 : 0 ≤ n := by omega
    have q1' : n ≤ 4096 := by omega
    have q2 : 0 ≤ n / 16 := by omega
    have q3 : n / 16 ≤ 1000000 := by omega
    have HAB : Hid (n = ab n) := by show n = ab n; unfold ab; rw [if_neg (by omega)]
    have h15 := and15 n
    go_enter Tryd.func40, Tryd.ntmps40
    go_wp2_with fail
    refine (i_RingValid_t x hx w).mono ?_
    rintro e w' ⟨rfl, rfl⟩
    go_wp2_with fail
    refine (i_SignedOf x w).mono ?_
    rintro e w' ⟨rfl, rfl⟩
    rw [← HN.out]
    go_wp2_with fail
    refine (f_Itoa (n / 16) q2 q3 w HTB.out).mono ?_
    rintro e w1 ⟨rfl, hb1⟩
    obtain ⟨r, hr⟩ : ∃ r, r = bs (dec (n / 16)) := ⟨_, rfl⟩
    have hr2 : r = bs (Lib.decDigits (n / 16).toNat) := hr
    rw [← hr2]
    clear hr2
    have HB1 := Lib.hid hb1
    clear hb1
    have hrs : r.size ≤ 300 := by rw [hr, bs_size]; unfold dec; have := (dd_len (n / 16).toNat).2; omega
    obtain ⟨t, ht⟩ : ∃ t, (⟨#[]⟩ : ByteArray) ++ r = t := ⟨_, rfl⟩
    have e45 : ByteArray.size ⟨#[]⟩ = 0 := rfl
    have ho0 : (9223372036854775807 < r.size) = False := by simp only [eq_iff_iff, iff_false]; omega
    have hts : t.size ≤ 301 := by rw [← ht, e_app]; omega
    have HT : Hid (t = bs (sg n ++ dec (n / 16))) := by rw [← ht, hr]; unfold sg; rw [if_neg (by omega)]; exact bs_app [] _
    clear hr hrs
    by_cases hz : n % 16 = 0
    · have HZ : Hid (fxs n = sg n ++ dec (n / 16)) := by show _ = _; have e := HAB.out; have h := fxs_whole (n := n) (by rw [← e]; exact hz); rw [← e] at h; exact h
      clear hts
      go_wp2
      go_ret
      exact ⟨ret_str (by rw [HF.out, HZ.out, HT.out]), HB1.out⟩
    · obtain ⟨k, hk⟩ : ∃ k, k = n % 16 := ⟨_, rfl⟩
      have hk0 : 0 < k := by omega
      have hk1 : k ≤ 15 := by omega
      have HZ : Hid (fxs n = sg n ++ dec (n / 16) ++ [46] ++ fd k.toNat) := by show _ = _; have e := HAB.out; have h := fxs_part (n := n) (by rw [← e]; exact hz); rw [← e, ← hk] at h; exact h
      have hz2 : n % 16 = k := hk.symm
      have hzf : (k == 0) = false := by simp; omega
      clear hz hk
      have p1 := IntWalk.i64_in (k * 625) (by omega)
      have p2 := IntWalk.i64_in (10000 + k * 625) (by omega)
      have p3 : 0 ≤ 10000 + k * 625 := by omega
      have p4 : 10000 + k * 625 ≤ 1000000 := by omega
      obtain ⟨t2, ht2⟩ : ∃ t2, t ++ (⟨#[46]⟩ : ByteArray) = t2 := ⟨_, rfl⟩
      have e46 : ByteArray.size ⟨#[46]⟩ = 1 := rfl
      have ho2 := no_over (a := t.size) (b := 1) (by omega)
      have ht2s : t2.size ≤ 302 := by rw [← ht2, ByteArray.size_append]; omega
      have HT2 : Hid (t2 = bs (sg n ++ dec (n / 16) ++ [46])) := by
        rw [← ht2, HT.out]
        exact bs_app _ [46]
      go_wp2_with fail
      refine (f_Itoa (10000 + k * 625) p3 p4 w1 (HTB.out.below HB1.out (Nat.le_refl _))).mono ?_
      rintro e w2 ⟨rfl, hb2⟩
      obtain ⟨d, hd⟩ : ∃ d, d = Lib.decDigits (10000 + k * 625).toNat := ⟨_, rfl⟩
      rw [← hd]
      have hdl : d.length = 5 := by rw [hd, dd5 _ (by omega) (by omega)]; rfl
      have hbz : (bs d).size = 5 := by rw [bs_size]; exact hdl
      have hex : (bs d).extract 1 5 = bs (d.tail) := by have h := bs_drop1 d; rw [hbz, List.drop_one] at h; exact h
      have HD := Lib.hid hd
      have HB2 := Lib.hid hb2
      clear hd hb2
      go_wp2_with fail
      refine (f_TrimRight (d.tail) w2 (by rw [List.length_tail]; omega)).mono ?_
      rintro e w' ⟨rfl, rfl⟩
      have HTR : Hid (Lib.trimRightB (d.tail) 48 = fd k.toNat) := by
        show _ = _
        have h := fd_trim k.toNat (by omega) (by omega)
        have e : 10000 + k.toNat * 625 = (10000 + k * 625).toNat := by omega
        rw [e, ← HD.out, List.drop_one] at h
        exact h
      obtain ⟨z, hzz⟩ : ∃ z, z = bs (Lib.trimRightB (d.tail) 48) := ⟨_, rfl⟩
      rw [← hzz]
      have hzs : z.size ≤ 4 := by rw [hzz, HTR.out, bs_size]; exact fd_len ⟨k.toNat, by omega⟩
      have ho3 := no_over (a := t2.size) (b := z.size) (by omega)
      have HZZ := Lib.hid hzz
      clear hzz hzs ht2s hts hex hbz hdl
      go_wp2
      go_ret
      exact ⟨ret_str (by rw [HF.out, HZ.out, HT2.out, HZZ.out, HTR.out, bs_app]), bstep HB2.out HB1.out.size HB1.out⟩
end Go.Proofs.YtcmgnnfkgkibgaaDoor

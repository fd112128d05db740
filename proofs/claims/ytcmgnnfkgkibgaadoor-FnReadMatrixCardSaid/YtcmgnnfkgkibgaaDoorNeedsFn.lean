/-
  FnNeedsText: the walk. Printed by gen_needsfn.py.
-/
import Derived.Test.YtcmgnnfkgkibgaaDoorDrawNeeds
import Derived.Test.YtcmgnnfkgkibgaaDoorNeedsP
import Derived.Test.YtcmgnnfkgkibgaaDoorRowI
import Derived.Laws.StructEq
namespace Go.Proofs.YtcmgnnfkgkibgaaDoor
open Go.RowKit
set_option linter.unusedVariables false
set_option linter.unusedSimpArgs false

theorem l_alive (w : World) : Calls Tryd.prog 13 #[] w fun e w' => e = .returned (.bool true) ∧ w = w' := by
  go_enter Tryd.func13, Tryd.ntmps13
  go_wp2_with fail
  refine (i_RingValid_t 5 (by omega) w).mono ?_
  rintro e w' ⟨rfl, rfl⟩
  go_wp2
  go_ret
  exact ⟨rfl, rfl⟩
theorem ba_eq (a b : ByteArray) : (a == b) = true ↔ a = b := by
  rw [Go.beq_toListBytes, ByteArray.toList_eq, ByteArray.toList_eq, beq_iff_eq]
  constructor
  · intro h
    rw [← bs_list a, ← bs_list b, h]
  · rintro rfl
    rfl
theorem ba_ne {a b : ByteArray} (h : a ≠ b) : (a == b) = false := by
  cases hh : a == b with
  | false => rfl
  | true => exact absurd ((ba_eq _ _).1 hh) h
theorem te_eq (s : ByteArray) : s.toList.isEmpty = (s == (⟨#[]⟩ : ByteArray)) := by
  rw [Go.beq_toListBytes, ByteArray.toList_eq, ByteArray.toList_eq]
  cases s.data.toList <;> rfl
theorem ba_len (s : ByteArray) : s.data.toList.length = s.size := Array.length_toList
theorem byte_at (s : ByteArray) (k : Nat) (h : k < s.size) : ∃ h2 : k < s.data.toList.length, s.data.toList[k] = s[k] := ⟨by rw [ba_len]; exact h, rfl⟩
theorem take_count {l : List UInt8} {k : Nat} (h : k < l.length) : (l.take (k + 1)).count 32 = (l.take k).count 32 + (if l[k] = 32 then 1 else 0) := by
  rw [List.take_succ_eq_append_getElem h, List.count_append]
  simp only [List.count_cons, List.count_nil, Nat.zero_add]
  congr 1
  by_cases h2 : l[k] = 32 <;> simp [h2]

set_option maxHeartbeats 2000000 in
theorem FnNeedsText_walk (A : Option Addr) (len cap : Nat) (zs : List Int) (w : World) (ht : Tab w) (hm : MaxL w) (hw : IsRow .u8 w A len cap zs) : Calls Tryd.prog 4 #[.slice A len cap] w fun e w' => e = .returned (.bool true) ∧ Below w.heap.size w w' := by
  obtain ⟨hl, hcm, hr, hn0⟩ := code_of_row hw
  clear hm
  by_cases hbig : 1048576 < len
  · clear hr hn0 hw ht
    have h1 : (1048576 : Int) < (len : Int) := by omega
    go_enter Tryd.func4, Tryd.ntmps4
    go_wp2
    go_ret
    exact ⟨rfl, Below.refl _ _⟩
  · have h1 : (1048576 : Int) < (len : Int) ↔ False := by simp; omega
    have HT := Lib.hid ht
    clear ht hbig hw
    go_enter Tryd.func4, Tryd.ntmps4
    go_wp2_with fail
    refine (s_DrawNeedsText A len cap w hl hcm hr hn0).mono ?_
    rintro e w1 ⟨a, b, c, d, rfl, d0, d1, hb⟩
    have O1 := (Below.refl w.heap.size w).trans (hb.mono (by omega))
    have m1 : w.heap.size ≤ w1.heap.size := by have := hb.size; omega
    clear hb
    go_wp2_with fail
    obtain ⟨u2, hu2⟩ : ∃ u, u = (w1.alloc (.cells #[.int .i64 (a), .int .i64 (b), .int .i64 (c), .int .i64 (d)] 25)) := ⟨_, rfl⟩
    rw [← hu2]
    have hzu2 : u2.heap.size ≤ w1.heap.size + 1 := by rw [hu2]; simp
    have hyu2 : w1.heap.size + 1 ≤ u2.heap.size := by rw [hu2]; simp
    have B2_1 : Blk u2 (w1.heap.size) 25 #[.int .i64 (a), .int .i64 (b), .int .i64 (c), .int .i64 (d)] := by rw [hu2]; have h := (Blk.new w1 25 #[.int .i64 (a), .int .i64 (b), .int .i64 (c), .int .i64 (d)]); simpa using h
    have xb1 : w.heap.size ≤ w1.heap.size := by omega
    have O2 : Below w.heap.size w u2 := by rw [hu2]; exact (O1.alloc (by first | omega | (simp; done) | (simp; omega)) _)
    have m2 : w.heap.size ≤ u2.heap.size := by omega
    clear O1
    clear hu2
    refine (i_NeedsText a b c d u2 (HT.out.below O2 (Nat.le_refl _))).mono ?_
    rintro e w3 ⟨rfl, hb⟩
    have B3_1 := (B2_1.below' hb)
    have O3 := O2.trans (hb.mono (by omega))
    have m3 : w.heap.size ≤ w3.heap.size := by have := hb.size; omega
    obtain ⟨s, hs⟩ : ∃ s, s = bs (nt [a, b, c, d]) := ⟨_, rfl⟩
    rw [← hs]
    have HS := Lib.hid hs
    clear hs
    clear B2_1 O2 hb
    have z3_1 : w1.heap.size < w3.heap.size := B3_1.lt
    have c3_1_0 : w3.cell? ⟨w1.heap.size, 0, none⟩ = some (.int .i64 (a)) := B3_1.cell 0
    have f3_1_0 : w3.frozen? ⟨w1.heap.size, 0, none⟩ = false := B3_1.frozen 0
    have c3_1_1 : w3.cell? ⟨w1.heap.size, 1, none⟩ = some (.int .i64 (b)) := B3_1.cell 1
    have f3_1_1 : w3.frozen? ⟨w1.heap.size, 1, none⟩ = false := B3_1.frozen 1
    have c3_1_2 : w3.cell? ⟨w1.heap.size, 2, none⟩ = some (.int .i64 (c)) := B3_1.cell 2
    have f3_1_2 : w3.frozen? ⟨w1.heap.size, 2, none⟩ = false := B3_1.frozen 2
    have c3_1_3 : w3.cell? ⟨w1.heap.size, 3, none⟩ = some (.int .i64 (d)) := B3_1.cell 3
    have f3_1_3 : w3.frozen? ⟨w1.heap.size, 3, none⟩ = false := B3_1.frozen 3
    go_wp2_with fail
    refine (s_NeedsText a b c d w3).mono ?_
    rintro e w4 ⟨rfl, hb⟩
    have B4_1 := (B3_1.below' hb)
    have O4 := O3.trans (hb.mono (by omega))
    have m4 : w.heap.size ≤ w4.heap.size := by have := hb.size; omega
    rw [← HS.out]
    clear B3_1 O3 hb z3_1 c3_1_0 f3_1_0 c3_1_1 f3_1_1 c3_1_2 f3_1_2 c3_1_3 f3_1_3
    have z4_1 : w1.heap.size < w4.heap.size := B4_1.lt
    have c4_1_0 : w4.cell? ⟨w1.heap.size, 0, none⟩ = some (.int .i64 (a)) := B4_1.cell 0
    have f4_1_0 : w4.frozen? ⟨w1.heap.size, 0, none⟩ = false := B4_1.frozen 0
    have c4_1_1 : w4.cell? ⟨w1.heap.size, 1, none⟩ = some (.int .i64 (b)) := B4_1.cell 1
    have f4_1_1 : w4.frozen? ⟨w1.heap.size, 1, none⟩ = false := B4_1.frozen 1
    have c4_1_2 : w4.cell? ⟨w1.heap.size, 2, none⟩ = some (.int .i64 (c)) := B4_1.cell 2
    have f4_1_2 : w4.frozen? ⟨w1.heap.size, 2, none⟩ = false := B4_1.frozen 2
    have c4_1_3 : w4.cell? ⟨w1.heap.size, 3, none⟩ = some (.int .i64 (d)) := B4_1.cell 3
    have f4_1_3 : w4.frozen? ⟨w1.heap.size, 3, none⟩ = false := B4_1.frozen 3
    by_cases hz : s = (⟨#[]⟩ : ByteArray)
    · have hz2 : s.toList.isEmpty = true := by rw [te_eq]; exact (ba_eq _ _).2 hz
      clear hz
      go_wp2_with fail
      refine (l_alive w4).mono ?_
      rintro e w' ⟨rfl, rfl⟩
      go_wp2
      go_ret
      exact ⟨rfl, O4⟩
    · have hz2 : s.toList.isEmpty = false := by rw [te_eq]; exact ba_ne hz
      have HP : Hid ((nt [a, b, c, d]).count 32 = 3 ∧ nt [a, b, c, d + 1] ≠ nt [a, b, c, d]) := nt_more d0 d1 (fun e => hz (by rw [HS.out, e]; rfl))
      have HN : Hid (s.size ≤ 4000008) := by
        show s.size ≤ 4000008
        rw [HS.out, bs_size]
        exact nt_len _ rfl
      clear hz
      go_wp2_with fail
      go_loop [5, 6] (fun q i => ∃ (k : Nat) (m : Int), k ≤ s.size ∧ i = .int .i64 k ∧ q = .int .i64 m ∧ 0 ≤ m ∧ m ≤ k ∧ Hid (m = (((s.data.toList.take k).count 32 : Nat) : Int))) (fun _ i => s.size - (intOf i).toNat)
      case atStart => exact ⟨0, 0, Nat.zero_le _, rfl, rfl, by omega, by omega, rfl⟩
      case round =>
        obtain ⟨k, m, hk, rfl, rfl, m0, m1', hcnt⟩ := hrel
        by_cases hlt : k < s.size
        · have hk64 : (s.size : Int) ≤ 9223372036854775807 := by have := HN.out; omega
          have hk0 : (0 : Int) ≤ (k : Int) := by omega
          obtain ⟨hkl, hbk⟩ := byte_at s k hlt
          have htc := take_count hkl
          rw [hbk] at htc
          by_cases hsp : s[k] = 32
          · have hsb : ((s[k].toNat : Int) == 32) = true := by rw [hsp]; rfl
            rw [if_pos hsp] at htc
            have HT2 := Lib.hid htc
            clear htc hbk hsp
            go_wp2
            go_round
            case rel => exact ⟨k + 1, m + 1, by omega, by go_num, rfl, by omega, by omega, by show _ = _; rw [HT2.out, hcnt.out]; omega⟩
            case measure => simp [intOf]; omega
          · have hsb : ((s[k].toNat : Int) == 32) = false := by
              rw [beq_eq_false_iff_ne]
              intro h
              exact hsp (UInt8.toNat_inj.1 (by show s[k].toNat = 32; omega))
            rw [if_neg hsp, Nat.add_zero] at htc
            have HT2 := Lib.hid htc
            clear htc hbk hsp
            go_wp2
            go_round
            case rel => exact ⟨k + 1, m, by omega, by go_num, rfl, by omega, by omega, by show _ = _; rw [HT2.out, hcnt.out, Nat.add_zero]⟩
            case measure => simp [intOf]; omega
        · have hm3 : m = 3 := by
            have h := hcnt.out
            rw [List.take_of_length_le (by rw [ba_len]; omega), HS.out, bs_data, HP.out.1] at h
            omega
          subst hm3
          clear hcnt m0 m1'
          go_wp2_with fail
          obtain ⟨u5, hu5⟩ : ∃ u, u = (w4.alloc (.cells #[.int .i64 (a), .int .i64 (b), .int .i64 (c), .int .i64 (d + 1)] 25)) := ⟨_, rfl⟩
          rw [← hu5]
          have hzu5 : u5.heap.size ≤ w4.heap.size + 1 := by rw [hu5]; simp
          have hyu5 : w4.heap.size + 1 ≤ u5.heap.size := by rw [hu5]; simp
          have B5_1 : Blk u5 (w1.heap.size) 25 #[.int .i64 (a), .int .i64 (b), .int .i64 (c), .int .i64 (d)] := by rw [hu5]; exact (B4_1.alloc (.cells #[.int .i64 (a), .int .i64 (b), .int .i64 (c), .int .i64 (d + 1)] 25))
          have B5_2 : Blk u5 (w4.heap.size) 25 #[.int .i64 (a), .int .i64 (b), .int .i64 (c), .int .i64 (d + 1)] := by rw [hu5]; have h := (Blk.new w4 25 #[.int .i64 (a), .int .i64 (b), .int .i64 (c), .int .i64 (d + 1)]); simpa using h
          have xb2 : w.heap.size ≤ w4.heap.size := by omega
          have y1_2 : w1.heap.size < w4.heap.size := by have := B4_1.lt; omega
          have O5 : Below w.heap.size w u5 := by rw [hu5]; exact (O4.alloc (by first | omega | (simp; done) | (simp; omega)) _)
          have m5 : w.heap.size ≤ u5.heap.size := by omega
          clear B4_1 O4 z4_1 c4_1_0 f4_1_0 c4_1_1 f4_1_1 c4_1_2 f4_1_2 c4_1_3 f4_1_3
          clear hu5
          refine (i_NeedsText a b c (d + 1) u5 (HT.out.below O5 (Nat.le_refl _))).mono ?_
          rintro e w6 ⟨rfl, hb⟩
          have B6_1 := (B5_1.below' hb)
          have B6_2 := (B5_2.below' hb)
          have O6 := O5.trans (hb.mono (by omega))
          have m6 : w.heap.size ≤ w6.heap.size := by have := hb.size; omega
          obtain ⟨t, ht2⟩ : ∃ t, t = bs (nt [a, b, c, d + 1]) := ⟨_, rfl⟩
          rw [← ht2]
          have hne : (t.toList == s.toList) = false := by
            have h1 : t ≠ s := fun e => HP.out.2 (bs_inj (by rw [← ht2, ← HS.out, e]))
            rw [← Go.beq_toListBytes]
            exact ba_ne h1
          clear ht2
          clear B5_1 B5_2 O5 hb
          have z6_1 : w1.heap.size < w6.heap.size := B6_1.lt
          have c6_1_0 : w6.cell? ⟨w1.heap.size, 0, none⟩ = some (.int .i64 (a)) := B6_1.cell 0
          have f6_1_0 : w6.frozen? ⟨w1.heap.size, 0, none⟩ = false := B6_1.frozen 0
          have c6_1_1 : w6.cell? ⟨w1.heap.size, 1, none⟩ = some (.int .i64 (b)) := B6_1.cell 1
          have f6_1_1 : w6.frozen? ⟨w1.heap.size, 1, none⟩ = false := B6_1.frozen 1
          have c6_1_2 : w6.cell? ⟨w1.heap.size, 2, none⟩ = some (.int .i64 (c)) := B6_1.cell 2
          have f6_1_2 : w6.frozen? ⟨w1.heap.size, 2, none⟩ = false := B6_1.frozen 2
          have c6_1_3 : w6.cell? ⟨w1.heap.size, 3, none⟩ = some (.int .i64 (d)) := B6_1.cell 3
          have f6_1_3 : w6.frozen? ⟨w1.heap.size, 3, none⟩ = false := B6_1.frozen 3
          have z6_2 : w4.heap.size < w6.heap.size := B6_2.lt
          have c6_2_0 : w6.cell? ⟨w4.heap.size, 0, none⟩ = some (.int .i64 (a)) := B6_2.cell 0
          have f6_2_0 : w6.frozen? ⟨w4.heap.size, 0, none⟩ = false := B6_2.frozen 0
          have c6_2_1 : w6.cell? ⟨w4.heap.size, 1, none⟩ = some (.int .i64 (b)) := B6_2.cell 1
          have f6_2_1 : w6.frozen? ⟨w4.heap.size, 1, none⟩ = false := B6_2.frozen 1
          have c6_2_2 : w6.cell? ⟨w4.heap.size, 2, none⟩ = some (.int .i64 (c)) := B6_2.cell 2
          have f6_2_2 : w6.frozen? ⟨w4.heap.size, 2, none⟩ = false := B6_2.frozen 2
          have c6_2_3 : w6.cell? ⟨w4.heap.size, 3, none⟩ = some (.int .i64 (d + 1)) := B6_2.cell 3
          have f6_2_3 : w6.frozen? ⟨w4.heap.size, 3, none⟩ = false := B6_2.frozen 3
          go_wp2
          go_ret
          exact ⟨rfl, O6⟩
end Go.Proofs.YtcmgnnfkgkibgaaDoor

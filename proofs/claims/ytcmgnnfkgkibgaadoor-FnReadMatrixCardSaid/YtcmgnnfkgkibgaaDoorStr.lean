/-
  STRINGS as lists of bytes; one byte as a string; decimal numbers (l2Number of the reference).
-/
import Derived.Test.YtcmgnnfkgkibgaaDoorSl
import Derived.Laws.BytesArg
import Derived.Laws.Concat
import Derived.Lib.ItoaMem
namespace Go.Proofs.YtcmgnnfkgkibgaaDoor
open Go.RowKit
set_option linter.unusedVariables false
set_option linter.unusedSimpArgs false

/-- the string of these bytes -/
def bs (l : List UInt8) : ByteArray := ⟨l.toArray⟩
theorem bs_app (a b : List UInt8) : bs a ++ bs b = bs (a ++ b) := by
  show ByteArray.append _ _ = _
  simp [bs, ByteArray.append, ByteArray.copySlice]
theorem bs_size (a : List UInt8) : (bs a).size = a.length := by simp [bs, ByteArray.size]
theorem bs_list (s : ByteArray) : bs s.data.toList = s := by cases s; rfl
theorem bs_data (a : List UInt8) : (bs a).data.toList = a := rfl
theorem bs_inj {a b : List UInt8} (h : bs a = bs b) : a = b := by
  have := congrArg (fun s => s.data.toList) h
  simpa [bs] using this
theorem sn_bs (xs : List Int) : strOfNums xs = bs (xs.map fun n => UInt8.ofNat n.toNat) := rfl
theorem sn_size (d : Int) : ((strOfNums [d]).size : Int) ≤ 8388608 := by rw [strOfNums_size]; simp
theorem byte_str (W : World) (d : Int) : (convert 28 9 (.slice (some ⟨W.heap.size, 0, none⟩) 1 1)).run Tryd.prog (W.alloc (.cells #[.int .u8 d] 5)) = .ok (.string (strOfNums [d])) (W.alloc (.cells #[.int .u8 d] 5)) := by
  refine run_convert_bytes_arg (P := Tryd.prog) (W.alloc (.cells #[.int .u8 d] 5)) 28 5 Tryd.underlying28 Tryd.underlying5 W.heap.size 0 1 1 [d] rfl ?_ 9 Tryd.underlying9
  intro i hi
  obtain rfl : i = 0 := by omega
  exact (Blk.new W 5 #[.int .u8 d]).cell 0
theorem dd_small {m : Int} (h0 : 0 ≤ m) (h : m ≤ 9) : Lib.decDigits m.toNat = [UInt8.ofNat (48 + m % 10).toNat] := by
  rw [Lib.decDigits, dif_pos (by omega)]
  congr 2
  omega
theorem dd_big {m : Int} (h : 9 < m) : Lib.decDigits m.toNat = Lib.decDigits (m / 10).toNat ++ [UInt8.ofNat (48 + m % 10).toNat] := by
  rw [Lib.decDigits, dif_neg (by omega)]
  have e1 : m.toNat / 10 = (m / 10).toNat := by omega
  have e2 : 48 + m.toNat % 10 = (48 + m % 10).toNat := by omega
  rw [e1, e2]
theorem dd_len (u : Nat) : 1 ≤ (Lib.decDigits u).length ∧ (Lib.decDigits u).length ≤ u + 1 := by
  induction u using Nat.strongRecOn with
  | _ u ih =>
    rw [Lib.decDigits]
    split
    · simp
    · have := ih (u / 10) (by omega)
      simp only [List.length_append, List.length_cons, List.length_nil]
      omega
/-- a number that is not negative, in decimal digits -/
def dec (n : Int) : List UInt8 := Lib.decDigits n.toNat
/-- between two rounds of l2Number -/
def Dd (n m : Int) (s : ByteArray) : Prop := ∃ r, s = bs (UInt8.ofNat (48 + m % 10).toNat :: r) ∧ Lib.decDigits n.toNat = Lib.decDigits m.toNat ++ r
theorem Dd.start (n : Int) : Dd n n (strOfNums [48 + n % 10]) := ⟨[], rfl, by simp⟩
theorem Dd.step {n m : Int} {s : ByteArray} (h : Dd n m s) (hm : 9 < m) : Dd n (m / 10) (strOfNums [48 + m / 10 % 10] ++ s) := by
  obtain ⟨r, rfl, h2⟩ := h
  refine ⟨UInt8.ofNat (48 + m % 10).toNat :: r, ?_, ?_⟩
  · rw [sn_bs, bs_app]; rfl
  · rw [h2, dd_big hm, List.append_assoc]; rfl
theorem Dd.fin {n m : Int} {s : ByteArray} (h : Dd n m s) (h0 : 0 ≤ m) (hm : m ≤ 9) : s = bs (Lib.decDigits n.toNat) := by
  obtain ⟨r, rfl, h2⟩ := h
  rw [h2, dd_small h0 hm]
  rfl
theorem Dd.size {n m : Int} {s : ByteArray} (h : Dd n m s) (hn : n ≤ 1000000) : (s.size : Int) ≤ 8388608 := by
  obtain ⟨r, rfl, h2⟩ := h
  have h3 := dd_len n.toNat
  rw [h2, List.length_append] at h3
  have h4 := dd_len m.toNat
  rw [bs_size, List.length_cons]
  omega
theorem sn_sum {s : ByteArray} (h : (s.size : Int) ≤ 8388608) (d : Int) : (9223372036854775807 < (strOfNums [d]).size + s.size) = False := by
  rw [strOfNums_size]
  simp only [List.length_cons, List.length_nil, eq_iff_iff, iff_false]
  omega
theorem ret_str {a b : ByteArray} (h : a = b) : Ending.returned (.string a) = .returned (.string b) := by rw [h]
set_option maxRecDepth 20000 in
theorem s_l2Number (n : Int) (h0 : 0 ≤ n) (h1 : n ≤ 1000000) (w : World) : Calls Tryd.prog 28 #[.int .i64 n] w fun e w' => e = .returned (.string (bs (Lib.decDigits n.toNat))) ∧ Below w.heap.size w w' := by
  have kc := byte_str
  have ks := sn_size
  go_enter Tryd.func28, Tryd.ntmps28
  go_wp2
  go_loopw [0, 3] (fun q o wr => ∃ (m : Int) (s : ByteArray), q = .int .i64 m ∧ o = .string s ∧ 0 ≤ m ∧ m ≤ n ∧ Hid (Dd n m s) ∧ Hid (Below w.heap.size w wr)) (fun q _ _ => (intOf q).toNat)
  case atStart => exact ⟨n, _, rfl, rfl, h0, Int.le_refl _, Dd.start n, (Below.refl _ _).alloc (Nat.le_refl _) _⟩
  case round =>
    obtain ⟨m, s, rfl, rfl, m0, m1, hd, hb⟩ := hrel
    have hsz := hd.out.size h1
    by_cases hm : 9 < m
    · have hss := sn_sum hsz
      clear hsz
      go_wp2
      go_roundw
      case rel => exact ⟨m / 10, _, rfl, rfl, by omega, by omega, hd.out.step hm, hb.out.alloc hb.out.size _⟩
      case measure => simp [intOf]; omega
    · have HF := Lib.hid (hd.out.fin m0 (by omega))
      clear hd
      go_wp2
      go_ret
      exact ⟨ret_str HF.out, hb.out⟩
end Go.Proofs.YtcmgnnfkgkibgaaDoor

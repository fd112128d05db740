/-
  CONTRACTS of the reader that draws the laws' inputs from a code: l20Open, pick, odd. What is drawn is known by its range alone.
-/
import Derived.Test.YtkpmnfegdhfhcaaRing
import Derived.Deep.QuietTactic
import Derived.BigQuiet
import Derived.OneCell
import Derived.Below
import Derived.Laws.OwnMore
import Derived.Deep.Draws
import Derived.Laws.Rows
import Derived.Deep.DeepCutAuto
namespace Go.Proofs.Ytkpmnfegdhfhcaa
open Go.RowKit
set_option linter.unusedVariables false
set_option linter.unusedSimpArgs false

/-- the bytes of a code that can be read: nil or a row of bytes in a block below B -/
def Bytes (w : World) (B : Nat) (A : Option Addr) (len : Nat) : Prop :=
  0 < len → ∃ b off : Nat, A = some ⟨b, off, none⟩ ∧ b < B ∧ ∀ i, i < len → ∃ v : Int, 0 ≤ v ∧ v ≤ 255 ∧ w.cell? ⟨b, off + i, none⟩ = some (.int .u8 v)
theorem Bytes.keep {w w' : World} {B : Nat} {A : Option Addr} {len : Nat} (h : Bytes w B A len) (hk : ∀ k, k < B → w'.heap[k]? = w.heap[k]?) : Bytes w' B A len := fun hl => by
  obtain ⟨b, off, e, hb, hc⟩ := h hl
  refine ⟨b, off, e, hb, fun i hi => ?_⟩
  obtain ⟨v, v0, v1, hv⟩ := hc i hi
  exact ⟨v, v0, v1, (World.cell?_of_block (w := w) (hk b hb)).trans hv⟩
theorem Bytes.mono {w : World} {B B' : Nat} {A : Option Addr} {len : Nat} (h : Bytes w B A len) (hB : B ≤ B') : Bytes w B' A len := fun hl => by
  obtain ⟨b, off, e, hb, hc⟩ := h hl
  exact ⟨b, off, e, by omega, hc⟩
theorem Bytes.less {w : World} {B : Nat} {A : Option Addr} {len len' : Nat} (h : Bytes w B A len) (hl : len' ≤ len) : Bytes w B A len' := fun h0 => by
  obtain ⟨b, off, e, hb, hc⟩ := h (by omega)
  exact ⟨b, off, e, hb, fun i hi => hc i (by omega)⟩

/-- the reader lies in block rb; at most P bytes were asked for -/
def Rd (w : World) (rb P : Nat) : Prop := ∃ (A : Option Addr) (len cap p : Nat), w.heap[rb]? = some (.cells #[.slice A len cap, .int .i64 (p : Int)] 72 (0, 0)) ∧ p ≤ P ∧ len ≤ 2000 ∧ Bytes w rb A len
theorem Rd.lt {w : World} {rb P : Nat} (h : Rd w rb P) : rb < w.heap.size := by
  obtain ⟨A, len, cap, p, hb, _⟩ := h
  rcases Nat.lt_or_ge rb w.heap.size with h | h
  · exact h
  · rw [Array.getElem?_eq_none h] at hb; cases hb
theorem Rd.mono {w : World} {rb P P' : Nat} (h : Rd w rb P) (hP : P ≤ P') : Rd w rb P' := by
  obtain ⟨A, len, cap, p, hb, hp, hr⟩ := h
  exact ⟨A, len, cap, p, hb, by omega, hr⟩
theorem Rd.keep {w w' : World} {rb P : Nat} (h : Rd w rb P) (hk : ∀ k, k ≤ rb → w'.heap[k]? = w.heap[k]?) : Rd w' rb P := by
  obtain ⟨A, len, cap, p, hb, hp, hl, hr⟩ := h
  exact ⟨A, len, cap, p, (hk rb (Nat.le_refl _)).trans hb, hp, hl, hr.keep fun k h => hk k (by omega)⟩
theorem Rd.below {w w' : World} {rb P : Nat} (h : Rd w rb P) (hb : Below w.heap.size w w') : Rd w' rb P := h.keep fun k hk => hb.block k (by have := h.lt; omega)
theorem Rd.alloc {w : World} {rb P : Nat} (h : Rd w rb P) (o : Obj) : Rd (w.alloc o) rb P := h.keep fun k hk => Below.heap_alloc w o k (by have := h.lt; omega)
theorem Rd.drew {w : World} {rb P : Nat} (h : Rd w rb P) : Rd w.drew rb P := h
theorem Rd.drewN {w : World} {rb P : Nat} (h : Rd w rb P) (n : Nat) : Rd (w.drewN n) rb P := h
theorem Rd.setCell {w : World} {rb P : Nat} (h : Rd w rb P) {a : Addr} (ha : rb < a.block) (u : Value) : Rd (w.setCell a u) rb P := h.keep fun k hk => Below.heap_setCell w a u k (by omega)

/-- only block rb, and what is new, has turned -/
def Only (rb : Nat) (w w' : World) : Prop := w.grownBy w' (some rb)
theorem Only.refl (rb : Nat) (w : World) : Only rb w w := World.grownBy.refl w _
theorem Only.trans {rb : Nat} {a b c : World} (h : Only rb a b) (k : Only rb b c) : Only rb a c :=
  ⟨k.os.trans h.os, k.tape.trans h.tape, k.output.trans h.output, Nat.le_trans h.size k.size, fun i hi hne => (k.block i (Nat.lt_of_lt_of_le hi h.size) hne).trans (h.block i hi hne)⟩
theorem Only.drew {rb : Nat} {a w : World} (h : Only rb a w) : Only rb a w.drew := ⟨h.os, h.tape, h.output, h.size, h.block⟩
theorem Only.drewN {rb : Nat} {a w : World} (h : Only rb a w) (n : Nat) : Only rb a (w.drewN n) := ⟨h.os, h.tape, h.output, h.size, h.block⟩
theorem Only.alloc {rb : Nat} {a w : World} (h : Only rb a w) (o : Obj) : Only rb a (w.alloc o) :=
  ⟨h.os, h.tape, h.output, Nat.le_trans h.size (by simp), fun i hi hne => (Below.heap_alloc w o i (Nat.lt_of_lt_of_le hi h.size)).trans (h.block i hi hne)⟩
theorem Only.setCell {rb : Nat} {a w : World} (h : Only rb a w) {p : Addr} (hp : p.block = rb ∨ a.heap.size ≤ p.block) (u : Value) : Only rb a (w.setCell p u) :=
  ⟨h.os, h.tape, h.output, by simpa [World.setCell] using h.size, fun i hi hne => (Below.heap_setCell w p u i (by
    rintro rfl
    rcases hp with hp | hp
    · exact hne (by rw [hp])
    · omega)).trans (h.block i hi hne)⟩
theorem Only.below {rb : Nat} {a b c : World} (h : Only rb a b) (k : Below b.heap.size b c) : Only rb a c := h.trans ⟨k.os, k.tape, k.output, k.size, fun i hi _ => k.block i hi⟩
theorem Only.cell {rb : Nat} {w w' : World} (h : Only rb w w') {b o : Nat} (hb : b < w.heap.size) (hne : b ≠ rb) : w'.cell? ⟨b, o, none⟩ = w.cell? ⟨b, o, none⟩ :=
  World.cell?_of_block (w := w) (a := ⟨b, o, none⟩) (h.block b hb (fun e => hne (by injection e)))
theorem Only.frozen {rb : Nat} {w w' : World} (h : Only rb w w') {b o : Nat} (hb : b < w.heap.size) (hne : b ≠ rb) : w'.frozen? ⟨b, o, none⟩ = w.frozen? ⟨b, o, none⟩ :=
  World.frozen?_of_block (w := w) (a := ⟨b, o, none⟩) (h.block b hb (fun e => hne (by injection e)))
theorem Only.toBelow {rb B : Nat} {w w' : World} (h : Only rb w w') (h1 : B ≤ rb) (h2 : B ≤ w.heap.size) : Below B w w' :=
  ⟨h.os, h.tape, h.output, h.size, fun k hk => h.block k (by omega) (fun e => by injection e; omega)⟩
theorem Rd.only {w w' : World} {rb rb' P : Nat} (h : Rd w rb P) (ho : Only rb' w w') (hr : rb < rb') : Rd w' rb P := h.keep fun k hk => ho.block k (by have := h.lt; omega) (fun e => by injection e; omega)

/-- xor of two numbers from 0 on, on int -/
theorem i64_xor_nat (a b : Nat) (ha : a < 9223372036854775808) (hb : b < 9223372036854775808) : bits .xor .i64 (a : Int) (b : Int) = ((a ^^^ b : Nat) : Int) := by
  have hx : a ^^^ b < 2 ^ 63 := Nat.xor_lt_two_pow (by omega) (by omega)
  show IntKind.i64.wrap ((BitVec.ofInt 64 (a : Int) ^^^ BitVec.ofInt 64 (b : Int)).toNat : Int) = _
  have ea : (BitVec.ofInt 64 (a : Int)).toNat = a := by rw [BitVec.ofInt_natCast, BitVec.toNat_ofNat]; exact Nat.mod_eq_of_lt (by omega)
  have eb : (BitVec.ofInt 64 (b : Int)).toNat = b := by rw [BitVec.ofInt_natCast, BitVec.toNat_ofNat]; exact Nat.mod_eq_of_lt (by omega)
  rw [BitVec.toNat_xor, ea, eb, IntKind.wrap_i64]
  omega
theorem xor_nonneg (a b : Int) (h1 : 0 ≤ a) (h2 : a < 9223372036854775808) (h3 : 0 ≤ b) (h4 : b < 9223372036854775808) : 0 ≤ bits .xor .i64 a b := by
  obtain ⟨A, rfl⟩ := Int.eq_ofNat_of_zero_le h1
  obtain ⟨B, rfl⟩ := Int.eq_ofNat_of_zero_le h3
  rw [i64_xor_nat A B (by omega) (by omega)]
  omega

/-- a number drawn: in 0..n-1, or 0 if n is not at least 1; P: how much was asked for behind it -/
def Pk (w : World) (rb P : Nat) (n : Int) (e : Ending) (w' : World) : Prop := ∃ v : Int, e = .returned (.int .i64 v) ∧ 0 ≤ v ∧ (v < n ∨ v = 0) ∧ Rd w' rb P ∧ Only rb w w'

theorem rd_step {w : World} {rb P : Nat} {A : Option Addr} {len cap p : Nat} (hb : w.heap[rb]? = some (.cells #[.slice A len cap, .int .i64 (p : Int)] 72 (0, 0))) (hp : p ≤ P) (hl : len ≤ 2000) (hr : Bytes w rb A len) (k : Nat) :
    Rd ((w.setCell ⟨rb, 1, none⟩ (.int .i64 ((p : Int) + 1))).drewN k) rb (P + 1) ∧ Only rb w ((w.setCell ⟨rb, 1, none⟩ (.int .i64 ((p : Int) + 1))).drewN k) := by
  refine ⟨Rd.drewN ⟨A, len, cap, p + 1, ?_, by omega, hl, hr.keep fun k hk => Below.heap_setCell w _ _ k (by dsimp only; omega)⟩ k, Only.drewN ((Only.refl rb w).setCell (.inl rfl) _) k⟩
  simp [World.setCell, Array.getElem?_modify, hb]

theorem pick_zero (rb P : Nat) (n : Int) (hn : n < 1) (w : World) (h : Rd w rb P) (hP : P < 1099511627776) : Calls Try.prog 31 #[.pointer (some ⟨rb, 0, none⟩), .int .i64 n] w (Pk w rb (P + 1) n) := by
  obtain ⟨A, len, cap, p, hb, hp, hl, hr⟩ := h
  have c0 : w.cell? ⟨rb, 0, none⟩ = some (.slice A len cap) := by simp [World.cell?, hb]
  have c1 : w.cell? ⟨rb, 1, none⟩ = some (.int .i64 (p : Int)) := by simp [World.cell?, hb]
  have f1 : w.frozen? ⟨rb, 1, none⟩ = false := by simp [World.frozen?, hb]
  have q1 : (p : Int) ≤ 1099511627776 := by omega
  have HS := Lib.hid (rd_step hb hp hl hr 0)
  clear hb hr hp
  go_enter Try.func31, Try.ntmps31
  go_wp2
  go_ret
  exact ⟨0, rfl, by omega, .inr rfl, HS.out.1, HS.out.2⟩

/-- the code is empty -/
theorem pick_empty (rb P : Nat) (n : Int) (hn : 1 ≤ n) (w : World) (A : Option Addr) (cap p : Nat) (hb : w.heap[rb]? = some (.cells #[.slice A 0 cap, .int .i64 (p : Int)] 72 (0, 0))) (hp : p ≤ P) (hr : Bytes w rb A 0) (hP : P < 1099511627776) :
    Calls Try.prog 31 #[.pointer (some ⟨rb, 0, none⟩), .int .i64 n] w (Pk w rb (P + 1) n) := by
  have c0 : w.cell? ⟨rb, 0, none⟩ = some (.slice A 0 cap) := by simp [World.cell?, hb]
  have c1 : w.cell? ⟨rb, 1, none⟩ = some (.int .i64 (p : Int)) := by simp [World.cell?, hb]
  have f1 : w.frozen? ⟨rb, 1, none⟩ = false := by simp [World.frozen?, hb]
  have q1 : (p : Int) ≤ 1099511627776 := by omega
  have HS := Lib.hid (rd_step hb hp (by omega) hr 0)
  clear hb hr hp
  go_enter Try.func31, Try.ntmps31
  go_wp2
  go_ret
  exact ⟨0, rfl, by omega, .inr rfl, HS.out.1, HS.out.2⟩

/-- the byte that stands next -/
theorem pick_next (rb P : Nat) (n : Int) (hn : 1 ≤ n) (w : World) (b off len cap p : Nat) (hb : w.heap[rb]? = some (.cells #[.slice (some ⟨b, off, none⟩) len cap, .int .i64 (p : Int)] 72 (0, 0))) (hp : p ≤ P) (hl : len ≤ 2000) (hr : Bytes w rb (some ⟨b, off, none⟩) len) (hP : P < 1099511627776)
    (hlt : p < len) : Calls Try.prog 31 #[.pointer (some ⟨rb, 0, none⟩), .int .i64 n] w (Pk w rb (P + 1) n) := by
  obtain ⟨b', off', e, hbr, hc⟩ := hr (by omega)
  injection e with e; injection e with e1 e2; subst e1 e2
  obtain ⟨v, v0, v1, hv⟩ := hc p hlt
  have c0 : w.cell? ⟨rb, 0, none⟩ = some (.slice (some ⟨b, off, none⟩) len cap) := by simp [World.cell?, hb]
  have c1 : w.cell? ⟨rb, 1, none⟩ = some (.int .i64 (p : Int)) := by simp [World.cell?, hb]
  have f1 : w.frozen? ⟨rb, 1, none⟩ = false := by simp [World.frozen?, hb]
  have q1 : (p : Int) ≤ 1099511627776 := by omega
  have hne : ¬ b = rb := by omega
  have hne' : ¬ rb = b := by omega
  have hle : ((len : Int) == 0) = false := by simp; omega
  have HS := Lib.hid (rd_step hb hp (by omega) hr 0)
  have m1 : 0 ≤ v % n := Int.emod_nonneg _ (by omega)
  have m2 : v % n < n := Int.emod_lt_of_pos _ (by omega)
  clear hb hr hp hc
  go_enter Try.func31, Try.ntmps31
  go_wp2
  go_ret
  exact ⟨_, rfl, m1, .inl m2, HS.out.1, HS.out.2⟩

set_option maxHeartbeats 1000000 in
/-- past the end: a mixture of two bytes -/
theorem pick_mix (rb P : Nat) (n : Int) (hn : 1 ≤ n) (w : World) (b off len cap p : Nat) (hb : w.heap[rb]? = some (.cells #[.slice (some ⟨b, off, none⟩) len cap, .int .i64 (p : Int)] 72 (0, 0))) (hp : p ≤ P) (hl : len ≤ 2000) (hr : Bytes w rb (some ⟨b, off, none⟩) len) (hP : P < 1099511627776)
    (hge : len ≤ p) (hl0 : 0 < len) : Calls Try.prog 31 #[.pointer (some ⟨rb, 0, none⟩), .int .i64 n] w (Pk w rb (P + 1) n) := by
  obtain ⟨b', off', e, hbr, hc⟩ := hr hl0
  injection e with e; injection e with e1 e2; subst e1 e2
  have hk1 : p % len < len := Nat.mod_lt _ hl0
  have hk2 : (p * 7 + 3) % len < len := Nat.mod_lt _ hl0
  obtain ⟨v1, v10, v11, hv1⟩ := hc _ hk1
  obtain ⟨v2, v20, v21, hv2⟩ := hc _ hk2
  have c0 : w.cell? ⟨rb, 0, none⟩ = some (.slice (some ⟨b, off, none⟩) len cap) := by simp [World.cell?, hb]
  have c1 : w.cell? ⟨rb, 1, none⟩ = some (.int .i64 (p : Int)) := by simp [World.cell?, hb]
  have f1 : w.frozen? ⟨rb, 1, none⟩ = false := by simp [World.frozen?, hb]
  have q1 : (p : Int) ≤ 1099511627776 := by omega
  have hne : ¬ b = rb := by omega
  have hne' : ¬ rb = b := by omega
  have hle : ((len : Int) == 0) = false := by simp; omega
  have HS := Lib.hid (rd_step hb hp (by omega) hr)
  have i3 : ((p : Int) * 7 + 3) % (len : Int) = ((p * 7 + 3) % len : Nat) := by rw [Int.natCast_emod]; congr 1
  have i0 : 0 ≤ ((p : Int) * 7 + 3) % (len : Int) := by rw [i3]; omega
  have i1 : ((p : Int) * 7 + 3) % (len : Int) < (len : Int) := by rw [i3]; omega
  have i2 : (((p : Int) * 7 + 3) % (len : Int)).toNat = (p * 7 + 3) % len := by rw [i3]; omega
  clear i3
  have d0 : 0 ≤ (p : Int) / (len : Int) := Int.ediv_nonneg (by omega) (by omega)
  have d1 : (p : Int) / (len : Int) ≤ (p : Int) := Int.ediv_le_self _ (by omega)
  have hx := xor_nonneg (v1 * 131 + v2 * 1117 + (p : Int) * 29 + (p : Int) / (len : Int) * 53) ((v1 * 131 + v2 * 1117 + (p : Int) * 29 + (p : Int) / (len : Int) * 53) / 64) (by omega) (by omega) (by omega) (by omega)
  have m1 := Int.emod_nonneg (bits .xor .i64 (v1 * 131 + v2 * 1117 + (p : Int) * 29 + (p : Int) / (len : Int) * 53) ((v1 * 131 + v2 * 1117 + (p : Int) * 29 + (p : Int) / (len : Int) * 53) / 64)) (b := n) (by omega)
  have m2 := Int.emod_lt_of_pos (bits .xor .i64 (v1 * 131 + v2 * 1117 + (p : Int) * 29 + (p : Int) / (len : Int) * 53) ((v1 * 131 + v2 * 1117 + (p : Int) * 29 + (p : Int) / (len : Int) * 53) / 64)) (b := n) (by omega)
  clear hb hr hp hc
  go_enter Try.func31, Try.ntmps31
  go_upto_region 7 with fail
  go_quiet (fail)
  go_wp2
  go_ret
  exact ⟨_, rfl, m1, .inl m2, (HS.out _).1, (HS.out _).2⟩

/-- pick: a number in 0..n-1 (0 if n is less than 1) -/
theorem s_pick (rb P : Nat) (n : Int) (w : World) (h : Rd w rb P) (hP : P < 1099511627776) : Calls Try.prog 31 #[.pointer (some ⟨rb, 0, none⟩), .int .i64 n] w (Pk w rb (P + 1) n) := by
  by_cases hn : n < 1
  · exact pick_zero rb P n hn w h hP
  · obtain ⟨A, len, cap, p, hb, hp, hl, hr⟩ := h
    rcases Nat.eq_zero_or_pos len with h0 | h0
    · subst h0
      exact pick_empty rb P n (by omega) w A cap p hb hp hr hP
    · obtain ⟨b, off, rfl, _⟩ := hr h0
      by_cases hlt : p < len
      · exact pick_next rb P n (by omega) w b off len cap p hb hp hl hr hP hlt
      · exact pick_mix rb P n (by omega) w b off len cap p hb hp hl hr hP (by omega) h0

/-- a test drawn -/
def Od (w : World) (rb P : Nat) (e : Ending) (w' : World) : Prop := ∃ v : Bool, e = .returned (.bool v) ∧ Rd w' rb P ∧ Only rb w w'
theorem s_odd (rb P : Nat) (n : Int) (hn : 0 ≤ n ∧ n ≤ 1000000) (w : World) (h : Rd w rb P) (hP : P < 1099511627776) : Calls Try.prog 45 #[.pointer (some ⟨rb, 0, none⟩), .int .i64 n] w (Od w rb (P + 1)) := by
  obtain ⟨n0, n1⟩ := hn
  by_cases hn : 0 < n
  · go_enter Try.func45, Try.ntmps45
    go_wp2_with fail
    refine (s_pick rb P n w h hP).mono ?_
    rintro e w1 ⟨v, rfl, v0, v1, hr, ho⟩
    clear h
    have HR := Lib.hid hr
    have HO := Lib.hid ho
    clear hr ho v1
    cases hv : v == n - 1
    all_goals
      go_wp2
      go_ret
      exact ⟨_, rfl, HR.out, HO.out⟩
  · have h' := Lib.hid (h.mono (Nat.le_succ P))
    clear h
    go_enter Try.func45, Try.ntmps45
    go_wp2
    go_ret
    exact ⟨_, rfl, h'.out, Only.refl _ _⟩

/-- a reader of a code: a new block -/
def Opn (w : World) (e : Ending) (w' : World) : Prop := e = .returned (.pointer (some ⟨w.heap.size, 0, none⟩)) ∧ Rd w' w.heap.size 0 ∧ Below w.heap.size w w' ∧ w.heap.size < w'.heap.size
theorem s_l20Open (A : Option Addr) (len cap : Nat) (w : World) (hl : len ≤ cap) (hm : cap ≤ maxLen) (hr : Bytes w w.heap.size A len) (h0 : A = none → cap = 0) : Calls Try.prog 20 #[.slice A len cap] w (Opn w) := by
  unfold maxLen at hm
  by_cases h : 2000 < len
  · have HB := Lib.hid (hr.less (len' := 2000) (by omega))
    obtain ⟨b, off, rfl, _⟩ := hr (by omega)
    clear hr h0
    have hcap : ¬ cap < 2000 := by omega
    go_enter Try.func20, Try.ntmps20
    go_wp2
    go_ret
    refine ⟨rfl, ⟨_, 2000, cap, 0, heap_alloc_new w _, by omega, by omega, HB.out.keep fun k hk => Below.heap_alloc w _ k hk⟩, (Below.refl _ _).alloc (Nat.le_refl _) _, by simp⟩
  · have HB := Lib.hid hr
    clear hr h0
    go_enter Try.func20, Try.ntmps20
    go_wp2
    go_ret
    refine ⟨rfl, ⟨_, len, cap, 0, heap_alloc_new w _, by omega, by omega, HB.out.keep fun k hk => Below.heap_alloc w _ k hk⟩, (Below.refl _ _).alloc (Nat.le_refl _) _, by simp⟩
end Go.Proofs.Ytkpmnfegdhfhcaa

/-
  BESTSHARED, in plain words: what a round does. Printed by gen_bsh.py.
-/
import Derived.Test.YtbpeoefnofjilaaLess
import Derived.Test.YtbpeoefnofjilaaShRows
import Derived.BigRegion
namespace Go.Proofs.Ytbpeoefnofjilaa
open Go.RowKit
set_option linter.unusedVariables false
set_option linter.unusedSimpArgs false

/-- between two rounds: the best one, its place, the seed, what was opened -/
structure BS where
  b1 : Int
  b2 : Int
  p1 : Int
  p2 : Int
  s : Int
  op : List Int
/-- the shares that tell whether the best one is less than the k-th; the seed behind -/
def bsJ (xs : List Int) (t : BS) (k : Nat) : Int := mD t.b1 t.b2 (xs.getD (k * 2) 0) (xs.getD (k * 2 + 1) 0)
def bsE1 (xs : List Int) (t : BS) (k : Nat) : Int := lk1 t.s (bsJ xs t k)
def bsE2 (xs : List Int) (t : BS) (k : Nat) : Int := lk2 lv t.s (bsJ xs t k)
def bsC (xs : List Int) (t : BS) (k : Nat) : Int := (bsJ xs t k + shf t.s) % 4096
theorem bsE_sv (xs : List Int) (t : BS) (k : Nat) : sv (bsE1 xs t k) (bsE2 xs t k) = true := lk_sv _ _ _
def sT1 (s : Int) : Int := sds (sds s 2) 4096
def bsNext (xs : List Int) (t : BS) (k : Nat) : BS :=
  { b1 := ch1 (sT1 t.s) (bsE1 xs t k) (bsE2 xs t k) t.b1 t.b2 (xs.getD (k * 2) 0) (xs.getD (k * 2 + 1) 0),
    b2 := ch2 (sT1 t.s) (bsE1 xs t k) (bsE2 xs t k) t.b1 t.b2 (xs.getD (k * 2) 0) (xs.getD (k * 2 + 1) 0),
    p1 := ch1 (sds (sT1 t.s) 5) (bsE1 xs t k) (bsE2 xs t k) t.p1 t.p2 (k : Int) 0,
    p2 := ch2 (sds (sT1 t.s) 5) (bsE1 xs t k) (bsE2 xs t k) t.p1 t.p2 (k : Int) 0,
    s := sds (sds (sT1 t.s) 5) 5,
    op := t.op ++ [bsC xs t k] ++ [chD (sT1 t.s) (bsE1 xs t k) (bsE2 xs t k), chE (sT1 t.s) t.b1 t.b2 (xs.getD (k * 2) 0) (xs.getD (k * 2 + 1) 0)] ++
      [chD (sds (sT1 t.s) 5) (bsE1 xs t k) (bsE2 xs t k), chE (sds (sT1 t.s) 5) t.p1 t.p2 (k : Int) 0] }
/-- after k rounds -/
def bsS (xs : List Int) (s : Int) : Nat → BS
  | 0 => ⟨xs.getD 0 0, xs.getD 1 0, 0, 0, s, []⟩
  | k + 1 => bsNext xs (bsS xs s k) (k + 1)
def allSv (xs : List Int) (n : Nat) : Prop := ∀ k, k < n → sv (xs.getD (k * 2) 0) (xs.getD (k * 2 + 1) 0) = true
def Seed (s : Int) : Prop := 1 ≤ s ∧ s ≤ 2147483646
theorem s1_ok {s : Int} (h : Seed s) : Seed (sT1 s) := sds_ok (sds_ok h 2) 4096
theorem bsS_ok {xs : List Int} {s : Int} (hs : Seed s) (h0 : sv (xs.getD 0 0) (xs.getD 1 0) = true) : ∀ k, sv (bsS xs s k).b1 (bsS xs s k).b2 = true ∧ sv (bsS xs s k).p1 (bsS xs s k).p2 = true ∧ Seed (bsS xs s k).s ∧ (bsS xs s k).op.length = 5 * k
  | 0 => ⟨h0, (by decide : sv 0 0 = true), hs, rfl⟩
  | k + 1 => by
    obtain ⟨h1, h2, h3, h4⟩ := bsS_ok hs h0 k
    refine ⟨ch_sv _ _ _ _ _ _ _, ch_sv _ _ _ _ _ _ _, sds_ok (sds_ok (s1_ok h3) 5) 5, ?_⟩
    simp [bsS, bsNext, h4]
    omega
/-- what is returned: the place, what was opened, the last seed -/
def BsT (p1 p2 : Int) (op : List Int) (m : Nat) (s' : Int) (w : World) (e : Ending) (w' : World) : Prop := ∃ (A : Option Addr) (c : Nat), e = .returned (.tuple #[T2 p1 p2, .slice A m c, .int .i64 s']) ∧ OS w' w.heap.size A m c op ∧ Below w.heap.size w w'
/-- between two rounds, in memory -/
def BsL (xs : List Int) (s : Int) (w : World) (g9 : Nat) (wr : World) (j m L : Nat) (A : Option Addr) (c : Nat) : Prop :=
  m = j + 1 ∧ L = 5 * j ∧ Blk wr w.heap.size 25 #[.int .i64 0, .int .i64 0] ∧ Blk wr g9 25 #[.int .i64 (bsS xs s j).b1, .int .i64 (bsS xs s j).b2] ∧ Blk wr (g9 + 1) 25 #[.int .i64 (bsS xs s j).p1, .int .i64 (bsS xs s j).p2] ∧ OS wr w.heap.size A L c (bsS xs s j).op ∧ Below w.heap.size w wr
theorem bsL_next {xs : List Int} {s : Int} {w wr : World} {g9 j m L c : Nat} {A : Option Addr} {t : BS} {x y : Int} (ht : t = bsS xs s j) (hm : m = j + 1) (hL : L = 5 * j) (ex : x = xs.getD (m * 2) 0) (ey : y = xs.getD (m * 2 + 1) 0)
    (h4 : Blk wr w.heap.size 25 #[.int .i64 0, .int .i64 0])
    (h9 : Blk wr g9 25 #[.int .i64 (ch1 (sT1 t.s) (bsE1 xs t m) (bsE2 xs t m) t.b1 t.b2 x y), .int .i64 (ch2 (sT1 t.s) (bsE1 xs t m) (bsE2 xs t m) t.b1 t.b2 x y)])
    (h10 : Blk wr (g9 + 1) 25 #[.int .i64 (ch1 (sds (sT1 t.s) 5) (bsE1 xs t m) (bsE2 xs t m) t.p1 t.p2 (m : Int) 0), .int .i64 (ch2 (sds (sT1 t.s) 5) (bsE1 xs t m) (bsE2 xs t m) t.p1 t.p2 (m : Int) 0)])
    (ho : OS wr w.heap.size A (L + 1 + 2 + 2) c (t.op ++ [bsC xs t m] ++ [chD (sT1 t.s) (bsE1 xs t m) (bsE2 xs t m), chE (sT1 t.s) t.b1 t.b2 x y] ++ [chD (sds (sT1 t.s) 5) (bsE1 xs t m) (bsE2 xs t m), chE (sds (sT1 t.s) 5) t.p1 t.p2 (m : Int) 0])) (hb : Below w.heap.size w wr) :
    BsL xs s w g9 wr (j + 1) (m + 1) (L + 1 + 2 + 2) A c := by
  subst ex ey ht hm
  exact ⟨rfl, by omega, h4, h9, h10, ho, hb⟩
theorem bs_fin {xs : List Int} {s : Int} {w W : World} {j m L c n : Nat} {A : Option Addr} {t : BS} (ht : t = bsS xs s j) (hm : m = j + 1) (hL : L = 5 * j) (hn : m = n) (ho : OS W w.heap.size A L c t.op) (hb : Below w.heap.size w W) :
    BsT (bsS xs s (n - 1)).p1 (bsS xs s (n - 1)).p2 (bsS xs s (n - 1)).op (5 * (n - 1)) (bsS xs s (n - 1)).s w (.returned (.tuple #[T2 t.p1 t.p2, .slice A L c, .int .i64 t.s])) W := by
  subst ht hn hm hL
  exact ⟨A, c, rfl, ho, hb⟩
theorem own_app {W W0 w1 : World} {base n c m g cap : Nat} {A : Option Addr} {xs ys : List Int} (hos : OS W base A n c xs) (hg : W0.grownBy w1 (Value.slice A n c).ownBlock) (h0 : Below W.heap.size W W0)
    (hown : w1.ownsRow base 3 1 (.slice (some ⟨g, 0, none⟩) (n + m) cap) (n + m) (xs.map (Value.int .i64) ++ ys.map (Value.int .i64))) : OS w1 base (some ⟨g, 0, none⟩) (n + m) cap (xs ++ ys) ∧ OnlyS A W w1 := by
  rw [ownBlock_slice] at hg
  refine ⟨?_, ⟨hg.os.trans h0.os, hg.tape.trans h0.tape, hg.output.trans h0.output, Nat.le_trans h0.size hg.size, fun i hi hne => (hg.block i (Nat.lt_of_lt_of_le hi h0.size) hne).trans (h0.block i hi)⟩⟩
  unfold OS
  rw [List.map_append]
  exact hown
end Go.Proofs.Ytbpeoefnofjilaa

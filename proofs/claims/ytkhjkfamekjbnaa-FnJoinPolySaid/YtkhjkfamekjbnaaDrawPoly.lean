/-
  CONTRACTS of the draws of polynomials and numbers of the field.
-/
import Derived.Test.YtkhjkfamekjbnaaInv
import Derived.Test.YtkhjkfamekjbnaaRdRing
namespace Go.Proofs.Ytkhjkfamekjbnaa
open Go.RowKit
set_option linter.unusedVariables false
set_option linter.unusedSimpArgs false

set_option maxHeartbeats 1000000 in
theorem s_DrawInverseOf (A : Option Addr) (len cap : Nat) (w : World) (hl : len ≤ cap) (hm : cap ≤ maxLen) (hr : Bytes w w.heap.size A len) (h0 : A = none → cap = 0) : Calls Try.prog 27 #[.slice A len cap] w (fun e w' => ∃ x : Int, e = .returned (.int .i64 x) ∧ Below w.heap.size w w') := by
  go_enter Try.func27, Try.ntmps27
  go_wp2_with fail
  refine (s_l20Open A len cap w hl hm hr h0).mono ?_
  rintro e w1 ⟨rfl, r1, b1, hlt⟩
  clear hr h0
  go_wp2_with fail
  refine (s_pick w.heap.size 0 256 w1 r1 (by omega)).mono ?_
  rintro e w2 ⟨v, rfl, v0, v1, r2, o2⟩
  have c2 : v ≤ 255 := by omega
  have hl2 := r2.lt
  have b2 := b1.trans (Only.toBelow o2 (B := w.heap.size) (by omega) (by omega))
  clear v1 r1 b1 o2
  go_wp2_with fail
  refine (s_pick w.heap.size 1 8 _ ((r2.alloc _).alloc _) (by omega)).mono ?_
  rintro e w3 ⟨q, rfl, q0, q1, r3, o3⟩
  have c3 : q < 8 := by omega
  obtain ⟨x, hx, x0, x1⟩ := getD_small [0, 0, 0, 0, 1, 2, 3, 4] 0 4 (by simp) q q0 (by simp; omega)
  obtain ⟨y, hy, y0, y1⟩ := getD_small [1 + v * 15, 4092, 0, 4093, -1] (-1) 4093 (by simp; omega) x x0 (by simp; omega)
  have cx : w3.cell? ⟨w2.heap.size + 1, q.toNat, none⟩ = some (.int .i64 x) := by
    rw [o3.cell (by simp) (by omega)]
    have := cell_new_row (w2.alloc (.cells ([1 + v * 15, 4092, 0, 4093, -1].map (Value.int .i64)).toArray 3)) [0, 0, 0, 0, 1, 2, 3, 4] 3 q.toNat
    rw [hx] at this
    simpa using this
  have cy : w3.cell? ⟨w2.heap.size, x.toNat, none⟩ = some (.int .i64 y) := by
    rw [o3.cell (by simp; omega) (by omega)]
    have := cell_new_row w2 [1 + v * 15, 4092, 0, 4093, -1] 3 x.toNat
    rw [hy] at this
    exact (World.cell?_alloc_past _ _ _ (by simp)).trans this
  have O3 := Lib.hid (((b2.alloc (by have := b2.size; omega) (.cells ([1 + v * 15, 4092, 0, 4093, -1].map (Value.int .i64)).toArray 3)).alloc (by have := b2.size; simp; omega) (.cells ([0, 0, 0, 0, 1, 2, 3, 4].map (Value.int .i64)).toArray 3)).trans (Only.toBelow o3 (B := w.heap.size) (by omega) (by have := b2.size; simp; omega)))
  clear o3 hx hy r2 r3 b2
  have hx1 : x < 5 := by omega
  go_wp2
  go_ret
  exact ⟨y, rfl, O3.out⟩

theorem OS.only {w w' : World} {base n cap rb : Nat} {A : Option Addr} {xs : List Int} (h : OS w base A n cap xs) (ho : Only rb w w') (hr : rb < base) : OS w' base A n cap xs := h.keep ho.size fun g hg hl => ho.block g hl (fun e => by injection e; have := (h.blk_lt g hg).1; omega)
/-- one number appended, a reader beside it -/
theorem own_push_rd {w wr w1 : World} {base k c g cap rb P : Nat} {A : Option Addr} {xs : List Int} {x : Int} {o : Obj} (hos : OS wr base A k c xs) (ho : Only rb w wr) (hr : Rd wr rb P) (h0 : w.heap.size ≤ base) (hrb : rb < base) (hbs : base ≤ wr.heap.size)
    (hown : w1.ownsRow base 3 1 (.slice (some ⟨g, 0, none⟩) (k + 1) cap) (k + 1) (xs.map (Value.int .i64) ++ [.int .i64 x])) (hg : (wr.alloc o).grownBy w1 (Value.slice A k c).ownBlock)
    (hat : (Value.slice A k c).ownBlock = some g ∨ g = wr.heap.size + 1) :
    OS w1 base (some ⟨g, 0, none⟩) (k + 1) cap (xs ++ [x]) ∧ Only rb w w1 ∧ Rd w1 rb P := by
  obtain ⟨h1, _, h3, _⟩ := own_push_at hos (Below.refl base wr) hbs hown hg hat
  have hne : ∀ i, i < base → some i ≠ blk A := fun i hi e => by have := (hos.blk_lt i e.symm).1; omega
  refine ⟨h1, ⟨h3.os.trans ho.os, h3.tape.trans ho.tape, h3.output.trans ho.output, Nat.le_trans ho.size h3.size, fun i hi hnr => (h3.block i (by omega) (hne i (by omega))).trans (ho.block i hi hnr)⟩, hr.keep fun i hi => h3.block i (by omega) (hne i (by omega))⟩
theorem s_oddZ (rb : Nat) (w : World) : Calls Try.prog 44 #[.pointer (some ⟨rb, 0, none⟩), .int .i64 0] w fun e w' => e = .returned (.bool false) ∧ w = w' := by
  go_enter Try.func44, Try.ntmps44
  go_wp2
  go_ret
  exact ⟨rfl, rfl⟩

/-- coefficients drawn; with n0 = 0 they are a polynomial -/
def Pw (w : World) (rb P : Nat) (n0 : Int) (e : Ending) (w' : World) : Prop := ∃ (A : Option Addr) (n c : Nat) (xs : List Int), e = .returned (.slice A n c) ∧ SI w' A n xs ∧ n ≤ 6 ∧ (n ≤ c ∧ c ≤ maxLen) ∧ (n0 = 0 → pv xs = true ∧ n ≤ 4) ∧ (∀ g, blk A = some g → w.heap.size ≤ g) ∧ Rd w' rb P ∧ Only rb w w'
set_option maxHeartbeats 2000000 in
theorem s_l20Powers (rb P : Nat) (n0 : Int) (hn : 0 ≤ n0 ∧ n0 ≤ 1000000) (w : World) (h : Rd w rb P) (hP : P < 274877906944) : Calls Try.prog 43 #[.pointer (some ⟨rb, 0, none⟩), .int .i64 n0] w (Pw w rb (P + 16) n0) := by
  obtain ⟨i0, hi, hz0, hz1, hz2⟩ := info_parts infoInt
  have hrw := h.lt
  have HZ : Hid (OS (w.alloc (.cells #[] 3)) w.heap.size (some ⟨w.heap.size, 0, none⟩) 0 0 []) := World.ownsRow_made w _ 0 (Nat.le_refl _) (by unfold maxLen; omega) rfl
  go_enter Try.func43, Try.ntmps43
  go_wp2_with fail
  refine (s_pick rb P 4 _ (h.alloc _) (by omega)).mono ?_
  rintro e w1 ⟨v, rfl, v0, v1, r1, o1⟩
  have c1 : v < 4 := by omega
  have HZ1 : Hid (OS w1 w.heap.size (some ⟨w.heap.size, 0, none⟩) 0 0 []) := HZ.out.only o1 hrw
  have HO1 : Hid (Only rb w w1) := ((Only.refl rb w).alloc _).trans o1
  have HR1 := Lib.hid r1
  clear v1 r1 o1 h HZ
  go_wp2
  go_loopw [5, 6] (fun v5 v6 wr => ∃ (j : Nat) (k : Int), 0 ≤ k ∧ 1 ≤ (j : Int) + k ∧ (j : Int) + k ≤ 4 ∧ v6 = .int .i64 k ∧ ∃ A c xs, v5 = .slice A j c ∧ Hid (OS wr w.heap.size A j c xs) ∧ Hid (xs.all fv = true) ∧ Hid (Only rb w wr) ∧ Hid (Rd wr rb (P + 1 + 3 * j))) (fun _ k _ => (intOf k).toNat)
  case atStart => exact ⟨0, 1 + v, by omega, by omega, by omega, by go_num, _, _, [], rfl, HZ1, rfl, HO1, HR1⟩
  case round =>
    obtain ⟨j, k, k0, hjk1, hjk, rfl, A, c, xs, rfl, hos, hall, hon, hrd⟩ := hrel
    by_cases hk : 0 < k
    · have hszr : w.heap.size ≤ wr.heap.size := hon.out.size
      go_wp2_with fail
      refine (s_pick rb (P + 1 + 3 * j) 256 wr hrd.out (by omega)).mono ?_
      rintro e w2 ⟨a, rfl, a0, a1, r2, o2⟩
      have ca : a ≤ 255 := by omega
      clear a1
      go_wp2_with fail
      refine (s_pick rb (P + 1 + 3 * j + 1) 9 w2 r2 (by omega)).mono ?_
      rintro e w3 ⟨b, rfl, b0, b1, r3, o3⟩
      have cb : b ≤ 8 := by omega
      clear b1
      have l3 := r3.lt
      go_wp2_with fail
      refine (s_pick rb (P + 1 + 3 * j + 1 + 1) 3 _ (r3.alloc _) (by omega)).mono ?_
      rintro e w4 ⟨q, rfl, q0, q1, r4, o4⟩
      have cq : q < 3 := by omega
      clear q1
      obtain ⟨y, hy, y0, y1⟩ := getD_small [a * 16, b, 4092] 0 4092 (by simp; omega) q q0 (by simp; omega)
      have cy : w4.cell? ⟨w3.heap.size, q.toNat, none⟩ = some (.int .i64 y) := by
        rw [o4.cell (by simp) (by omega)]
        have := cell_new_row w3 [a * 16, b, 4092] 3 q.toNat
        rw [hy] at this
        exact this
      have O4 : Hid (Only rb wr w4) := (o2.trans o3).trans (((Only.refl rb w3).alloc _).trans o4)
      have HOS4 := Lib.hid (hos.out.only O4.out hrw)
      have HON4 := Lib.hid (hon.out.trans O4.out)
      have HR4 := Lib.hid r4
      have hsz4 : w.heap.size ≤ w4.heap.size := HON4.out.size
      clear hy r2 r3 r4 o2 o3 o4 O4 hos hon hrd hszr
      go_wp2_with (at_builtin; refine wpList_append_lies _ rfl _ _ 24 rfl w.heap.size 3 i0 (.int .i64 0) 1 8 Try.underlying24 hi hz0 hz1 hz2 rfl (by decide) (.slice A j c) j _ rfl (World.ownsRow.alloc HOS4.out _) ⟨w4.heap.size, 0, none⟩ 1 1 [.int .i64 y] rfl rfl ?c1 ?c2 ?c3 ?c4 ?c5 ?c6 (w4.heap.size + 1) ?c7 ?_)
      case c1 =>
        intro j u hj
        match j, hj with
        | 0, hj => simp at hj; subst hj; simp [Addr.add]
      case c2 => intro u hu; simp at hu; subst hu; rfl
      case c3 => omega
      case c4 => unfold maxLen; omega
      case c5 => omega
      case c6 => simp; omega
      case c7 => simp
      intro g cap5 w5 hown hgrow hat hlt
      have R := own_push_rd HOS4.out HON4.out HR4.out (Nat.le_refl _) hrw hsz4 hown hgrow hat
      have F1 := Lib.hid R.1
      have F2 := Lib.hid R.2.1
      have F3 : Hid (Rd w5 rb (P + 1 + 3 * (j + 1))) := R.2.2.mono (by omega)
      have F4 : Hid ((xs ++ [y]).all fv = true) := Lib.hid (by rw [List.all_append, hall.out]; simp [fv_true ⟨y0, y1⟩])
      clear R hown hgrow hat HOS4 HON4 HR4 cy
      go_wp2
      go_roundw
      case rel => exact ⟨j + 1, k - 1, by omega, by omega, by omega, by go_num, _, _, _, rfl, F1, F4, F2, F3⟩
      case measure => simp [intOf] <;> omega
    · obtain rfl : k = 0 := by omega
      have hpv : pv xs = true := pv_mk (by rw [hos.out.len]; omega) hall.out
      have HPV := Lib.hid hpv
      have hjle : j ≤ 4 := by omega
      have hf : ∀ g, blk A = some g → w.heap.size ≤ g := fun g hg => (hos.out.blk_lt g hg).1
      have HF := Lib.hid hf
      clear hpv hf
      by_cases hn0 : n0 = 0
      · subst hn0
        go_wp2_with fail
        refine (s_oddZ rb wr).mono ?_
        rintro e w' ⟨rfl, rfl⟩
        go_wp2
        go_ret
        exact ⟨A, j, c, xs, rfl, hos.out.si, by omega, hos.out.cap_le, fun _ => ⟨HPV.out, hjle⟩, HF.out, hrd.out.mono (by omega), hon.out⟩
      · go_wp2_with fail
        refine (s_odd rb (P + 1 + 3 * j) n0 hn wr hrd.out (by omega)).mono ?_
        rintro e w2 ⟨v, rfl, r2, o2⟩
        have HOS2 := Lib.hid (hos.out.only o2 hrw)
        have HON2 := Lib.hid (hon.out.trans o2)
        clear hos hon hrd o2
        cases v
        · go_wp2
          go_ret
          exact ⟨A, j, c, xs, rfl, HOS2.out.si, by omega, HOS2.out.cap_le, fun e => absurd e hn0, HF.out, r2.mono (by omega), HON2.out⟩
        · go_wp2_with fail
          obtain ⟨u, hu⟩ : ∃ u, u = (((((w2.alloc (.cells #[] 3)).alloc (.cells #[.int .i64 4093] 3)).alloc (.cells #[.int .i64 1, .int .i64 (-1)] 3)).alloc (.cells #[.int .i64 1, .int .i64 1, .int .i64 1, .int .i64 1, .int .i64 1, .int .i64 1] 3)).alloc (.cells #[.slice (some ⟨w2.heap.size, 0, none⟩) 0 0, .slice (some ⟨w2.heap.size + 1, 0, none⟩) 1 1, .slice (some ⟨w2.heap.size + 1 + 1, 0, none⟩) 2 2, .slice (some ⟨w2.heap.size + 1 + 1 + 1, 0, none⟩) 6 6] 24)) := ⟨_, rfl⟩
          rw [← hu]
          have b1 : Blk u (w2.heap.size + 1) 3 #[.int .i64 4093] := by rw [hu]; have h := ((((Blk.new (w2.alloc (.cells #[] 3)) 3 #[.int .i64 4093]).alloc (.cells #[.int .i64 1, .int .i64 (-1)] 3)).alloc (.cells #[.int .i64 1, .int .i64 1, .int .i64 1, .int .i64 1, .int .i64 1, .int .i64 1] 3)).alloc (.cells #[.slice (some ⟨w2.heap.size, 0, none⟩) 0 0, .slice (some ⟨w2.heap.size + 1, 0, none⟩) 1 1, .slice (some ⟨w2.heap.size + 1 + 1, 0, none⟩) 2 2, .slice (some ⟨w2.heap.size + 1 + 1 + 1, 0, none⟩) 6 6] 24)); simpa using h
          have b2 : Blk u (w2.heap.size + 1 + 1) 3 #[.int .i64 1, .int .i64 (-1)] := by rw [hu]; have h := (((Blk.new ((w2.alloc (.cells #[] 3)).alloc (.cells #[.int .i64 4093] 3)) 3 #[.int .i64 1, .int .i64 (-1)]).alloc (.cells #[.int .i64 1, .int .i64 1, .int .i64 1, .int .i64 1, .int .i64 1, .int .i64 1] 3)).alloc (.cells #[.slice (some ⟨w2.heap.size, 0, none⟩) 0 0, .slice (some ⟨w2.heap.size + 1, 0, none⟩) 1 1, .slice (some ⟨w2.heap.size + 1 + 1, 0, none⟩) 2 2, .slice (some ⟨w2.heap.size + 1 + 1 + 1, 0, none⟩) 6 6] 24)); simpa using h
          have b3 : Blk u (w2.heap.size + 1 + 1 + 1) 3 #[.int .i64 1, .int .i64 1, .int .i64 1, .int .i64 1, .int .i64 1, .int .i64 1] := by rw [hu]; have h := ((Blk.new (((w2.alloc (.cells #[] 3)).alloc (.cells #[.int .i64 4093] 3)).alloc (.cells #[.int .i64 1, .int .i64 (-1)] 3)) 3 #[.int .i64 1, .int .i64 1, .int .i64 1, .int .i64 1, .int .i64 1, .int .i64 1]).alloc (.cells #[.slice (some ⟨w2.heap.size, 0, none⟩) 0 0, .slice (some ⟨w2.heap.size + 1, 0, none⟩) 1 1, .slice (some ⟨w2.heap.size + 1 + 1, 0, none⟩) 2 2, .slice (some ⟨w2.heap.size + 1 + 1 + 1, 0, none⟩) 6 6] 24)); simpa using h
          have b4 : Blk u (w2.heap.size + 1 + 1 + 1 + 1) 24 #[.slice (some ⟨w2.heap.size, 0, none⟩) 0 0, .slice (some ⟨w2.heap.size + 1, 0, none⟩) 1 1, .slice (some ⟨w2.heap.size + 1 + 1, 0, none⟩) 2 2, .slice (some ⟨w2.heap.size + 1 + 1 + 1, 0, none⟩) 6 6] := by rw [hu]; have h := (Blk.new ((((w2.alloc (.cells #[] 3)).alloc (.cells #[.int .i64 4093] 3)).alloc (.cells #[.int .i64 1, .int .i64 (-1)] 3)).alloc (.cells #[.int .i64 1, .int .i64 1, .int .i64 1, .int .i64 1, .int .i64 1, .int .i64 1] 3)) 24 #[.slice (some ⟨w2.heap.size, 0, none⟩) 0 0, .slice (some ⟨w2.heap.size + 1, 0, none⟩) 1 1, .slice (some ⟨w2.heap.size + 1 + 1, 0, none⟩) 2 2, .slice (some ⟨w2.heap.size + 1 + 1 + 1, 0, none⟩) 6 6]); simpa using h
          have ou : Only rb w u := by rw [hu]; exact ((((HON2.out.alloc _).alloc _).alloc _).alloc _).alloc _
          have ru : Rd u rb (P + 1 + 3 * j + 1) := by rw [hu]; exact ((((r2.alloc _).alloc _).alloc _).alloc _).alloc _
          have hsz : w.heap.size ≤ w2.heap.size := HON2.out.size
          clear hu HOS2 HON2 r2
          refine (s_pick rb (P + 1 + 3 * j + 1) 4 u ru (by omega)).mono ?_
          rintro e w3 ⟨q, rfl, q0, q1, r3, o3⟩
          have cq : q < 4 := by omega
          have OU := Lib.hid (ou.trans o3)
          have b1 := b1.only o3 (by omega)
          have b2 := b2.only o3 (by omega)
          have b3 := b3.only o3 (by omega)
          have b4 := b4.only o3 (by omega)
          have R3 : Hid (Rd w3 rb (P + 16)) := r3.mono (by omega)
          have s1 := Lib.hid (OS.of_blk (base := w.heap.size) (xs := [4093]) b1 (by omega) (by simp [maxLen])).si
          have s2 := Lib.hid (OS.of_blk (base := w.heap.size) (xs := [1, -1]) b2 (by omega) (by simp [maxLen])).si
          have s3 := Lib.hid (OS.of_blk (base := w.heap.size) (xs := [1, 1, 1, 1, 1, 1]) b3 (by omega) (by simp [maxLen])).si
          have d0 : w3.cell? ⟨w2.heap.size + 1 + 1 + 1 + 1, 0, none⟩ = some (.slice (some ⟨w2.heap.size, 0, none⟩) 0 0) := b4.cell 0
          have d1 : w3.cell? ⟨w2.heap.size + 1 + 1 + 1 + 1, 1, none⟩ = some (.slice (some ⟨w2.heap.size + 1, 0, none⟩) 1 1) := b4.cell 1
          have d2 : w3.cell? ⟨w2.heap.size + 1 + 1 + 1 + 1, 2, none⟩ = some (.slice (some ⟨w2.heap.size + 1 + 1, 0, none⟩) 2 2) := b4.cell 2
          have d3 : w3.cell? ⟨w2.heap.size + 1 + 1 + 1 + 1, 3, none⟩ = some (.slice (some ⟨w2.heap.size + 1 + 1 + 1, 0, none⟩) 6 6) := b4.cell 3
          have l4 := b4.lt
          clear b1 b2 b3 b4 r3 o3 ou ru q1
          have hq : q = 0 ∨ q = 1 ∨ q = 2 ∨ q = 3 := by omega
          clear q0 cq
          rcases hq with rfl | rfl | rfl | rfl
          · go_wp2
            go_ret
            exact ⟨_, _, _, [], rfl, SI.nil _ _, by omega, (by unfold maxLen; omega), fun e => absurd e hn0, (fun g hg => by injection hg with hg; dsimp only at hg; omega), R3.out, OU.out⟩
          · go_wp2
            go_ret
            exact ⟨_, _, _, _, rfl, s1.out, by simp, (by unfold maxLen; simp), fun e => absurd e hn0, (fun g hg => by injection hg with hg; dsimp only at hg; omega), R3.out, OU.out⟩
          · go_wp2
            go_ret
            exact ⟨_, _, _, _, rfl, s2.out, by simp, (by unfold maxLen; simp), fun e => absurd e hn0, (fun g hg => by injection hg with hg; dsimp only at hg; omega), R3.out, OU.out⟩
          · go_wp2
            go_ret
            exact ⟨_, _, _, _, rfl, s3.out, by simp, (by unfold maxLen; simp), fun e => absurd e hn0, (fun g hg => by injection hg with hg; dsimp only at hg; omega), R3.out, OU.out⟩

end Go.Proofs.Ytkhjkfamekjbnaa

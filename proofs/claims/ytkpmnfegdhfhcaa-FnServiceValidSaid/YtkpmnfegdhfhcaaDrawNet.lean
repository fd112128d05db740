/-
  A DRAW of a network. Printed by gen_drawnet.py.
-/
import Derived.Test.YtkpmnfegdhfhcaaDrawSv
import Derived.Deep.AppendLies
namespace Go.Proofs.Ytkpmnfegdhfhcaa
open Go.RowKit
set_option linter.unusedVariables false
set_option linter.unusedSimpArgs false

theorem s_l20Layer0 {kd : Int} (hk : 1 ≤ kd ∧ kd ≤ 3) (rb P : Nat) (rows cols : Int) (hr : 1 ≤ rows ∧ rows ≤ 5) (hc : 1 ≤ cols ∧ cols ≤ 5) (w : World) (h : Rd w rb P) (hP : P < 900000) :
    Calls Try.prog 59 #[.pointer (some ⟨rb, 0, none⟩), .int .i64 kd, .int .i64 rows, .int .i64 cols, .int .i64 0] w (DLy w rb (P + 700) kd) := by
  have : kd = 1 ∨ kd = 2 ∨ kd = 3 := by omega
  rcases this with rfl | rfl | rfl
  · exact s_l20Layer_1 rb P rows cols hr hc w h hP
  · exact s_l20Layer_2 rb P rows cols hr hc w h hP
  · exact s_l20Layer_3 rb P rows cols hr hc w h hP
/-- a network drawn -/
def DNt (w : World) (rb P : Nat) (e : Ending) (w' : World) : Prop := ∃ A n c ls F, e = .returned (.slice A n c) ∧ RI (kE mxE) w' A n c ls F ∧ Fr w' w.heap.size F ∧ n ≤ 3 ∧ (∀ l, l ∈ ls → l.2.length ≤ 3 ∧ ∀ m, m ∈ l.2 → m.v.length ≤ 26) ∧ Rd w' rb P ∧ Only rb w w'
set_option maxRecDepth 20000 in
set_option maxHeartbeats 8000000 in
theorem s_l20Net0 (rb P : Nat) (rows cols : Int) (hr : 1 ≤ rows ∧ rows ≤ 5) (hc : 1 ≤ cols ∧ cols ≤ 5) (w : World) (h : Rd w rb P) (hP : P < 100000) :
    Calls Try.prog 44 #[.pointer (some ⟨rb, 0, none⟩), .int .i64 rows, .int .i64 cols, .int .i64 0] w (DNt w rb (P + 4000)) := by
  obtain ⟨i2, hi2, hy0, hy1, hy2⟩ := info_parts infoL
  have hrw := h.lt
  have HX0 : Hid (OX (kE mxE) (w.alloc (.cells #[] 58)) w.heap.size 58 (some ⟨w.heap.size, 0, none⟩) 0 0 [] [] []) := OX.lit0 w (Nat.le_refl _) _
  obtain ⟨hr1, hr2⟩ := hr
  have HC := Lib.hid hc
  clear hc
  go_enter Try.func44, Try.ntmps44
  go_wp2_with fail
  refine (s_pick rb P 4 _ (h.alloc _) (by omega)).mono ?_
  rintro e w2 ⟨v, rfl, v0, v1, r2, o2⟩
  have c1 : v ≤ 3 := by omega
  have HX2 := Lib.hid (HX0.out.only o2 hrw)
  have HO2 : Hid (Only rb w w2) := ((Only.refl rb w).alloc _).trans o2
  have HR2 : Hid (Rd w2 rb (P + 1 + 800 * 0)) := r2
  clear v1 h r2 o2 HX0
  go_wp2
  go_loopw [1, 9, 10] (fun v1 v9 v10 wr => ∃ (j : Nat) (k rw : Int), 0 ≤ k ∧ (j : Int) + k ≤ 3 ∧ 1 ≤ rw ∧ rw ≤ 5 ∧ v10 = .int .i64 k ∧ v1 = .int .i64 rw ∧ ∃ (A : Option Addr) (c : Nat) (css : List (List Value)) (ls : List (Int × List Mx)) (F : List Nat), v9 = .slice A j c ∧ Hid (OX (kE mxE) wr w.heap.size 58 A j c css ls F) ∧ Hid (∀ l, l ∈ ls → l.2.length ≤ 3 ∧ ∀ m, m ∈ l.2 → m.v.length ≤ 26) ∧ Hid (Rd wr rb (P + 1 + 800 * j)) ∧ Hid (Only rb w wr)) (fun _ _ k _ => (intOf k).toNat)
  case atStart => exact ⟨0, v, rows, by omega, by omega, hr1, hr2, by go_num, rfl, _, _, _, _, _, rfl, HX2, (fun l hl => by cases hl), HR2, HO2⟩
  case round =>
  obtain ⟨j, k, rw', k0, hjk, hw1, hw2, rfl, rfl, A, c, css, ls, FO, rfl, hox, hls, hrd, hon⟩ := hrel
  have hwr : w.heap.size ≤ wr.heap.size := hon.out.size
  by_cases hk : 0 < k
  · clear HX2 HO2 HR2
    have hrl := hrd.out.lt
    go_wp2_with fail
    refine (s_pick rb (P + 1 + 800 * j) 4 _ (hrd.out.alloc _) (by omega)).mono ?_
    rintro e w2' ⟨q, rfl, q0, q1, r2, o2⟩
    have q2 : q < 4 := by omega
    clear q1
    obtain ⟨kd, hkd, d0, d1⟩ := getD_small [1, 1, 2, 3] 1 3 (by simp) q q0 (by simp; omega)
    have hcx : w2'.cell? ⟨wr.heap.size, q.toNat, none⟩ = some (.int .i64 kd) := by
      rw [o2.cell (by simp) (by omega)]
      have := cell_new_row wr [1, 1, 2, 3] 3 q.toNat
      rw [hkd] at this
      exact this
    have HX3 := Lib.hid ((hox.out.alloc (.cells #[.int .i64 1, .int .i64 1, .int .i64 2, .int .i64 3] 3)).only o2 hrw)
    have HO3 : Hid (Only rb w w2') := (hon.out.alloc _).trans o2
    have HR3 := Lib.hid r2
    have hz2 : wr.heap.size < w2'.heap.size := by have := o2.size; simp at this; omega
    clear r2 o2 hkd hrd hon hox
    go_wp2_with fail
    refine (s_l20Layer0 ⟨d0, d1⟩ rb (P + 1 + 800 * j + 1) rw' cols ⟨hw1, hw2⟩ HC.out w2' HR3.out (by omega)).mono ?_
    rintro e w3 ⟨A', n', c', ms, F', rfl, hri, hfr, hn', hms, hone, r3, o3⟩
    have HOX := Lib.hid (HX3.out.only o3 hrw)
    have HO : Hid (Only rb w w3) := HO3.out.trans o3
    have HRD := Lib.hid r3
    have HR := Lib.hid hri
    have HF := Lib.hid hfr
    have HMS := Lib.hid hms
    have HML := Lib.hid hri.1
    have hz3 : w2'.heap.size ≤ w3.heap.size := o3.size
    have HDD : Hid (∀ g, g ∈ F' → g ∉ FO ∧ blk A ≠ some g) := fun g hg => ⟨fun h => by have := HX3.out.lt g h; have := (hfr.2 g hg).1; omega, fun h => by have := (HX3.out.blk_lt g h).2; have := (hfr.2 g hg).1; omega⟩
    clear hri hfr hms r3 o3 HX3 HO3 HR3 hcx
    by_cases hk1 : kd = 1
    · subst hk1
      obtain ⟨m0, hm0, hm1, hm2⟩ := hone rfl
      obtain ⟨b, off, cs, F0, rfl, hbl, hc0, _, A0, p0, rfl, _⟩ := HR.out.cells hm0 3 rfl
      have e0 : w3.cell? ⟨b, off, none⟩ = some (.int .i64 m0.r) := by have := hc0 0 (by omega); simpa using this
      have hn0 : 0 < n' := by have := (List.getElem?_eq_some_iff.1 hm0).1; have := HML.out; omega
      have hn0' : (0 : Int) < (n' : Int) := by omega
      clear hc0 hm0 hone
      have HQ : Hid ((kE mxE).P w3 [.int .i64 1, .slice (some ⟨b, off, none⟩) n' c'] ((1 : Int), ms) F') := ⟨some ⟨b, off, none⟩, c', by dsimp only; rw [HML.out], by dsimp only; rw [HML.out]; exact HR.out⟩
      have HD : Hid (∀ g, g ∈ F' → g ∉ FO ∧ blk A ≠ some g) := HDD
      clear HDD
      go_wp2_with (at_builtin; refine wpList_append_lies _ rfl _ _ 38 rfl w.heap.size 58 i2 (.agg #[.int .i64 0, .slice none 0 0]) 2 32 Try.underlying38 hi2 hy0 hy1 hy2 rfl (by decide) (.slice A j c) j _ rfl (World.ownsRow.alloc (World.ownsRow.alloc HOX.out.1 _) _) ⟨w3.heap.size + 1, 0, none⟩ 1 1 [.int .i64 1, .slice (some ⟨b, off, none⟩) n' c'] rfl rfl ?c1 ?c2 ?c3 ?c4 ?c5 ?c6 (w3.heap.size + 1 + 1) ?c7 ?_)
      case c1 =>
        have h := cells_new (w3.alloc (.cells #[.int .i64 1, .slice (some ⟨b, off, none⟩) n' c'] 58)) 58 [.int .i64 1, .slice (some ⟨b, off, none⟩) n' c']
        rw [World.size_alloc] at h
        exact h
      case c2 => intro u hu; simp at hu; rcases hu with rfl | rfl <;> rfl
      case c3 => omega
      case c4 => unfold maxLen; omega
      case c5 => omega
      case c6 => simp; omega
      case c7 => simp
      intro g cap5 w5 hown hgrow hat hlt5
      have hal : Below w3.heap.size w3 (w3.alloc (.cells #[.int .i64 1, .slice (some ⟨b, off, none⟩) n' c'] 58)) := (Below.refl _ _).alloc (Nat.le_refl _) _
      obtain ⟨k1, _, k3⟩ := OX.push (HOX.out.below hal) ((kE mxE).keep _ _ _ _ _ HQ.out (fun g hg => hal.block g ((kE mxE).lt _ _ _ _ HQ.out g hg))) (((HF.out.mono (by omega)).below hal)) HD.out (Below.refl w.heap.size _) (Nat.le_refl _) (by simp; omega) hown hgrow (hat.imp id (fun h => by rw [World.size_alloc]; exact h))
      have K1 := Lib.hid k1
      have K2 : Hid (Only rb w w5) := ⟨k3.os.trans (HO.out.alloc _).os, k3.tape.trans (HO.out.alloc _).tape, k3.output.trans (HO.out.alloc _).output, Nat.le_trans (HO.out.alloc _).size k3.size, fun i hi hne => (k3.block i (by simp; omega) (fun e => by have := (HOX.out.blk_lt i e.symm).1; omega)).trans ((HO.out.alloc (.cells #[.int .i64 1, .slice (some ⟨b, off, none⟩) n' c'] 58)).block i hi hne)⟩
      have K3 : Hid (Rd w5 rb (P + 1 + 800 * (j + 1))) := ((HRD.out.alloc (.cells #[.int .i64 1, .slice (some ⟨b, off, none⟩) n' c'] 58)).keep (fun i hi => k3.block i (by simp; omega) (fun e => by have := (HOX.out.blk_lt i e.symm).1; omega))).mono (by omega)
      have K4 : Hid (∀ l, l ∈ ls ++ [((1 : Int), ms)] → l.2.length ≤ 3 ∧ ∀ m, m ∈ l.2 → m.v.length ≤ 26) := by
        intro l hl
        rcases List.mem_append.1 hl with hl | hl
        · exact hls.out l hl
        · have e : l = ((1 : Int), ms) := by simpa using hl
          subst e
          exact ⟨by dsimp only; rw [HML.out]; exact hn', HMS.out⟩
      clear k1 k3 hal hown hgrow hat HOX HQ HD HR HF HRD HO
      go_wp2
      go_roundw
      case rel => exact ⟨j + 1, k - 1, m0.r, by omega, by omega, by omega, by omega, by go_num, rfl, _, _, _, _, _, rfl, K1, K4, K3, K2⟩
      case measure => simp [intOf] <;> omega
    · have t1 : (kd == 1) = false := by simp [hk1]
      clear hone
      have HQ : Hid ((kE mxE).P w3 [.int .i64 kd, .slice A' n' c'] (kd, ms) F') := ⟨A', c', by dsimp only; rw [HML.out], by dsimp only; rw [HML.out]; exact HR.out⟩
      have HD : Hid (∀ g, g ∈ F' → g ∉ FO ∧ blk A ≠ some g) := HDD
      clear HDD
      go_wp2_with (at_builtin; refine wpList_append_lies _ rfl _ _ 38 rfl w.heap.size 58 i2 (.agg #[.int .i64 0, .slice none 0 0]) 2 32 Try.underlying38 hi2 hy0 hy1 hy2 rfl (by decide) (.slice A j c) j _ rfl (World.ownsRow.alloc (World.ownsRow.alloc HOX.out.1 _) _) ⟨w3.heap.size + 1, 0, none⟩ 1 1 [.int .i64 kd, .slice A' n' c'] rfl rfl ?c1 ?c2 ?c3 ?c4 ?c5 ?c6 (w3.heap.size + 1 + 1) ?c7 ?_)
      case c1 =>
        have h := cells_new (w3.alloc (.cells #[.int .i64 kd, .slice A' n' c'] 58)) 58 [.int .i64 kd, .slice A' n' c']
        rw [World.size_alloc] at h
        exact h
      case c2 => intro u hu; simp at hu; rcases hu with rfl | rfl <;> rfl
      case c3 => omega
      case c4 => unfold maxLen; omega
      case c5 => omega
      case c6 => simp; omega
      case c7 => simp
      intro g cap5 w5 hown hgrow hat hlt5
      have hal : Below w3.heap.size w3 (w3.alloc (.cells #[.int .i64 kd, .slice A' n' c'] 58)) := (Below.refl _ _).alloc (Nat.le_refl _) _
      obtain ⟨k1, _, k3⟩ := OX.push (HOX.out.below hal) ((kE mxE).keep _ _ _ _ _ HQ.out (fun g hg => hal.block g ((kE mxE).lt _ _ _ _ HQ.out g hg))) (((HF.out.mono (by omega)).below hal)) HD.out (Below.refl w.heap.size _) (Nat.le_refl _) (by simp; omega) hown hgrow (hat.imp id (fun h => by rw [World.size_alloc]; exact h))
      have K1 := Lib.hid k1
      have K2 : Hid (Only rb w w5) := ⟨k3.os.trans (HO.out.alloc _).os, k3.tape.trans (HO.out.alloc _).tape, k3.output.trans (HO.out.alloc _).output, Nat.le_trans (HO.out.alloc _).size k3.size, fun i hi hne => (k3.block i (by simp; omega) (fun e => by have := (HOX.out.blk_lt i e.symm).1; omega)).trans ((HO.out.alloc (.cells #[.int .i64 kd, .slice A' n' c'] 58)).block i hi hne)⟩
      have K3 : Hid (Rd w5 rb (P + 1 + 800 * (j + 1))) := ((HRD.out.alloc (.cells #[.int .i64 kd, .slice A' n' c'] 58)).keep (fun i hi => k3.block i (by simp; omega) (fun e => by have := (HOX.out.blk_lt i e.symm).1; omega))).mono (by omega)
      have K4 : Hid (∀ l, l ∈ ls ++ [(kd, ms)] → l.2.length ≤ 3 ∧ ∀ m, m ∈ l.2 → m.v.length ≤ 26) := by
        intro l hl
        rcases List.mem_append.1 hl with hl | hl
        · exact hls.out l hl
        · have e : l = (kd, ms) := by simpa using hl
          subst e
          exact ⟨by dsimp only; rw [HML.out]; exact hn', HMS.out⟩
      clear k1 k3 hal hown hgrow hat HOX HQ HD HR HF HRD HO
      go_wp2
      go_roundw
      case rel => exact ⟨j + 1, k - 1, rw', by omega, by omega, by omega, by omega, by go_num, rfl, _, _, _, _, _, rfl, K1, K4, K3, K2⟩
      case measure => simp [intOf] <;> omega
  · obtain rfl : k = 0 := by omega
    have HN : Hid (DNt w rb (P + 4000) (.returned (.slice A j c)) wr) := by
      obtain ⟨F2, h1, h2⟩ := hox.out.ri
      exact ⟨A, j, c, ls, F2, rfl, h1, h2, by omega, hls.out, hrd.out.mono (by omega), hon.out⟩
    clear HX2 HO2 HR2
    go_wp2_with fail
    refine (s_odd0 rb wr).mono ?_
    rintro e w' ⟨rfl, rfl⟩
    go_wp2
    exact bodyPost_ret (v := .slice A j c) (by simp [results, Try.results44, go_sem]) rfl HN.out
end Go.Proofs.Ytkpmnfegdhfhcaa

/-
  layerOf and LayerValid of the program. Printed by gen_layo.py.
-/
import Derived.Test.YtkpmnfegdhfhcaaLayV
namespace Go.Proofs.Ytkpmnfegdhfhcaa
open Go.RowKit
set_option linter.unusedVariables false
set_option linter.unusedSimpArgs false

/-- a layer by its kind -/
def LOv (w : World) (k : Int) (A : Option Addr) (n cap : Nat) (ms : List Mx) (v : Value) : Prop :=
  (layB k ms = false ∧ v = .nilIface) ∨
  (layB k ms = true ∧ ((k = 1 ∧ ∃ A0 p0 F0 A1 p1 F1 m0 m1, ms[0]? = some m0 ∧ ms[1]? = some m1 ∧ MF w A0 p0 m0 F0 ∧ MF w A1 p1 m1 F1 ∧ v = .iface 98 (.agg #[.int .i64 m0.r, .int .i64 m0.c, .slice A0 m0.v.length p0, .int .i64 m1.r, .int .i64 m1.c, .slice A1 m1.v.length p1])) ∨
    (k = 2 ∧ v = .iface 100 (.agg #[])) ∨ (k = 3 ∧ v = .iface 103 (.agg #[.slice A n cap]))))
def LOf (w0 : World) (k : Int) (A : Option Addr) (n cap : Nat) (ms : List Mx) (w : World) (e : Ending) (w' : World) : Prop := ∃ v, e = .returned (.tuple #[v, .bool (layB k ms)]) ∧ LOv w0 k A n cap ms v ∧ Below w.heap.size w w'
theorem lay1 {ms : List Mx} {m0 m1 : Mx} (hn : ms.length = 2) (h0 : ms[0]? = some m0) (h1 : ms[1]? = some m1) : layB 1 ms = dfB m0 m1 := by
  unfold layB
  rw [if_pos rfl, getD_of h0, getD_of h1, hn]
  rfl
theorem lay3 {ms : List Mx} (hn : ms.length = 3) : layB 3 ms = mixB ms := by
  unfold layB
  rw [if_neg (by decide), if_neg (by decide), if_pos rfl, hn]
  rfl
theorem lay2 {ms : List Mx} {n : Nat} (hn : ms.length = n) : layB 2 ms = ((n : Int) == 0) := by
  unfold layB
  rw [if_neg (by decide), if_pos rfl, hn]
  cases n <;> simp <;> omega
set_option maxRecDepth 20000 in
set_option maxHeartbeats 8000000 in
theorem i_layerOf (k : Int) (A : Option Addr) (n cap : Nat) (ms : List Mx) (F : List Nat) (w : World) (hx : RI mxE w A n cap ms F) (bs : ∀ m, m ∈ ms → mS m) (bn : n ≤ 1048576) :
    Calls Try.prog 41 #[.agg #[.int .i64 k, .slice A n cap]] w (LOf w k A n cap ms w) := by
  have HX := Lib.hid hx
  have HLN := Lib.hid hx.1
  have HS := Lib.hid bs
  clear hx bs
  go_enter Try.func41, Try.ntmps41
  go_wp2_with fail
  obtain ⟨wr, hwr⟩ : ∃ u, u = (w.alloc (.cells #[.int .i64 k, .slice A n cap] 58)) := ⟨_, rfl⟩
  rw [← hwr]
  have hblk : Blk wr w.heap.size 58 #[.int .i64 k, .slice A n cap] := by rw [hwr]; exact Blk.new _ _ _
  have hob : Hid (Below w.heap.size w wr) := by rw [hwr]; exact (Below.refl _ _).alloc (Nat.le_refl _) _
  clear hwr
  have z0 : w.heap.size < wr.heap.size := hblk.lt
  have c0 : wr.cell? ⟨w.heap.size, 0, none⟩ = some (.int .i64 k) := hblk.cell 0
  have c1 : wr.cell? ⟨w.heap.size, 1, none⟩ = some (.slice A n cap) := hblk.cell 1
  clear hblk
  by_cases k1 : k = 1
  · subst k1
    by_cases n2 : n = 2
    · subst n2
      obtain ⟨m0, hm0, hme0⟩ := get_lt (xs := ms) (j := 0) (by have := HLN.out; omega)
      have HM0 := Lib.hid hm0
      have hs0 : m0.v.length ≤ 1048576 := HS.out m0 hme0
      obtain ⟨b, off, cs, F0, rfl, hbl, hc, _, A0, p0, rfl, hq0⟩ := (HX.out.below hob.out).cells hm0 3 rfl
      have d0_0 : wr.cell? ⟨b, off, none⟩ = some (.int .i64 m0.r) := by have := hc 0 (by omega); simpa [Nat.add_assoc] using this
      have d0_1 : wr.cell? ⟨b, off + 1, none⟩ = some (.int .i64 m0.c) := by have := hc 1 (by omega); simpa [Nat.add_assoc] using this
      have d0_2 : wr.cell? ⟨b, off + 2, none⟩ = some (.slice A0 m0.v.length p0) := by have := hc 2 (by omega); simpa [Nat.add_assoc] using this
      have HQ0 := Lib.hid hq0
      clear hc hq0 hm0 hme0
      obtain ⟨m1, hm1, hme1⟩ := get_lt (xs := ms) (j := 1) (by have := HLN.out; omega)
      have HM1 := Lib.hid hm1
      have hs1 : m1.v.length ≤ 1048576 := HS.out m1 hme1
      obtain ⟨b', off', cs, F1, hA', _, hc, _, A1, p1, rfl, hq1⟩ := (HX.out.below hob.out).cells hm1 3 rfl
      injection hA' with hA'
      injection hA' with h1 h2
      subst h1 h2
      have d1_0 : wr.cell? ⟨b, off + 3, none⟩ = some (.int .i64 m1.r) := by have := hc 0 (by omega); simpa [Nat.add_assoc] using this
      have d1_1 : wr.cell? ⟨b, off + 4, none⟩ = some (.int .i64 m1.c) := by have := hc 1 (by omega); simpa [Nat.add_assoc] using this
      have d1_2 : wr.cell? ⟨b, off + 5, none⟩ = some (.slice A1 m1.v.length p1) := by have := hc 2 (by omega); simpa [Nat.add_assoc] using this
      have HQ1 := Lib.hid hq1
      clear hc hq1 hm1 hme1
      have hl := lay1 HLN.out HM0.out HM1.out
      have j1 : (1 : Int) < ((2 : Nat) : Int) := by omega
      have j0 : (0 : Int) < ((2 : Nat) : Int) := by omega
      have HD : Hid (∀ W : World, Below wr.heap.size wr W → Calls Try.prog 54 #[MV m0.r m0.c A0 m0.v.length p0, MV m1.r m1.c A1 m1.v.length p1] W fun e w' => e = .returned (.bool (dfB m0 m1)) ∧ Below W.heap.size W w') := fun W hW => i_denseFits m0.r m0.c m1.r m1.c m0.v m1.v A0 A1 _ p0 _ p1 W (HQ0.out.1.below hW) (HQ1.out.1.below hW) hs0 hs1
      cases e1 : dfB m0 m1
      · have HE : Hid (layB 1 ms = false) := hl.trans e1
        rw [e1] at HD
        clear hl e1
        go_wp2_with fail
        refine wp_region_class (fun w' => Below wr.heap.size wr w') (by kernel_rfl) (by kernel_rfl) (Below.refl _ _).drew ?_
        intro hne
        have g_c0 : ∀ x : Wd (fun w' => Below wr.heap.size wr w'), x.w.cell? ⟨w.heap.size, 0, none⟩ = some (.int .i64 1) := fun x => (x.h.cell (p := ⟨w.heap.size, 0, none⟩) z0).trans c0
        have g_c1 : ∀ x : Wd (fun w' => Below wr.heap.size wr w'), x.w.cell? ⟨w.heap.size, 1, none⟩ = some (.slice (some ⟨b, off, none⟩) 2 cap) := fun x => (x.h.cell (p := ⟨w.heap.size, 1, none⟩) z0).trans c1
        have g_d0_0 : ∀ x : Wd (fun w' => Below wr.heap.size wr w'), x.w.cell? ⟨b, off, none⟩ = some (.int .i64 m0.r) := fun x => (x.h.cell (p := ⟨b, off, none⟩) hbl).trans d0_0
        have g_d0_1 : ∀ x : Wd (fun w' => Below wr.heap.size wr w'), x.w.cell? ⟨b, off + 1, none⟩ = some (.int .i64 m0.c) := fun x => (x.h.cell (p := ⟨b, off + 1, none⟩) hbl).trans d0_1
        have g_d0_2 : ∀ x : Wd (fun w' => Below wr.heap.size wr w'), x.w.cell? ⟨b, off + 2, none⟩ = some (.slice A0 m0.v.length p0) := fun x => (x.h.cell (p := ⟨b, off + 2, none⟩) hbl).trans d0_2
        have g_d1_0 : ∀ x : Wd (fun w' => Below wr.heap.size wr w'), x.w.cell? ⟨b, off + 3, none⟩ = some (.int .i64 m1.r) := fun x => (x.h.cell (p := ⟨b, off + 3, none⟩) hbl).trans d1_0
        have g_d1_1 : ∀ x : Wd (fun w' => Below wr.heap.size wr w'), x.w.cell? ⟨b, off + 4, none⟩ = some (.int .i64 m1.c) := fun x => (x.h.cell (p := ⟨b, off + 4, none⟩) hbl).trans d1_1
        have g_d1_2 : ∀ x : Wd (fun w' => Below wr.heap.size wr w'), x.w.cell? ⟨b, off + 5, none⟩ = some (.slice A1 m1.v.length p1) := fun x => (x.h.cell (p := ⟨b, off + 5, none⟩) hbl).trans d1_2
        repeat (go_big_quiet_step (first
          | (rename_i x; go_at_call 54; with_reducible exact class_call x (Nat.le_refl _) (HD.out _ x.h))
          | fail))
        refine wpQuiet_nil ?_
        rintro wc ⟨x, hx⟩
        have hwc : Below wr.heap.size wr wc := by rw [hx]; exact x.h
        clear hx x
        have gc_c0 : wc.cell? ⟨w.heap.size, 0, none⟩ = some (.int .i64 1) := (hwc.cell (p := ⟨w.heap.size, 0, none⟩) z0).trans c0
        have gc_c1 : wc.cell? ⟨w.heap.size, 1, none⟩ = some (.slice (some ⟨b, off, none⟩) 2 cap) := (hwc.cell (p := ⟨w.heap.size, 1, none⟩) z0).trans c1
        have gc_d0_0 : wc.cell? ⟨b, off, none⟩ = some (.int .i64 m0.r) := (hwc.cell (p := ⟨b, off, none⟩) hbl).trans d0_0
        have gc_d0_1 : wc.cell? ⟨b, off + 1, none⟩ = some (.int .i64 m0.c) := (hwc.cell (p := ⟨b, off + 1, none⟩) hbl).trans d0_1
        have gc_d0_2 : wc.cell? ⟨b, off + 2, none⟩ = some (.slice A0 m0.v.length p0) := (hwc.cell (p := ⟨b, off + 2, none⟩) hbl).trans d0_2
        have gc_d1_0 : wc.cell? ⟨b, off + 3, none⟩ = some (.int .i64 m1.r) := (hwc.cell (p := ⟨b, off + 3, none⟩) hbl).trans d1_0
        have gc_d1_1 : wc.cell? ⟨b, off + 4, none⟩ = some (.int .i64 m1.c) := (hwc.cell (p := ⟨b, off + 4, none⟩) hbl).trans d1_1
        have gc_d1_2 : wc.cell? ⟨b, off + 5, none⟩ = some (.slice A1 m1.v.length p1) := (hwc.cell (p := ⟨b, off + 5, none⟩) hbl).trans d1_2
        have zc0 := Nat.lt_of_lt_of_le z0 hwc.size
        have HC : Hid (Below w.heap.size w wc) := hob.out.trans (hwc.mono hob.out.size)
        clear hwc
        go_wp2
        go_ret2
        exact ⟨.nilIface, by first | (rw [HE.out]; rfl) | (simp [HE.out]; done), .inl ⟨HE.out, rfl⟩, HC.out⟩
      · obtain ⟨bb, oo, cs, FF0, hAA, hbb, hcc, _, AA0, pp0, hcs0, hw0⟩ := HX.out.cells HM0.out 3 rfl
        subst hcs0
        have hcc2 := hcc 2 (by omega)
        injection hAA with hAA
        injection hAA with h1 h2
        subst h1 h2
        have he0 : wr.cell? ⟨b, off + 2, none⟩ = some (.slice AA0 m0.v.length pp0) := (hob.out.cell (p := ⟨b, off + 2, none⟩) hbb).trans (by simpa [Nat.add_assoc] using hcc2)
        rw [d0_2] at he0
        injection he0 with he0
        injection he0 with h1 h2 h3
        subst h1 h3
        have HW0 := Lib.hid hw0
        clear hcc hcc2 hw0 hbb
        obtain ⟨bb, oo, cs, FF1, hAA, hbb, hcc, _, AA1, pp1, hcs1, hw1⟩ := HX.out.cells HM1.out 3 rfl
        subst hcs1
        have hcc2 := hcc 2 (by omega)
        injection hAA with hAA
        injection hAA with h1 h2
        subst h1 h2
        have he1 : wr.cell? ⟨b, off + 5, none⟩ = some (.slice AA1 m1.v.length pp1) := (hob.out.cell (p := ⟨b, off + 5, none⟩) hbb).trans (by simpa [Nat.add_assoc] using hcc2)
        rw [d1_2] at he1
        injection he1 with he1
        injection he1 with h1 h2 h3
        subst h1 h3
        have HW1 := Lib.hid hw1
        clear hcc hcc2 hw1 hbb
        have HE : Hid (layB 1 ms = true) := hl.trans e1
        rw [e1] at HD
        clear hl e1
        go_wp2_with fail
        refine wp_region_class (fun w' => Below wr.heap.size wr w') (by kernel_rfl) (by kernel_rfl) (Below.refl _ _).drew ?_
        intro hne
        have g_c0 : ∀ x : Wd (fun w' => Below wr.heap.size wr w'), x.w.cell? ⟨w.heap.size, 0, none⟩ = some (.int .i64 1) := fun x => (x.h.cell (p := ⟨w.heap.size, 0, none⟩) z0).trans c0
        have g_c1 : ∀ x : Wd (fun w' => Below wr.heap.size wr w'), x.w.cell? ⟨w.heap.size, 1, none⟩ = some (.slice (some ⟨b, off, none⟩) 2 cap) := fun x => (x.h.cell (p := ⟨w.heap.size, 1, none⟩) z0).trans c1
        have g_d0_0 : ∀ x : Wd (fun w' => Below wr.heap.size wr w'), x.w.cell? ⟨b, off, none⟩ = some (.int .i64 m0.r) := fun x => (x.h.cell (p := ⟨b, off, none⟩) hbl).trans d0_0
        have g_d0_1 : ∀ x : Wd (fun w' => Below wr.heap.size wr w'), x.w.cell? ⟨b, off + 1, none⟩ = some (.int .i64 m0.c) := fun x => (x.h.cell (p := ⟨b, off + 1, none⟩) hbl).trans d0_1
        have g_d0_2 : ∀ x : Wd (fun w' => Below wr.heap.size wr w'), x.w.cell? ⟨b, off + 2, none⟩ = some (.slice A0 m0.v.length p0) := fun x => (x.h.cell (p := ⟨b, off + 2, none⟩) hbl).trans d0_2
        have g_d1_0 : ∀ x : Wd (fun w' => Below wr.heap.size wr w'), x.w.cell? ⟨b, off + 3, none⟩ = some (.int .i64 m1.r) := fun x => (x.h.cell (p := ⟨b, off + 3, none⟩) hbl).trans d1_0
        have g_d1_1 : ∀ x : Wd (fun w' => Below wr.heap.size wr w'), x.w.cell? ⟨b, off + 4, none⟩ = some (.int .i64 m1.c) := fun x => (x.h.cell (p := ⟨b, off + 4, none⟩) hbl).trans d1_1
        have g_d1_2 : ∀ x : Wd (fun w' => Below wr.heap.size wr w'), x.w.cell? ⟨b, off + 5, none⟩ = some (.slice A1 m1.v.length p1) := fun x => (x.h.cell (p := ⟨b, off + 5, none⟩) hbl).trans d1_2
        repeat (go_big_quiet_step (first
          | (rename_i x; go_at_call 54; with_reducible exact class_call x (Nat.le_refl _) (HD.out _ x.h))
          | fail))
        refine wpQuiet_nil ?_
        rintro wc ⟨x, hx⟩
        have hwc : Below wr.heap.size wr wc := by rw [hx]; exact x.h
        clear hx x
        have gc_c0 : wc.cell? ⟨w.heap.size, 0, none⟩ = some (.int .i64 1) := (hwc.cell (p := ⟨w.heap.size, 0, none⟩) z0).trans c0
        have gc_c1 : wc.cell? ⟨w.heap.size, 1, none⟩ = some (.slice (some ⟨b, off, none⟩) 2 cap) := (hwc.cell (p := ⟨w.heap.size, 1, none⟩) z0).trans c1
        have gc_d0_0 : wc.cell? ⟨b, off, none⟩ = some (.int .i64 m0.r) := (hwc.cell (p := ⟨b, off, none⟩) hbl).trans d0_0
        have gc_d0_1 : wc.cell? ⟨b, off + 1, none⟩ = some (.int .i64 m0.c) := (hwc.cell (p := ⟨b, off + 1, none⟩) hbl).trans d0_1
        have gc_d0_2 : wc.cell? ⟨b, off + 2, none⟩ = some (.slice A0 m0.v.length p0) := (hwc.cell (p := ⟨b, off + 2, none⟩) hbl).trans d0_2
        have gc_d1_0 : wc.cell? ⟨b, off + 3, none⟩ = some (.int .i64 m1.r) := (hwc.cell (p := ⟨b, off + 3, none⟩) hbl).trans d1_0
        have gc_d1_1 : wc.cell? ⟨b, off + 4, none⟩ = some (.int .i64 m1.c) := (hwc.cell (p := ⟨b, off + 4, none⟩) hbl).trans d1_1
        have gc_d1_2 : wc.cell? ⟨b, off + 5, none⟩ = some (.slice A1 m1.v.length p1) := (hwc.cell (p := ⟨b, off + 5, none⟩) hbl).trans d1_2
        have zc0 := Nat.lt_of_lt_of_le z0 hwc.size
        have HC : Hid (Below w.heap.size w wc) := hob.out.trans (hwc.mono hob.out.size)
        clear hwc
        go_wp2_with fail
        go_quiet (fail)
        go_wp2
        go_ret2
        exact ⟨_, by first | (rw [HE.out]; rfl) | rw [HE.out], .inr ⟨HE.out, .inl ⟨rfl, A0, p0, _, A1, p1, _, m0, m1, HM0.out, HM1.out, HW0.out, HW1.out, rfl⟩⟩, below_drewN HC.out _⟩
    · have HE : Hid (layB 1 ms = false) := (show layB 1 ms = false by unfold layB; rw [if_pos rfl, HLN.out]; simp [n2])
      have t1 : ((n : Int) == 2) = false := by simp; omega
      go_wp2_with fail
      refine wp_region_class (fun w' => Below wr.heap.size wr w') (by kernel_rfl) (by kernel_rfl) (Below.refl _ _).drew ?_
      intro hne
      have g_c0 : ∀ x : Wd (fun w' => Below wr.heap.size wr w'), x.w.cell? ⟨w.heap.size, 0, none⟩ = some (.int .i64 1) := fun x => (x.h.cell (p := ⟨w.heap.size, 0, none⟩) z0).trans c0
      have g_c1 : ∀ x : Wd (fun w' => Below wr.heap.size wr w'), x.w.cell? ⟨w.heap.size, 1, none⟩ = some (.slice A n cap) := fun x => (x.h.cell (p := ⟨w.heap.size, 1, none⟩) z0).trans c1
      repeat (go_big_quiet_step (first
        | fail))
      refine wpQuiet_nil ?_
      rintro wc ⟨x, hx⟩
      have hwc : Below wr.heap.size wr wc := by rw [hx]; exact x.h
      clear hx x
      have gc_c0 : wc.cell? ⟨w.heap.size, 0, none⟩ = some (.int .i64 1) := (hwc.cell (p := ⟨w.heap.size, 0, none⟩) z0).trans c0
      have gc_c1 : wc.cell? ⟨w.heap.size, 1, none⟩ = some (.slice A n cap) := (hwc.cell (p := ⟨w.heap.size, 1, none⟩) z0).trans c1
      have zc0 := Nat.lt_of_lt_of_le z0 hwc.size
      have HC : Hid (Below w.heap.size w wc) := hob.out.trans (hwc.mono hob.out.size)
      clear hwc
      go_wp2
      go_ret2
      exact ⟨.nilIface, by first | (rw [HE.out]; rfl) | (simp [HE.out]; done), .inl ⟨HE.out, rfl⟩, HC.out⟩
  have t1 : (k == 1) = false := by simp [k1]
  by_cases k2 : k = 2
  · subst k2
    clear k1
    cases n0 : ((n : Int) == 0)
    · have HE : Hid (layB 2 ms = false) := (lay2 HLN.out).trans n0
      go_wp2_with fail
      refine wp_region_class (fun w' => Below wr.heap.size wr w') (by kernel_rfl) (by kernel_rfl) (Below.refl _ _).drew ?_
      intro hne
      have g_c0 : ∀ x : Wd (fun w' => Below wr.heap.size wr w'), x.w.cell? ⟨w.heap.size, 0, none⟩ = some (.int .i64 2) := fun x => (x.h.cell (p := ⟨w.heap.size, 0, none⟩) z0).trans c0
      have g_c1 : ∀ x : Wd (fun w' => Below wr.heap.size wr w'), x.w.cell? ⟨w.heap.size, 1, none⟩ = some (.slice A n cap) := fun x => (x.h.cell (p := ⟨w.heap.size, 1, none⟩) z0).trans c1
      repeat (go_big_quiet_step (first
        | fail))
      refine wpQuiet_nil ?_
      rintro wc ⟨x, hx⟩
      have hwc : Below wr.heap.size wr wc := by rw [hx]; exact x.h
      clear hx x
      have gc_c0 : wc.cell? ⟨w.heap.size, 0, none⟩ = some (.int .i64 2) := (hwc.cell (p := ⟨w.heap.size, 0, none⟩) z0).trans c0
      have gc_c1 : wc.cell? ⟨w.heap.size, 1, none⟩ = some (.slice A n cap) := (hwc.cell (p := ⟨w.heap.size, 1, none⟩) z0).trans c1
      have zc0 := Nat.lt_of_lt_of_le z0 hwc.size
      have HC : Hid (Below w.heap.size w wc) := hob.out.trans (hwc.mono hob.out.size)
      clear hwc
      go_wp2
      go_ret2
      exact ⟨.nilIface, by first | (rw [HE.out]; rfl) | (simp [HE.out]; done), .inl ⟨HE.out, rfl⟩, HC.out⟩
    · have HE : Hid (layB 2 ms = true) := (lay2 HLN.out).trans n0
      go_wp2_with fail
      refine wp_region_class (fun w' => Below wr.heap.size wr w') (by kernel_rfl) (by kernel_rfl) (Below.refl _ _).drew ?_
      intro hne
      have g_c0 : ∀ x : Wd (fun w' => Below wr.heap.size wr w'), x.w.cell? ⟨w.heap.size, 0, none⟩ = some (.int .i64 2) := fun x => (x.h.cell (p := ⟨w.heap.size, 0, none⟩) z0).trans c0
      have g_c1 : ∀ x : Wd (fun w' => Below wr.heap.size wr w'), x.w.cell? ⟨w.heap.size, 1, none⟩ = some (.slice A n cap) := fun x => (x.h.cell (p := ⟨w.heap.size, 1, none⟩) z0).trans c1
      repeat (go_big_quiet_step (first
        | fail))
      refine wpQuiet_nil ?_
      rintro wc ⟨x, hx⟩
      have hwc : Below wr.heap.size wr wc := by rw [hx]; exact x.h
      clear hx x
      have gc_c0 : wc.cell? ⟨w.heap.size, 0, none⟩ = some (.int .i64 2) := (hwc.cell (p := ⟨w.heap.size, 0, none⟩) z0).trans c0
      have gc_c1 : wc.cell? ⟨w.heap.size, 1, none⟩ = some (.slice A n cap) := (hwc.cell (p := ⟨w.heap.size, 1, none⟩) z0).trans c1
      have zc0 := Nat.lt_of_lt_of_le z0 hwc.size
      have HC : Hid (Below w.heap.size w wc) := hob.out.trans (hwc.mono hob.out.size)
      clear hwc
      go_wp2
      go_ret2
      exact ⟨_, by first | (rw [HE.out]; rfl) | rw [HE.out], .inr ⟨HE.out, .inr (.inl ⟨rfl, rfl⟩)⟩, HC.out⟩
  have t2 : (k == 2) = false := by simp [k2]
  by_cases k3 : k = 3
  · subst k3
    clear k1 k2
    by_cases n3 : n = 3
    · subst n3
      have hl := lay3 HLN.out
      cases e1 : mixB ms
      · have HE : Hid (layB 3 ms = false) := hl.trans e1
        go_wp2_with fail
        refine wp_region_class (fun w' => Below wr.heap.size wr w') (by kernel_rfl) (by kernel_rfl) (Below.refl _ _).drew ?_
        intro hne
        have g_c0 : ∀ x : Wd (fun w' => Below wr.heap.size wr w'), x.w.cell? ⟨w.heap.size, 0, none⟩ = some (.int .i64 3) := fun x => (x.h.cell (p := ⟨w.heap.size, 0, none⟩) z0).trans c0
        have g_c1 : ∀ x : Wd (fun w' => Below wr.heap.size wr w'), x.w.cell? ⟨w.heap.size, 1, none⟩ = some (.slice A 3 cap) := fun x => (x.h.cell (p := ⟨w.heap.size, 1, none⟩) z0).trans c1
        repeat (go_big_quiet_step (first
          | fail))
        refine wpQuiet_nil ?_
        rintro wc ⟨x, hx⟩
        have hwc : Below wr.heap.size wr wc := by rw [hx]; exact x.h
        clear hx x
        have gc_c0 : wc.cell? ⟨w.heap.size, 0, none⟩ = some (.int .i64 3) := (hwc.cell (p := ⟨w.heap.size, 0, none⟩) z0).trans c0
        have gc_c1 : wc.cell? ⟨w.heap.size, 1, none⟩ = some (.slice A 3 cap) := (hwc.cell (p := ⟨w.heap.size, 1, none⟩) z0).trans c1
        have zc0 := Nat.lt_of_lt_of_le z0 hwc.size
        go_wp2_with fail
        have hmx := i_mixFits A 3 cap ms F wc (HX.out.below (hob.out.trans (hwc.mono hob.out.size))) HS.out (by omega) (by omega)
        rw [e1] at hmx
        refine hmx.mono ?_
        rintro e w2 ⟨rfl, hb⟩
        have q0 := (hb.cell (p := ⟨w.heap.size, 0, none⟩) zc0).trans gc_c0
        have q1 := (hb.cell (p := ⟨w.heap.size, 1, none⟩) zc0).trans gc_c1
        have q2 := Nat.lt_of_lt_of_le zc0 hb.size
        have HC : Hid (Below w.heap.size w w2) := hob.out.trans ((hwc.trans (hb.mono hwc.size)).mono hob.out.size)
        clear hb hwc hmx e1
        go_wp2
        go_ret2
        exact ⟨.nilIface, by first | (rw [HE.out]; rfl) | (simp [HE.out]; done), .inl ⟨HE.out, rfl⟩, HC.out⟩
      · have HE : Hid (layB 3 ms = true) := hl.trans e1
        go_wp2_with fail
        refine wp_region_class (fun w' => Below wr.heap.size wr w') (by kernel_rfl) (by kernel_rfl) (Below.refl _ _).drew ?_
        intro hne
        have g_c0 : ∀ x : Wd (fun w' => Below wr.heap.size wr w'), x.w.cell? ⟨w.heap.size, 0, none⟩ = some (.int .i64 3) := fun x => (x.h.cell (p := ⟨w.heap.size, 0, none⟩) z0).trans c0
        have g_c1 : ∀ x : Wd (fun w' => Below wr.heap.size wr w'), x.w.cell? ⟨w.heap.size, 1, none⟩ = some (.slice A 3 cap) := fun x => (x.h.cell (p := ⟨w.heap.size, 1, none⟩) z0).trans c1
        repeat (go_big_quiet_step (first
          | fail))
        refine wpQuiet_nil ?_
        rintro wc ⟨x, hx⟩
        have hwc : Below wr.heap.size wr wc := by rw [hx]; exact x.h
        clear hx x
        have gc_c0 : wc.cell? ⟨w.heap.size, 0, none⟩ = some (.int .i64 3) := (hwc.cell (p := ⟨w.heap.size, 0, none⟩) z0).trans c0
        have gc_c1 : wc.cell? ⟨w.heap.size, 1, none⟩ = some (.slice A 3 cap) := (hwc.cell (p := ⟨w.heap.size, 1, none⟩) z0).trans c1
        have zc0 := Nat.lt_of_lt_of_le z0 hwc.size
        go_wp2_with fail
        have hmx := i_mixFits A 3 cap ms F wc (HX.out.below (hob.out.trans (hwc.mono hob.out.size))) HS.out (by omega) (by omega)
        rw [e1] at hmx
        refine hmx.mono ?_
        rintro e w2 ⟨rfl, hb⟩
        have q0 := (hb.cell (p := ⟨w.heap.size, 0, none⟩) zc0).trans gc_c0
        have q1 := (hb.cell (p := ⟨w.heap.size, 1, none⟩) zc0).trans gc_c1
        have q2 := Nat.lt_of_lt_of_le zc0 hb.size
        have HC : Hid (Below w.heap.size w w2) := hob.out.trans ((hwc.trans (hb.mono hwc.size)).mono hob.out.size)
        clear hb hwc hmx e1
        go_wp2
        go_ret2
        exact ⟨_, by first | (rw [HE.out]; rfl) | rw [HE.out], .inr ⟨HE.out, .inr (.inr ⟨rfl, rfl⟩)⟩, HC.out⟩
    · have HE : Hid (layB 3 ms = false) := (show layB 3 ms = false by unfold layB; rw [if_neg (by decide), if_neg (by decide), if_pos rfl, HLN.out]; simp [n3])
      have t3 : ((n : Int) == 3) = false := by simp; omega
      go_wp2_with fail
      refine wp_region_class (fun w' => Below wr.heap.size wr w') (by kernel_rfl) (by kernel_rfl) (Below.refl _ _).drew ?_
      intro hne
      have g_c0 : ∀ x : Wd (fun w' => Below wr.heap.size wr w'), x.w.cell? ⟨w.heap.size, 0, none⟩ = some (.int .i64 3) := fun x => (x.h.cell (p := ⟨w.heap.size, 0, none⟩) z0).trans c0
      have g_c1 : ∀ x : Wd (fun w' => Below wr.heap.size wr w'), x.w.cell? ⟨w.heap.size, 1, none⟩ = some (.slice A n cap) := fun x => (x.h.cell (p := ⟨w.heap.size, 1, none⟩) z0).trans c1
      repeat (go_big_quiet_step (first
        | fail))
      refine wpQuiet_nil ?_
      rintro wc ⟨x, hx⟩
      have hwc : Below wr.heap.size wr wc := by rw [hx]; exact x.h
      clear hx x
      have gc_c0 : wc.cell? ⟨w.heap.size, 0, none⟩ = some (.int .i64 3) := (hwc.cell (p := ⟨w.heap.size, 0, none⟩) z0).trans c0
      have gc_c1 : wc.cell? ⟨w.heap.size, 1, none⟩ = some (.slice A n cap) := (hwc.cell (p := ⟨w.heap.size, 1, none⟩) z0).trans c1
      have zc0 := Nat.lt_of_lt_of_le z0 hwc.size
      have HC : Hid (Below w.heap.size w wc) := hob.out.trans (hwc.mono hob.out.size)
      clear hwc
      go_wp2
      go_ret2
      exact ⟨.nilIface, by first | (rw [HE.out]; rfl) | (simp [HE.out]; done), .inl ⟨HE.out, rfl⟩, HC.out⟩
  · have HE : Hid (layB k ms = false) := lay_o k1 k2 k3
    have t3 : (k == 3) = false := by simp [k3]
    go_wp2_with fail
    refine wp_region_class (fun w' => Below wr.heap.size wr w') (by kernel_rfl) (by kernel_rfl) (Below.refl _ _).drew ?_
    intro hne
    have g_c0 : ∀ x : Wd (fun w' => Below wr.heap.size wr w'), x.w.cell? ⟨w.heap.size, 0, none⟩ = some (.int .i64 k) := fun x => (x.h.cell (p := ⟨w.heap.size, 0, none⟩) z0).trans c0
    have g_c1 : ∀ x : Wd (fun w' => Below wr.heap.size wr w'), x.w.cell? ⟨w.heap.size, 1, none⟩ = some (.slice A n cap) := fun x => (x.h.cell (p := ⟨w.heap.size, 1, none⟩) z0).trans c1
    repeat (go_big_quiet_step (first
      | fail))
    refine wpQuiet_nil ?_
    rintro wc ⟨x, hx⟩
    have hwc : Below wr.heap.size wr wc := by rw [hx]; exact x.h
    clear hx x
    have gc_c0 : wc.cell? ⟨w.heap.size, 0, none⟩ = some (.int .i64 k) := (hwc.cell (p := ⟨w.heap.size, 0, none⟩) z0).trans c0
    have gc_c1 : wc.cell? ⟨w.heap.size, 1, none⟩ = some (.slice A n cap) := (hwc.cell (p := ⟨w.heap.size, 1, none⟩) z0).trans c1
    have zc0 := Nat.lt_of_lt_of_le z0 hwc.size
    have HC : Hid (Below w.heap.size w wc) := hob.out.trans (hwc.mono hob.out.size)
    clear hwc
    go_wp2
    go_ret2
    exact ⟨.nilIface, by first | (rw [HE.out]; rfl) | (simp [HE.out]; done), .inl ⟨HE.out, rfl⟩, HC.out⟩
theorem i_LayerValid (k : Int) (A : Option Addr) (n cap : Nat) (ms : List Mx) (F : List Nat) (w : World) (hx : RI mxE w A n cap ms F) (bs : ∀ m, m ∈ ms → mS m) (bn : n ≤ 1048576) :
    Calls Try.prog 28 #[.agg #[.int .i64 k, .slice A n cap]] w fun e w' => e = .returned (.bool (layB k ms)) ∧ Below w.heap.size w w' := by
  have HX := Lib.hid hx
  have HS := Lib.hid bs
  clear hx bs
  have HB := Lib.hid ((Below.refl w.heap.size w).alloc (Nat.le_refl _) (.cells #[.int .i64 k, .slice A n cap] 58))
  go_enter Try.func28, Try.ntmps28
  go_wp2_with fail
  refine (i_layerOf k A n cap ms F _ (HX.out.alloc _) HS.out bn).mono ?_
  rintro e w2 ⟨v, rfl, -, hb⟩
  have HC := Lib.hid (HB.out.trans (hb.mono (by simp)))
  clear hb
  go_wp2
  go_ret
  exact ⟨rfl, HC.out⟩
end Go.Proofs.Ytkpmnfegdhfhcaa

/-
  CONTRACTS: OpenMessages of both, for any round and shares. Printed by gen_openmsg2.py.
-/
import Derived.Test.YtoeffaalihndoaaOpenMsg
namespace Go.Proofs.Ytoeffaalihndoaa
open Go.RowKit
set_option linter.unusedVariables false
set_option linter.unusedSimpArgs false

/-- an empty slice -/
def Emp (w : World) (e : Ending) (w' : World) : Prop := ∃ (A : Option Addr) (c : Nat), e = .returned (.slice A 0 c) ∧ Below w.heap.size w w'
/-- nil -/
def EmpN (w : World) (e : Ending) (w' : World) : Prop := e = .returned (.slice none 0 0) ∧ Below w.heap.size w w'
theorem EmpN.emp {w : World} {e : Ending} {w' : World} (h : EmpN w e w') : Emp w e w' := ⟨none, 0, h.1, h.2⟩
theorem s_l1In_ff {x a b : Int} (h : ¬ (a ≤ x ∧ x ≤ b)) (w : World) : Calls Try.prog 57 #[.int .i64 x, .int .i64 a, .int .i64 b] w fun e w' => e = .returned (.bool false) ∧ w = w' := s_l1In_f h w
theorem s_OpenMessages_q (q : Int) (A : Option Addr) (n c : Nat) (ps : List (Int × Int)) (w : World) (hq : ¬ (0 ≤ q ∧ q ≤ 1000)) (hx : EI 2 w A n (flat ps)) :
    Calls Try.prog 53 #[.int .i64 q, .slice A n c] w (Emp w) := by
  have HW := Lib.hid ((Below.refl w.heap.size w).alloc (Nat.le_refl _) (.cells #[] 75))
  by_cases h0 : n = 0
  · subst h0
    clear hx hq
    go_enter Try.func53, Try.ntmps53
    go_wp2
    refine wp_loop_rounds 1 ?_
    rw [rounds_succ]
    go_wp2
    go_ret
    exact ⟨_, _, rfl, HW.out⟩
  · obtain ⟨b, off, rfl, hb, hc⟩ := hx.at2 (by omega)
    obtain ⟨x, ex⟩ : ∃ x, x = (flat ps).getD (0 * 2) 0 := ⟨_, rfl⟩
    obtain ⟨y, ey⟩ : ∃ y, y = (flat ps).getD (0 * 2 + 1) 0 := ⟨_, rfl⟩
    have hc0 := hc 0 (by omega)
    rw [← ex, ← ey] at hc0
    obtain ⟨cx0, cy0⟩ := hc0
    have hI : (0 : Int) < (n : Int) := by omega
    obtain ⟨u0, hu0⟩ : ∃ u, u = w.alloc (.cells #[] 75) := ⟨_, rfl⟩
    have HU : Hid (Below w.heap.size w u0) := by rw [hu0]; exact HW.out
    have cx : u0.cell? ⟨b, off + 0 * 2, none⟩ = some (.int .i64 x) := (HU.out.cell (p := ⟨b, off + 0 * 2, none⟩) hb).trans cx0
    have cy : u0.cell? ⟨b, off + 0 * 2 + 1, none⟩ = some (.int .i64 y) := (HU.out.cell (p := ⟨b, off + 0 * 2 + 1, none⟩) hb).trans cy0
    rw [Nat.zero_mul, Nat.add_zero] at cx cy
    clear hc hx ex ey cx0 cy0
    go_enter Try.func53, Try.ntmps53
    go_wp2
    rw [← hu0]
    clear hu0
    refine wp_loop_rounds 1 ?_
    rw [rounds_succ]
    cases hv : sv x y
    · have HV0 := Lib.hid hv
      clear hv
      go_wp2_with fail
      refine (s_SharedValid_f HV0.out u0).mono ?_
      rintro e w2 ⟨rfl, hb2⟩
      have HB := Lib.hid (bstep hb2 HU.out.size HU.out)
      clear hb2
      go_wp2
      go_ret
      exact ⟨_, _, rfl, HB.out.alloc HB.out.size _⟩
    · have HV0 := Lib.hid hv
      clear hv
      go_wp2_with fail
      refine (s_SharedValid_t HV0.out u0).mono ?_
      rintro e w2 ⟨rfl, hb2⟩
      have HB := Lib.hid (bstep hb2 HU.out.size HU.out)
      clear hb2
      go_wp2_with fail
      refine (s_l1In_ff hq w2).mono ?_
      rintro e w' ⟨rfl, rfl⟩
      go_wp2
      go_ret
      exact ⟨_, _, rfl, HB.out.alloc HB.out.size _⟩
set_option maxRecDepth 20000 in
set_option maxHeartbeats 4000000 in
theorem s_OpenMessages_v (q : Int) (A : Option Addr) (n c : Nat) (ps : List (Int × Int)) (w : World) (hq : 0 ≤ q ∧ q ≤ 1000) (hn : ps.length = n) (h1000 : n ≤ 1000) (hx : EI 2 w A n (flat ps)) (hsh : shv ps = false) :
    Calls Try.prog 53 #[.int .i64 q, .slice A n c] w (Emp w) := by
  have hI : ¬ (1000 : Int) < (n : Int) := by omega
  have HN := Lib.hid hn
  have HSH := Lib.hid hsh
  obtain ⟨i0, hi, hz0, hz1, hz2⟩ := info_parts infoMsg
  obtain ⟨b, off, hA⟩ : ∃ b off : Nat, Hid (0 < n → A = some ⟨b, off, none⟩ ∧ b < w.heap.size ∧ ∀ k, k < n → w.cell? ⟨b, off + k * 2, none⟩ = some (.int .i64 ((flat ps).getD (k * 2) 0)) ∧ w.cell? ⟨b, off + k * 2 + 1, none⟩ = some (.int .i64 ((flat ps).getD (k * 2 + 1) 0))) := by
    rcases Nat.eq_zero_or_pos n with h | h
    · exact ⟨0, 0, fun h' => absurd h' (by omega)⟩
    · obtain ⟨b, off, h⟩ := hx.at2 h
      exact ⟨b, off, fun _ => h⟩
  have HZ : Hid (EO 75 3 (w.alloc (.cells #[] 75)) w.heap.size (some ⟨w.heap.size, 0, none⟩) 0 0 []) := World.ownsRow_made w _ 0 (Nat.le_refl _) (by unfold maxLen; omega) rfl
  have HW := Lib.hid ((Below.refl w.heap.size w).alloc (Nat.le_refl _) (.cells #[] 75))
  clear hx hn hsh
  go_enter Try.func53, Try.ntmps53
  go_wp2
  go_loopw [5, 6] (fun v i wr => ∃ (j m : Nat) (B : Addr) (d : Nat), j ≤ n ∧ i = .int .i64 j ∧ Hid (m = 2 * j) ∧ m ≤ 2000 ∧ v = .slice (some B) m d ∧ Hid (EO 75 3 wr w.heap.size (some B) m d (oms q (ps.take j))) ∧ Hid (Below w.heap.size w wr) ∧ Hid (∀ i, i < j → sv (sX ps i) (sY ps i) = true)) (fun _ i _ => n - (intOf i).toNat)
  case atStart => exact ⟨0, 0, _, _, Nat.zero_le _, rfl, rfl, by omega, rfl, HZ, HW, fun i hi => absurd hi (by omega)⟩
  case round =>
    obtain ⟨j, m, B, d, hj, rfl, hm, hm2, rfl, hos, hbel, hok⟩ := hrel
    by_cases hlt : j < n
    · obtain ⟨rfl, hb, hc⟩ := hA.out (by omega)
      obtain ⟨x, ex⟩ : ∃ x, x = sX ps j := ⟨_, rfl⟩
      obtain ⟨y, ey⟩ : ∃ y, y = sY ps j := ⟨_, rfl⟩
      have cx : wr.cell? ⟨b, off + j * 2, none⟩ = some (.int .i64 x) := by rw [ex]; unfold sX; rw [← flat_X]; exact (hbel.out.cell (p := ⟨b, off + j * 2, none⟩) hb).trans (hc j hlt).1
      have cy : wr.cell? ⟨b, off + j * 2 + 1, none⟩ = some (.int .i64 y) := by rw [ey]; unfold sY; rw [← flat_Y]; exact (hbel.out.cell (p := ⟨b, off + j * 2 + 1, none⟩) hb).trans (hc j hlt).2
      have hvx : Hid (x = sX ps j) := ex
      have hvy : Hid (y = sY ps j) := ey
      have HOM : Hid (oms q (ps.take (j + 1)) = oms q (ps.take j) ++ [q, 1, x, q, 2, y]) := by rw [ex, ey]; exact oms_take q ps j (by rw [HN.out]; exact hlt)
      have i0' : (0 : Int) ≤ (j : Int) := by omega
      have i1' : (j : Int) < (n : Int) := by omega
      have hbr0 : b < wr.heap.size := by have := hbel.out.size; omega
      clear hc ex ey
      cases hv : sv x y
      · have HV0 := Lib.hid hv
        clear hv hok
        go_wp2_with fail
        refine (s_SharedValid_f HV0.out wr).mono ?_
        rintro e w2 ⟨rfl, hb2⟩
        have HB := Lib.hid (bstep hb2 hbel.out.size hbel.out)
        clear hb2 hos hbel
        go_wp2
        go_ret
        exact ⟨_, _, rfl, HB.out.alloc HB.out.size _⟩
      · have HV0 := Lib.hid hv
        have HOK : Hid (∀ i, i < j + 1 → sv (sX ps i) (sY ps i) = true) := fun i hi => by
          rcases (by omega : i < j ∨ i = j) with h1 | rfl
          · exact hok.out i h1
          · rw [← hvx.out, ← hvy.out]; exact HV0.out
        clear hv hok
        go_wp2_with fail
        refine (s_SharedValid_t HV0.out wr).mono ?_
        rintro e w2 ⟨rfl, hb2⟩
        have HOS := Lib.hid (hos.out.below hb2)
        have HB := Lib.hid (bstep hb2 hbel.out.size hbel.out)
        have cx := (hb2.cell (p := ⟨b, off + j * 2, none⟩) hbr0).trans cx
        have cy := (hb2.cell (p := ⟨b, off + j * 2 + 1, none⟩) hbr0).trans cy
        clear hb2 hos hbel
        have hbr : b < w2.heap.size := by have := HB.out.size; omega
        have hszr : w.heap.size ≤ w2.heap.size := HB.out.size
        have ab : (Value.slice (some B) m d).ownBlock ≠ some b := by
          rw [ownBlock_slice]
          intro h
          have := (HOS.out.blk_lt b h).1
          omega
        have hc63 : m + 2 ≤ maxLen := by unfold maxLen; omega
        go_wp2_with fail
        refine (s_l1In_tt hq w2).mono ?_
        rintro e w' ⟨rfl, rfl⟩
        go_wp2_with fail
        go_region_held3 (fun w' => w'.cell? ⟨b, off + j * 2, none⟩ = some (.int .i64 x) ∧ w'.cell? ⟨b, off + j * 2 + 1, none⟩ = some (.int .i64 y))
          (first
            | go_keep
            | assumption
            | exact ⟨cx, cy⟩
            | (go_split_ands
               refine ⟨?_, ?_⟩
               · (rw [hgrow.cell_far _ (by simp; omega) (Ne.symm ab)]; assumption)
               · (rw [hgrow.cell_far _ (by simp; omega) (Ne.symm ab)]; assumption)))
          ((refine step_append_lies _ (by rfl) _ _ _ (by rfl) w.heap.size 75 i0 _ 3 24 Try.underlying40 hi hz0 hz1 hz2 rfl (by omega) (.slice (some B) m d) m _ (by rfl) ((World.ownsRow.alloc HOS.out _).drew)
                ⟨w2.heap.size, 0, none⟩ 2 2 [.int .i64 q, .int .i64 1, .int .i64 x, .int .i64 q, .int .i64 2, .int .i64 y] (by rfl) (by rfl) (World.news_of_block (cs := #[.int .i64 q, .int .i64 1, .int .i64 x, .int .i64 q, .int .i64 2, .int .i64 y]) (t := 75) (fr := (0, 0)) (heap_alloc_new w2 _)) (by simp [Value.oneCell'])
                (by omega) hc63 (by omega) (by simp; omega) (w2.heap.size + 1) (by simp) ?_; intro gg cap w9 hown1 hgrow hat hlt1))
        all_goals
          have R := Lib.hid (EO.push (w := w) (m := 2) (ys := [q, 1, x, q, 2, y]) HOS.out HB.out hszr hown1 (⟨hgrow.os, hgrow.tape, hgrow.output, hgrow.size, hgrow.block⟩ : (w2.alloc (.cells #[.int .i64 q, .int .i64 1, .int .i64 x, .int .i64 q, .int .i64 2, .int .i64 y] 75)).grownBy w9 (Value.slice (some B) m d).ownBlock))
          clear hown1 hgrow hat
          go_wp2
          go_roundw
          case rel =>
            obtain ⟨A', c', hv', ho', hb'⟩ := R.out
            injection hv' with e1 e2 e3
            subst e1 e3
            refine ⟨j + 1, m + 2, _, _, by omega, by go_num, Lib.hid (by have := hm.out; omega), by have := hm.out; omega, rfl, ?_, hb', HOK⟩
            rw [HOM.out]
            exact ho'
          case measure => simp [intOf] <;> omega
    · have hjn : j = n := by omega
      subst hjn
      exfalso
      have := shv_mk (fun k hk => hok.out k (by rw [← HN.out]; exact hk))
      have h2 := HSH.out
      rw [this] at h2
      cases h2
theorem mk_mroom (h : Nat) (hn : h ≤ 8796093022208) (w : World) : (Instr.makeSlice 40 (.int .i64 0) (.int .i64 (h : Int))).run Try.prog w = .ok (.slice (some ⟨w.heap.size, 0, none⟩) 0 h) (w.alloc (ZM h)) := by
  obtain ⟨i, hi, hz, h1, h8⟩ := info_parts infoMsg
  have e := run_make (P := Try.prog) w 40 75 i _ Try.underlying40 hi hz .i64 .i64 (0 : Int) (h : Int) (by omega) (by omega) (by rw [h8]; omega) (by omega)
  rw [e, h1]
  simp only [Int.toNat_natCast, Int.toNat_zero]
  rfl
theorem EO.mroom (w : World) (h : Nat) (hn : h ≤ 8796093022208) : EO 75 3 (w.alloc (ZM h)) w.heap.size (some ⟨w.heap.size, 0, none⟩) 0 h [] := World.ownsRow_made w _ h (Nat.le_refl _) (by unfold maxLen; omega) (by simp [size_madeCells])
theorem i_OpenMessages_q (q : Int) (A : Option Addr) (n c : Nat) (w : World) (hq : ¬ (0 ≤ q ∧ q ≤ 1000)) :
    Calls Try.prog 51 #[.int .i64 q, .slice A n c] w (EmpN w) := by
  go_enter Try.func51, Try.ntmps51
  go_wp2_with fail
  refine (i_roundValid_f hq w).mono ?_
  rintro e w' ⟨rfl, rfl⟩
  go_wp2
  go_ret
  exact ⟨rfl, Below.refl _ _⟩
/-- what OpenMessages hands back, for a valid round -/
def OMR (q : Int) (n : Nat) (ps : List (Int × Int)) (w : World) (e : Ending) (w' : World) : Prop := (shv ps = true → NewM (2 * n) (oms q ps) w e w') ∧ (shv ps = false → EmpN w e w')
set_option maxRecDepth 20000 in
set_option maxHeartbeats 4000000 in
theorem i_OpenMessages_r (q : Int) (A : Option Addr) (n c : Nat) (ps : List (Int × Int)) (w : World) (hq : 0 ≤ q ∧ q ≤ 1000) (hn : ps.length = n) (h1000 : n ≤ 1000) (hx : EI 2 w A n (flat ps)) :
    Calls Try.prog 51 #[.int .i64 q, .slice A n c] w (OMR q n ps w) := by
  have hI : ¬ (1000 : Int) < (n : Int) := by omega
  have HN := Lib.hid hn
  obtain ⟨i0, hi, hz0, hz1, hz2⟩ := info_parts infoMsg
  obtain ⟨n2, hn2⟩ : ∃ n2, n2 = 2 * n := ⟨_, rfl⟩
  have hw2 : IntKind.i64.wrap (2 * (n : Int)) = (n2 : Int) := by rw [IntWalk.i64_in _ (by omega)]; omega
  have hmk := fun W => mk_mroom n2 (by omega) W
  have HZ := Lib.hid (EO.mroom w n2 (by omega))
  have HW := Lib.hid ((Below.refl w.heap.size w).alloc (Nat.le_refl _) (ZM n2))
  have hn20 : (0 : Int) ≤ (n2 : Int) := by omega
  obtain ⟨b, off, hA⟩ : ∃ b off : Nat, Hid (0 < n → A = some ⟨b, off, none⟩ ∧ b < w.heap.size ∧ ∀ k, k < n → w.cell? ⟨b, off + k * 2, none⟩ = some (.int .i64 ((flat ps).getD (k * 2) 0)) ∧ w.cell? ⟨b, off + k * 2 + 1, none⟩ = some (.int .i64 ((flat ps).getD (k * 2 + 1) 0))) := by
    rcases Nat.eq_zero_or_pos n with h | h
    · exact ⟨0, 0, fun h' => absurd h' (by omega)⟩
    · obtain ⟨b, off, h⟩ := hx.at2 h
      exact ⟨b, off, fun _ => h⟩
  clear hx hn hn2
  go_enter Try.func51, Try.ntmps51
  go_wp2_with fail
  refine (i_roundValid_t hq w).mono ?_
  rintro e w' ⟨rfl, rfl⟩
  go_wp2
  clear hmk hw2
  go_loopw [5, 22] (fun v i wr => ∃ (j m : Nat) (B : Addr) (d : Nat), j ≤ n ∧ i = .int .i64 j ∧ Hid (m = 2 * j) ∧ m ≤ 2000 ∧ v = .slice (some B) m d ∧ Hid (EO 75 3 wr w.heap.size (some B) m d (oms q (ps.take j))) ∧ Hid (Below w.heap.size w wr) ∧ Hid (∀ i, i < j → sv (sX ps i) (sY ps i) = true)) (fun _ i _ => n - (intOf i).toNat)
  case atStart => exact ⟨0, 0, _, _, Nat.zero_le _, rfl, rfl, by omega, rfl, HZ, HW, fun i hi => absurd hi (by omega)⟩
  case round =>
    obtain ⟨j, m, B, d, hj, rfl, hm, hm2, rfl, hos, hbel, hok⟩ := hrel
    obtain ⟨wo, rfl⟩ : ∃ u : World, u = wr := ⟨_, rfl⟩
    by_cases hlt : j < n
    · obtain ⟨rfl, hb, hc⟩ := hA.out (by omega)
      obtain ⟨x, ex⟩ : ∃ x, x = sX ps j := ⟨_, rfl⟩
      obtain ⟨y, ey⟩ : ∃ y, y = sY ps j := ⟨_, rfl⟩
      have cx : wo.cell? ⟨b, off + j * 2, none⟩ = some (.int .i64 x) := by rw [ex]; unfold sX; rw [← flat_X]; exact (hbel.out.cell (p := ⟨b, off + j * 2, none⟩) hb).trans (hc j hlt).1
      have cy : wo.cell? ⟨b, off + j * 2 + 1, none⟩ = some (.int .i64 y) := by rw [ey]; unfold sY; rw [← flat_Y]; exact (hbel.out.cell (p := ⟨b, off + j * 2 + 1, none⟩) hb).trans (hc j hlt).2
      have EX := Lib.hid ex
      have EY := Lib.hid ey
      have HOM : Hid (oms q (ps.take (j + 1)) = oms q (ps.take j) ++ [q, 1, x, q, 2, y]) := by rw [ex, ey]; exact oms_take q ps j (by rw [HN.out]; exact hlt)
      have i0' : (0 : Int) ≤ (j : Int) := by omega
      have i1' : (j : Int) < (n : Int) := by omega
      have hszo := Lib.hid hbel.out.size
      have hbr0 : b < wo.heap.size := by have := hbel.out.size; omega
      clear hc ex ey
      obtain ⟨w1, hw1⟩ : ∃ u, u = wo.alloc (.cells #[.int .i64 x, .int .i64 y] 30) := ⟨_, rfl⟩
      have HOS1 : Hid (EO 75 3 w1 w.heap.size (some B) m d (oms q (ps.take j))) := by rw [hw1]; exact hos.out.alloc _
      have HB1 : Hid (Below w.heap.size w w1) := by rw [hw1]; exact hbel.out.alloc hszo.out _
      have C1 : Hid (Blk w1 wo.heap.size 30 #[.int .i64 x, .int .i64 y]) := by rw [hw1]; exact Blk.new wo _ _
      have p0 : w1.cell? ⟨wo.heap.size, 0, none⟩ = some (.int .i64 x) := C1.out.cell 0
      have p1 : w1.cell? ⟨wo.heap.size, 1, none⟩ = some (.int .i64 y) := C1.out.cell 1
      cases hv : sv x y
      · have HV0 := Lib.hid hv
        have hf : shv ps = false := shv_bad (k := j) (by rw [HN.out]; exact hlt) (by rw [← EX.out, ← EY.out]; exact hv)
        have HF := Lib.hid hf
        clear hv hok hf hos hbel
        go_upto_region 7 with fail
        rw [← hw1]
        clear hw1
        go_wp2_with fail
        refine (i_SharedValid_f HV0.out w1).mono ?_
        rintro e w2 ⟨rfl, hb2⟩
        have HB := Lib.hid (bstep hb2 HB1.out.size HB1.out)
        clear hb2
        go_wp2
        go_ret
        exact ⟨fun h => by rw [HF.out] at h; (cases h), fun _ => ⟨rfl, HB.out⟩⟩
      · have HV0 := Lib.hid hv
        have HOK : Hid (∀ i, i < j + 1 → sv (sX ps i) (sY ps i) = true) := fun i hi => by
          rcases (by omega : i < j ∨ i = j) with h1 | rfl
          · exact hok.out i h1
          · rw [← EX.out, ← EY.out]; exact HV0.out
        clear hv hok hos hbel
        go_upto_region 7 with fail
        rw [← hw1]
        clear hw1
        go_wp2_with fail
        refine (i_SharedValid_t HV0.out w1).mono ?_
        rintro e w2 ⟨rfl, hb2⟩
        have HB2 := Lib.hid (bstep hb2 HB1.out.size HB1.out)
        have HOS2 := Lib.hid (HOS1.out.below hb2)
        have C2 := Lib.hid (C1.out.below' hb2)
        have p0 : w2.cell? ⟨wo.heap.size, 0, none⟩ = some (.int .i64 x) := C2.out.cell 0
        have p1 : w2.cell? ⟨wo.heap.size, 1, none⟩ = some (.int .i64 y) := C2.out.cell 1
        have hszr : w.heap.size ≤ w2.heap.size := HB2.out.size
        clear hb2 HB1 HOS1 C1
        go_wp2_with (at_builtin; refine wpList_append_lies _ rfl _ _ 40 rfl w.heap.size 75 i0 (.agg #[.int .i64 0, .int .i64 0, .int .i64 0]) 3 24 Try.underlying40 hi hz0 hz1 hz2 rfl (by decide) (.slice (some B) m d) m _ rfl (World.ownsRow.alloc HOS2.out _) ⟨w2.heap.size, 0, none⟩ 2 2 [.int .i64 q, .int .i64 1, .int .i64 x, .int .i64 q, .int .i64 2, .int .i64 y] rfl rfl ?c1 ?c2 ?c3 ?c4 ?c5 ?c6 (w2.heap.size + 1) ?c7 ?_)
        case c1 => exact World.news_of_block (cs := #[.int .i64 q, .int .i64 1, .int .i64 x, .int .i64 q, .int .i64 2, .int .i64 y]) (t := 75) (fr := (0, 0)) (heap_alloc_new w2 _)
        case c2 => intro u hu; simp at hu; rcases hu with rfl | rfl | rfl | rfl | rfl | rfl <;> rfl
        case c3 => omega
        case c4 => unfold maxLen; omega
        case c5 => omega
        case c6 => simp; omega
        case c7 => simp
        intro gg cap9 w9 hown1 hgrow hat hlt9
        have R := Lib.hid (EO.push (w := w) (m := 2) (ys := [q, 1, x, q, 2, y]) HOS2.out HB2.out hszr hown1 hgrow)
        clear hown1 hgrow hat
        go_wp2
        go_roundw
        case rel =>
          obtain ⟨A', c', hv', ho', hb'⟩ := R.out
          injection hv' with e1 e2 e3
          subst e1 e3
          refine ⟨j + 1, m + 2, _, _, by omega, by go_num, Lib.hid (by have := hm.out; omega), by have := hm.out; omega, rfl, ?_, hb', HOK⟩
          rw [HOM.out]
          exact ho'
        case measure => simp [intOf] <;> omega
    · have hjn : j = n := by omega
      subst hjn
      obtain rfl : m = 2 * j := hm.out
      have HF : Hid (EO 75 3 wo w.heap.size (some B) (2 * j) d (oms q ps)) := by
        have h := hos.out
        rw [List.take_of_length_le (by rw [HN.out]; exact Nat.le_refl _)] at h
        exact h
      have HSV : Hid (shv ps = true) := shv_mk (fun k hk => hok.out k (by rw [← HN.out]; exact hk))
      clear hm hos hok
      go_wp2
      go_ret
      exact ⟨fun _ => ⟨B, d, rfl, HF.out, hbel.out⟩, fun h => by rw [HSV.out] at h; (cases h)⟩
end Go.Proofs.Ytoeffaalihndoaa

/-
  MatrixText of the program.
-/
import Derived.Test.YtcmgnnfkgkibgaaDoorMt
import Derived.Test.YtcmgnnfkgkibgaaDoorFix2
import Derived.Test.YtcmgnnfkgkibgaaDoorVo
namespace Go.Proofs.YtcmgnnfkgkibgaaDoor
open Go.RowKit
set_option linter.unusedVariables false
set_option linter.unusedSimpArgs false

/-- a new row of empty strings -/
def ZS (n : Nat) : Obj := .cells (madeCells #[.string ByteArray.empty] n) 9
theorem mk_strs (n : Nat) (hn : n ≤ 1048576) (w : World) : (Instr.makeSlice 50 (.int .i64 (n : Int)) (.int .i64 (n : Int))).run Tryd.prog w = .ok (.slice (some ⟨w.heap.size, 0, none⟩) n n) (w.alloc (ZS n)) := by
  obtain ⟨i, hi, hz, h1, h8⟩ := info_parts infoStr
  have h := run_make (P := Tryd.prog) w 50 9 i _ Tryd.underlying50 hi hz .i64 .i64 (n : Int) (n : Int) (by omega) (Int.le_refl _) (by rw [h8]; omega) (by omega)
  rw [h, h1]
  simp only [Int.toNat_natCast, Nat.mul_one]
  rfl
theorem VO.zstr (w : World) (n : Nat) (hn : n ≤ 1048576) : VO (w.alloc (ZS n)) w.heap.size 9 1 (some ⟨w.heap.size, 0, none⟩) n n (List.replicate n (.string ByteArray.empty)) := by
  have h := World.ownsRow_lit (base := w.heap.size) (e := 9) (size := 1) w (madeCells #[.string ByteArray.empty] n) n (Nat.le_refl _) (by unfold maxLen; omega) (by simp [size_madeCells])
  have e : (madeCells #[.string ByteArray.empty] n).toList = List.replicate n (Value.string ByteArray.empty) := by rw [toList_madeCells_one]
  rw [e] at h
  exact h
/-- the first k are set -/
def sf (f : Nat → List UInt8) (n k : Nat) : List Value := (List.range k).map (fun i => Value.string (bs (f i))) ++ List.replicate (n - k) (.string ByteArray.empty)
theorem sf_zero (f : Nat → List UInt8) (n : Nat) : sf f n 0 = List.replicate n (.string ByteArray.empty) := by simp [sf]
theorem sf_set (f : Nat → List UInt8) (n k : Nat) (h : k < n) : (sf f n k).set k (.string (bs (f k))) = sf f n (k + 1) := by
  unfold sf
  have e : n - k = (n - (k + 1)) + 1 := by omega
  rw [List.set_append_right _ _ (by simp), List.range_succ, List.map_append, List.append_assoc]
  simp only [List.length_map, List.length_range, Nat.sub_self]
  rw [e, List.replicate_succ]
  rfl
theorem sf_at (f : Nat → List UInt8) (n k : Nat) (h : k < n) : (sf f n k)[k]? = some (.string ByteArray.empty) := by
  unfold sf
  rw [List.getElem?_append_right (by simp), List.getElem?_replicate]
  simp
  omega
theorem sf_full (f : Nat → List UInt8) (n : Nat) : sf f n n = strs ((List.range n).map f) := by
  unfold sf strs
  rw [Nat.sub_self, List.replicate_zero, List.append_nil, List.map_map]
  rfl
theorem join_len (l : List (List UInt8)) (sep : List UInt8) (m : Nat) (h : ∀ x ∈ l, x.length ≤ m) : (Lib.join l sep).length ≤ l.length * (m + sep.length) := by
  have key : ∀ l : List (List UInt8), (∀ x ∈ l, x.length ≤ m) → (Lib.joinTail sep l).length ≤ l.length * (m + sep.length) := by
    intro l
    induction l with
    | nil => intro _; simp [Lib.joinTail]
    | cons a l ih =>
      intro h
      have h1 := ih (fun x hx => h x (List.mem_cons_of_mem _ hx))
      have h2 := h a (List.mem_cons_self ..)
      simp only [Lib.joinTail, List.map_cons, List.flatten_cons, List.length_append, List.length_cons] at h1 ⊢
      rw [Nat.succ_mul]
      omega
  cases l with
  | nil => simp [Lib.join, List.intercalate]
  | cons a l =>
    have h1 := key l (fun x hx => h x (List.mem_cons_of_mem _ hx))
    have h2 := h a (List.mem_cons_self ..)
    rw [Lib.join_cons, List.length_append, List.length_cons, Nat.succ_mul]
    omega
theorem rt_eq (v : List Int) (C k : Nat) (h : k * C + C ≤ v.length) : rt v C k = Lib.join ((List.range C).map fun i => fx (v.getD (k * C + i) 0)) [32] := by
  unfold rt
  congr 1
  apply List.ext_getElem
  · simp; omega
  · intro i h1 h2
    have hi : i < C := by simpa using h2
    have e1 : (v.getD (k * C + i) 0) = v[k * C + i]'(by omega) := by rw [List.getD_eq_getElem?_getD, List.getElem?_eq_getElem (by omega)]; rfl
    simp only [List.getElem_map, List.getElem_take, List.getElem_drop, List.getElem_range, e1]
theorem rt_len (v : List Int) (C k : Nat) (hC : C ≤ 5) : (rt v C k).length ≤ 5 * 302 := by
  unfold rt
  refine Nat.le_trans (join_len _ [32] 301 (fun x hx => ?_)) ?_
  · obtain ⟨y, _, rfl⟩ := List.mem_map.1 hx
    exact fx_len y
  · simp only [List.length_map, List.length_cons, List.length_nil]
    exact Nat.mul_le_mul_right _ (by rw [List.length_take]; omega)
set_option maxRecDepth 20000 in
theorem i_rowOf (r c k a : Nat) (b off n cap : Nat) (ha : a = k * c) (hc : 1 ≤ c) (hk : a + c ≤ n) (hcap : n ≤ cap) (bc : cap ≤ maxLen) (bn : n ≤ 1048576) (w : World) :
    Calls Tryd.prog 39 #[MV (r : Int) (c : Int) (some ⟨b, off, none⟩) n cap, .int .i64 (k : Int)] w fun e w' => (∃ d, e = .returned (.slice (some ⟨b, off + a, none⟩) c d)) ∧ Below w.heap.size w w' := by
  have e1 : (k : Int) * (c : Int) = (a : Int) := by rw [ha]; push_cast; rfl
  have e2 : ((k : Int) + 1) * (c : Int) = (a : Int) + (c : Int) := by rw [Int.add_mul, e1, Int.one_mul]
  have q1 := IntWalk.i64_in (a : Int) (by omega)
  have q2 := IntWalk.i64_in ((a : Int) + (c : Int)) (by omega)
  have q3 := IntWalk.i64_in ((k : Int) + 1) (by
    have : k ≤ k * c := Nat.le_mul_of_pos_right k hc
    omega)
  have l1 : (a : Int) ≤ (a : Int) + (c : Int) := by omega
  have l2 : (a : Int) + (c : Int) ≤ (cap : Int) := by omega
  have l3 : (0 : Int) ≤ (a : Int) + (c : Int) := by omega
  clear ha
  go_enter Tryd.func39, Tryd.ntmps39
  go_wp2
  go_ret
  exact ⟨⟨_, ret_slice (by omega)⟩, (Below.refl _ _).alloc (Nat.le_refl _) _⟩
/-- between two rounds of the outer loop -/
def Mo (v : List Int) (R C : Nat) (cs : Array Value) (w wr : World) (gR k : Nat) : Prop :=
  VO wr w.heap.size 9 1 (some ⟨gR, 0, none⟩) R R (sf (rt v C) R k) ∧ Blk wr w.heap.size 37 cs ∧ Below w.heap.size w wr
/-- between two rounds of the inner loop -/
def Mj (v : List Int) (R C : Nat) (cs : Array Value) (w wr : World) (gR k gW j : Nat) : Prop :=
  Mo v R C cs w wr gR k ∧ VO wr w.heap.size 9 1 (some ⟨gW, 0, none⟩) C C (sf (fun i => fx (v.getD (k * C + i) 0)) C j) ∧ gR < gW ∧ w.heap.size < gR
theorem Mo.below {v : List Int} {R C : Nat} {cs : Array Value} {w wr w1 : World} {gR k : Nat} (h : Mo v R C cs w wr gR k) (hb : Below wr.heap.size wr w1) : Mo v R C cs w w1 gR k :=
  ⟨h.1.below hb, h.2.1.below' hb, bstep hb h.2.2.size h.2.2⟩
theorem Mj.start {v : List Int} {R C : Nat} {cs : Array Value} {w wr : World} {gR k : Nat} (h : Mo v R C cs w wr gR k) (hC : C ≤ 5) (h0 : w.heap.size < gR) : Mj v R C cs w (wr.alloc (ZS C)) gR k wr.heap.size 0 :=
  ⟨h.below ((Below.refl _ _).alloc (Nat.le_refl _) _), by rw [sf_zero]; exact (VO.zstr wr C (by omega)).mono h.2.2.size, (h.1.blk_lt gR rfl).2, h0⟩
theorem Mj.step {v : List Int} {R C : Nat} {cs : Array Value} {w wr w1 : World} {gR k gW j : Nat} (h : Mj v R C cs w wr gR k gW j) (hb : Below wr.heap.size wr w1) (hj : j < C) {s : ByteArray} (hs : s = bs (fx (v.getD (k * C + j) 0))) :
    Mj v R C cs w (w1.setCell ⟨gW, j, none⟩ (.string s)) gR k gW (j + 1) := by
  obtain ⟨⟨h1, h2, h3⟩, h4, h5, h6⟩ := h
  subst hs
  refine ⟨⟨(h1.below hb).far (p := ⟨gW, j, none⟩) (fun e => by injection e with e; dsimp only at e; omega) _, (h2.below' hb).far (p := ⟨gW, j, none⟩) (by dsimp only; omega) _, (bstep hb h3.size h3).setCell (by dsimp only; omega) _⟩, ?_, h5, h6⟩
  have h7 := (h4.below hb).store j (.string (bs (fx (v.getD (k * C + j) 0))))
  rw [sf_set (fun i => fx (v.getD (k * C + i) 0)) C j hj] at h7
  exact h7
theorem Mo.step {v : List Int} {R C : Nat} {cs : Array Value} {w wr w1 : World} {gR k gW : Nat} (h : Mj v R C cs w wr gR k gW C) (hb : Below wr.heap.size wr w1) (hk : k < R) {s : ByteArray} (hs : s = bs (rt v C k)) :
    Mo v R C cs w (w1.setCell ⟨gR, k, none⟩ (.string s)) gR (k + 1) := by
  obtain ⟨⟨h1, h2, h3⟩, h4, h5, h6⟩ := h
  subst hs
  refine ⟨?_, (h2.below' hb).far (p := ⟨gR, k, none⟩) (by dsimp only; omega) _, (bstep hb h3.size h3).setCell (by dsimp only; omega) _⟩
  have h7 := (h1.below hb).store k (.string (bs (rt v C k)))
  rw [sf_set (rt v C) R k hk] at h7
  exact h7
set_option maxRecDepth 20000 in
set_option maxHeartbeats 4000000 in
theorem i_MatrixText (r c : Int) (v : List Int) (A : Option Addr) (n cap : Nat) (w : World) (ht : Tab w) (hx0 : SI w A n v) (bn : n ≤ 1048576) (hcap : n ≤ cap) (bc : cap ≤ maxLen) :
    Calls Tryd.prog 17 #[MV r c A n cap] w fun e w' => e = .returned (.string (bs (mt ⟨r, c, v⟩))) ∧ Below w.heap.size w w' := by
  obtain ⟨u1, hu1⟩ : ∃ u, u = w.alloc (.cells #[.int .i64 r, .int .i64 c, .slice A n cap] 37) := ⟨_, rfl⟩
  have B1 : Blk u1 w.heap.size 37 #[.int .i64 r, .int .i64 c, .slice A n cap] := by rw [hu1]; exact Blk.new w _ _
  have HO1 : Hid (Below w.heap.size w u1) := by rw [hu1]; exact (Below.refl _ _).alloc (Nat.le_refl _) _
  have HX0 := Lib.hid hx0
  have HX : Hid (SI u1 A n v) := SI.below hx0 HO1.out
  have HB := Lib.hid B1
  have HTB := Lib.hid ht
  have hlen := hx0.1
  have c0 : u1.cell? ⟨w.heap.size, 0, none⟩ = some (.int .i64 r) := B1.cell 0
  have c1 : u1.cell? ⟨w.heap.size, 1, none⟩ = some (.int .i64 c) := B1.cell 1
  have c2 : u1.cell? ⟨w.heap.size, 2, none⟩ = some (.slice A n cap) := B1.cell 2
  have hsz : u1.heap.size = w.heap.size + 1 := by rw [hu1]; simp
  have HSZ := Lib.hid hsz
  clear B1 ht hsz
  cases hv : mvB ⟨r, c, v⟩
  · have hbad : Hid (mt ⟨r, c, v⟩ = []) := mt_bad hv
    have HV := Lib.hid hv
    clear hx0 hlen hv
    go_enter Tryd.func17, Tryd.ntmps17
    go_wp2_with fail
    rw [← hu1]
    clear hu1
    refine (i_MatrixValid r c v A n cap u1 HX.out (by omega)).mono ?_
    rintro e w1 ⟨rfl, hb1⟩
    rw [HV.out]
    have HB1 := Lib.hid hb1
    clear hb1
    go_wp2
    go_ret
    exact ⟨ret_str (by rw [hbad.out]; rfl), bstep HB1.out HO1.out.size HO1.out⟩
  obtain ⟨R, C, hr, hc, R1, R5, C1, C5, hl, h25, hall⟩ := mv_facts hv
  dsimp only at hr hc hl hall
  subst hr hc
  have hmt : Hid (mt ⟨(R : Int), (C : Int), v⟩ = mtx v R C) := mt_ok hv rfl rfl
  have HV := Lib.hid hv
  have HALL := Lib.hid hall
  have HL := Lib.hid hlen
  have HL2 := Lib.hid hl
  have h0 : 0 < n := by have := Nat.mul_pos (show 0 < R by omega) (show 0 < C by omega); omega
  obtain ⟨b, off, rfl, hb, hcl⟩ := hx0.2 h0
  have HCL := Lib.hid hcl
  have hmR := mk_strs R (by omega)
  have hmC := mk_strs C (by omega)
  clear hx0 hlen hv hl hall hcl
  go_enter Tryd.func17, Tryd.ntmps17
  go_wp2_with fail
  rw [← hu1]
  clear hu1
  refine (i_MatrixValid (R : Int) (C : Int) v (some ⟨b, off, none⟩) n cap u1 HX.out (by omega)).mono ?_
  rintro e w1 ⟨rfl, hb1⟩
  rw [HV.out]
  have d0 : w1.cell? ⟨w.heap.size, 0, none⟩ = some (.int .i64 (R : Int)) := (HB.out.below' hb1).cell 0
  obtain ⟨gR, hgR⟩ : ∃ g, g = w1.heap.size := ⟨_, rfl⟩
  have hgR2 : w.heap.size < gR := by rw [hgR]; have := hb1.size; have := HSZ.out; omega
  obtain ⟨u2, hu2⟩ : ∃ u, u = w1.alloc (ZS R) := ⟨_, rfl⟩
  have HMO : Hid (Mo v R C #[.int .i64 (R : Int), .int .i64 (C : Int), .slice (some ⟨b, off, none⟩) n cap] w u2 gR 0) := by
    have hO := bstep hb1 HO1.out.size HO1.out
    refine ⟨?_, ?_, ?_⟩
    · rw [hu2, sf_zero, hgR]; exact (VO.zstr w1 R (by omega)).mono hO.size
    · rw [hu2]; exact (HB.out.below' hb1).alloc _
    · rw [hu2]; exact hO.alloc hO.size _
  clear hb1 c0 c1 c2
  go_wp2_with fail
  rw [← hu2, ← hgR]
  clear hu2 hgR d0
  go_loopw [16] (fun q wr => ∃ k : Nat, k ≤ R ∧ q = .int .i64 k ∧ Hid (Mo v R C #[.int .i64 (R : Int), .int .i64 (C : Int), .slice (some ⟨b, off, none⟩) n cap] w wr gR k)) (fun q _ => R - (intOf q).toNat)
  case atStart => exact ⟨0, Nat.zero_le _, rfl, HMO⟩
  case round =>
    obtain ⟨k, hk, rfl, hmo⟩ := hrel
    by_cases hlt : k < R
    · have i0 : (0 : Int) ≤ (k : Int) := by omega
      have i1 : (k : Int) < (R : Int) := by omega
      have d1 : wr.cell? ⟨w.heap.size, 1, none⟩ = some (.int .i64 (C : Int)) := hmo.out.2.1.cell 1
      obtain ⟨wo, rfl⟩ : ∃ u : World, u = wr := ⟨_, rfl⟩
      obtain ⟨gW, hgW⟩ : ∃ g, g = wo.heap.size := ⟨_, rfl⟩
      obtain ⟨u3, hu3⟩ : ∃ u, u = wo.alloc (ZS C) := ⟨_, rfl⟩
      have HMJ : Hid (Mj v R C #[.int .i64 (R : Int), .int .i64 (C : Int), .slice (some ⟨b, off, none⟩) n cap] w u3 gR k gW 0) := by rw [hu3, hgW]; exact Mj.start hmo.out C5 hgR2
      have e0 : u3.cell? ⟨w.heap.size, 0, none⟩ = some (.int .i64 (R : Int)) := HMJ.out.1.2.1.cell 0
      have e1 : u3.cell? ⟨w.heap.size, 1, none⟩ = some (.int .i64 (C : Int)) := HMJ.out.1.2.1.cell 1
      have e2 : u3.cell? ⟨w.heap.size, 2, none⟩ = some (.slice (some ⟨b, off, none⟩) n cap) := HMJ.out.1.2.1.cell 2
      have hkc : k * C + C ≤ R * C := by have := Nat.mul_le_mul_right C (show k + 1 ≤ R by omega); rw [Nat.succ_mul] at this; exact this
      have HKC : Hid (k * C + C ≤ v.length) := by show _ ≤ _; rw [HL2.out]; exact hkc
      obtain ⟨a, ha⟩ : ∃ a, a = k * C := ⟨_, rfl⟩
      have hac : a + C ≤ n := by rw [ha]; have := HKC.out; rw [HL.out] at this; exact this
      have HA := Lib.hid ha
      have hu3r : wo.alloc (ZS C) = u3 := hu3.symm
      have HGW := Lib.hid hgW
      clear hmo hkc ha hu3 hgW
      go_wp2_with fail
      rw [← HGW.out]
      clear hu3r d1
      refine (i_rowOf R C k a b off n cap HA.out C1 hac hcap bc bn u3).mono ?_
      rintro e w4 ⟨⟨d, rfl⟩, hb4⟩
      have HMJ4 : Hid (Mj v R C #[.int .i64 (R : Int), .int .i64 (C : Int), .slice (some ⟨b, off, none⟩) n cap] w w4 gR k gW 0) := ⟨HMJ.out.1.below hb4, HMJ.out.2.1.below hb4, HMJ.out.2.2⟩
      clear hb4 HMJ e0 e1 e2
      go_wp2_with fail
      go_loopw [26] (fun q wr => ∃ j : Nat, j ≤ C ∧ q = .int .i64 j ∧ Hid (Mj v R C #[.int .i64 (R : Int), .int .i64 (C : Int), .slice (some ⟨b, off, none⟩) n cap] w wr gR k gW j)) (fun q _ => C - (intOf q).toNat)
      case atStart => exact ⟨0, Nat.zero_le _, rfl, HMJ4⟩
      case round =>
        obtain ⟨j, hj, rfl, hmj⟩ := hrel
        by_cases hjl : j < C
        · obtain ⟨x, ex⟩ : ∃ x, x = v.getD (k * C + j) 0 := ⟨_, rfl⟩
          have j0 : (0 : Int) ≤ (j : Int) := by omega
          have j1 : (j : Int) < (C : Int) := by omega
          have cx : wr.cell? ⟨b, off + a + j, none⟩ = some (.int .i64 x) := by
            rw [ex, hmj.out.1.2.2.cell (p := ⟨b, off + a + j, none⟩) hb, Nat.add_assoc, ← HA.out]
            exact HCL.out (a + j) (by omega)
          have hx := all_rv HALL.out (k := k * C + j) (by have := HKC.out; omega)
          rw [← ex] at hx
          have EX := Lib.hid ex
          clear ex
          go_wp2_with fail
          refine (i_FixedText x hx wr (HTB.out.below hmj.out.1.2.2 (Nat.le_refl _))).mono ?_
          rintro e w5 ⟨rfl, hb5⟩
          obtain ⟨s, hs⟩ : ∃ s, s = bs (fx x) := ⟨_, rfl⟩
          rw [← hs]
          have HST : Hid (Mj v R C #[.int .i64 (R : Int), .int .i64 (C : Int), .slice (some ⟨b, off, none⟩) n cap] w (w5.setCell ⟨gW, j, none⟩ (.string s)) gR k gW (j + 1)) := hmj.out.step hb5 hjl (by rw [hs, EX.out])
          have hv5 := hmj.out.2.1.below hb5
          have fw : w5.frozen? ⟨gW, j, none⟩ = false := hv5.frozen j
          obtain ⟨y, cw⟩ : ∃ y, w5.cell? ⟨gW, j, none⟩ = some (.string y) := by
            rw [hv5.cell j (by omega)]
            exact ⟨_, sf_at _ _ _ (by omega)⟩
          clear hs hb5 hv5 hmj hx
          go_wp2
          go_roundw
          case rel => exact ⟨j + 1, by omega, by go_num, HST⟩
          case measure => simp [intOf]; omega
        · obtain rfl : j = C := by omega
          have HVW : Hid (VO wr w.heap.size 9 1 (some ⟨gW, 0, none⟩) j j (strs ((List.range j).map fun i => fx (v.getD (k * j + i) 0)))) := by
            have h := hmj.out.2.1
            rw [sf_full] at h
            exact h
          have hre : Hid (Lib.join ((List.range j).map fun i => fx (v.getD (k * j + i) 0)) [32] = rt v j k) := (rt_eq v j k HKC.out).symm
          go_wp2_with fail
          refine (f_Join w.heap.size (some ⟨gW, 0, none⟩) j j _ [32] wr HVW.out (by omega) (by rw [hre.out]; exact Nat.le_trans (rt_len v j k C5) (by omega))).mono ?_
          rintro e w5 ⟨rfl, hb5⟩
          rw [hre.out]
          obtain ⟨s, hs⟩ : ∃ s, s = bs (rt v j k) := ⟨_, rfl⟩
          rw [← hs]
          have HST : Hid (Mo v R j #[.int .i64 (R : Int), .int .i64 (j : Int), .slice (some ⟨b, off, none⟩) n cap] w (w5.setCell ⟨gR, k, none⟩ (.string s)) gR (k + 1)) := Mo.step hmj.out hb5 hlt hs
          have hv5 := hmj.out.1.1.below hb5
          have fw : w5.frozen? ⟨gR, k, none⟩ = false := hv5.frozen k
          obtain ⟨y, cw⟩ : ∃ y, w5.cell? ⟨gR, k, none⟩ = some (.string y) := by
            rw [hv5.cell k (by omega)]
            exact ⟨_, sf_at _ _ _ (by omega)⟩
          clear hs hb5 hv5 hmj HVW hre
          go_wp2
          go_roundw
          case rel => exact ⟨k + 1, by omega, by go_num, HST⟩
          case measure => simp [intOf]; omega
    · obtain rfl : k = R := by omega
      have HVR : Hid (VO wr w.heap.size 9 1 (some ⟨gR, 0, none⟩) k k (strs ((List.range k).map (rt v C)))) := by
        have h := hmo.out.1
        rw [sf_full] at h
        exact h
      have HBE := Lib.hid hmo.out.2.2
      clear hmo
      go_wp2_with fail
      refine (f_Join w.heap.size (some ⟨gR, 0, none⟩) k k _ [59, 32] wr HVR.out (by omega) (Nat.le_trans (join_len _ [59, 32] (5 * 302) (fun x hx => by
        obtain ⟨y, _, rfl⟩ := List.mem_map.1 hx
        exact rt_len v C y C5)) (by simp only [List.length_map, List.length_range, List.length_cons, List.length_nil]; exact Nat.le_trans (Nat.mul_le_mul_right _ R5) (by omega)))).mono ?_
      rintro e w5 ⟨rfl, hb5⟩
      have HB5 := Lib.hid hb5
      clear hb5
      go_wp2
      go_ret
      exact ⟨ret_str (by rw [hmt.out]; rfl), bstep HB5.out HBE.out.size HBE.out⟩
end Go.Proofs.YtcmgnnfkgkibgaaDoor

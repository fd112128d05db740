/-
  DRAWS of seeds and of layers. Printed by gen_drawsv.py.
-/
import Derived.Test.YtkpmnfegdhfhcaaDrawM0
import Derived.Test.YtkpmnfegdhfhcaaEltN
import Derived.Test.YtkpmnfegdhfhcaaMk
namespace Go.Proofs.Ytkpmnfegdhfhcaa
open Go.RowKit
set_option linter.unusedVariables false
set_option linter.unusedSimpArgs false

section
variable {α : Type} {E : Elt α} {w w' : World} {base rb n cap : Nat} {A : Option Addr} {T : TypeId} {css : List (List Value)} {xs : List α} {F : List Nat}
theorem RI.only (h : RI E w A n cap xs F) (ho : Only rb w w') (hf : rb ∉ F) : RI E w' A n cap xs F := h.keep fun g hg => ho.block g (h.lt g hg) (fun e => hf (by injection e with e; rw [← e]; exact hg))
theorem Fr.only (h : Fr w base F) (ho : Only rb w w') (hr : rb < base) : Fr w' base F := h.keep fun g hg => ho.block g (h.lt g hg) (fun e => by have := (h.2 g hg).1; injection e; omega)
theorem Fr.not (h : Fr w base F) (hr : rb < base) : rb ∉ F := fun hg => by have := (h.2 rb hg).1; omega
theorem OX.only (h : OX E w base T A n cap css xs F) (ho : Only rb w w') (hr : rb < base) : OX E w' base T A n cap css xs F := h.keep ho.size fun g hl hg => ho.block g hl (fun e => by
  injection e with e
  rcases hg with hg | hg
  · have := (h.blk_lt g hg).1; omega
  · have := (h.2.2.2.1.2 g hg).1; omega)
/-- a row that is written out -/
theorem OX.lit (W : World) (hb : base ≤ W.heap.size) (T : TypeId) (h : Elts E W css xs F) (hf : Fr W base F) (hn : xs.length ≤ maxLen) : OX E (W.alloc (.cells css.flatten.toArray T)) base T (some ⟨W.heap.size, 0, none⟩) xs.length xs.length css xs F := by
  refine ⟨?_, rfl, h.keep fun g hg => Below.heap_alloc W _ g (h.lt g hg), hf.keep fun g hg => Below.heap_alloc W _ g (h.lt g hg), fun g hg hF => ?_⟩
  · have hl : css.flatten.length = xs.length * E.s := elts_len h
    have := World.ownsRow_lit (base := base) (e := T) (size := E.s) W css.flatten.toArray xs.length hb hn (by simpa using hl)
    rw [show css.flatten.toArray.toList = css.flatten by simp] at this
    exact this
  · have e : W.heap.size = g := by simpa [blk] using hg
    have := h.lt g hF
    omega
end
/-- a seed drawn -/
def Sdn (w : World) (rb P : Nat) (e : Ending) (w' : World) : Prop := ∃ v : Int, e = .returned (.int .i64 v) ∧ Rd w' rb P ∧ Only rb w w'
set_option maxHeartbeats 1000000 in
theorem s_l20Seed (rb P : Nat) (n : Int) (hn : 0 ≤ n ∧ n ≤ 1000000) (w : World) (h : Rd w rb P) (hP : P < 549755813888) : Calls Try.prog 32 #[.pointer (some ⟨rb, 0, none⟩), .int .i64 n] w (Sdn w rb (P + 3)) := by
  have hrw := h.lt
  go_enter Try.func32, Try.ntmps32
  go_wp2_with fail
  refine (s_odd rb P n hn w h (by omega)).mono ?_
  rintro e w1 ⟨v, rfl, r1, o1⟩
  have t1 := r1.lt
  clear h
  cases v
  · go_wp2_with fail
    refine (s_pick rb (P + 1) 256 w1 r1 (by omega)).mono ?_
    rintro e w2 ⟨v2, rfl, a2, b2, r2, o2⟩
    have c2 : v2 ≤ 255 := by omega
    have t2 := r2.lt
    clear b2
    go_wp2_with fail
    refine (s_pick rb (P + 1 + 1) 6 _ ((r2.alloc _).alloc _) (by omega)).mono ?_
    rintro e w3 ⟨v3, rfl, a3, b3, r3, o3⟩
    have c3 : v3 < 6 := by omega
    clear b3
    obtain ⟨x, hx, x0, x1⟩ := getD_small [0, 0, 0, 0, 1, 2] 0 2 (by simp) v3 a3 (by simp; omega)
    obtain ⟨y, hy, y0, y1⟩ := getD_small [1 + v2 * 8000000, 1, 2147483646] 0 2147483646 (by simp; omega) x x0 (by simp; omega)
    have hcx : w3.cell? ⟨w2.heap.size + 1, v3.toNat, none⟩ = some (.int .i64 x) := by
      rw [o3.cell (by simp) (by omega)]
      have := cell_new_row (w2.alloc (.cells #[.int .i64 (1 + v2 * 8000000), .int .i64 1, .int .i64 2147483646] 3)) [0, 0, 0, 0, 1, 2] 3 v3.toNat
      rw [hx, World.size_alloc] at this
      exact this
    have hcy : w3.cell? ⟨w2.heap.size, x.toNat, none⟩ = some (.int .i64 y) := by
      rw [o3.cell (by simp; omega) (by omega), World.cell?_alloc_lt _ _ _ (by simp)]
      have := cell_new_row w2 [1 + v2 * 8000000, 1, 2147483646] 3 x.toNat
      rw [hy] at this
      exact this
    have O3 := Lib.hid ((o1.trans o2).trans ((((Only.refl rb w2).alloc _).alloc _).trans o3))
    clear o1 o2 o3 hx hy r1 r2
    have xx : x < 3 := by omega
    go_wp2
    go_ret
    exact ⟨y, rfl, r3.mono (by omega), O3.out⟩
  · go_wp2_with fail
    refine (s_pick rb (P + 1) 3 _ (r1.alloc _) (by omega)).mono ?_
    rintro e w2 ⟨v2, rfl, a2, b2, r2, o2⟩
    have c2 : v2 < 3 := by omega
    clear b2
    obtain ⟨y, hy, y0, y1⟩ := getD_small [0, -1, 2147483647] (-1) 2147483647 (by simp) v2 a2 (by simp; omega)
    have hcy : w2.cell? ⟨w1.heap.size, v2.toNat, none⟩ = some (.int .i64 y) := by
      rw [o2.cell (by simp) (by omega)]
      have := cell_new_row w1 [0, -1, 2147483647] 3 v2.toNat
      rw [hy] at this
      exact this
    have O3 := Lib.hid (o1.trans (((Only.refl rb w1).alloc _).trans o2))
    clear o1 o2 hy r1
    go_wp2
    go_ret
    exact ⟨y, rfl, r2.mono (by omega), O3.out⟩

/-- a layer drawn -/
def DLy (w : World) (rb P : Nat) (kd : Int) (e : Ending) (w' : World) : Prop := ∃ A n c ms F, e = .returned (.agg #[.int .i64 kd, .slice A n c]) ∧ RI mxE w' A n c ms F ∧ Fr w' w.heap.size F ∧ n ≤ 3 ∧ (∀ m, m ∈ ms → m.v.length ≤ 26) ∧ (kd = 1 → ∃ m0, ms[0]? = some m0 ∧ 1 ≤ m0.r ∧ m0.r ≤ 5) ∧ Rd w' rb P ∧ Only rb w w'
section
variable {w w1 w2 w3 w4 : World} {rb : Nat}
theorem MF.only {A : Option Addr} {c : Nat} {m : Mx} {F : List Nat} {base : Nat} (h : MF w A c m F) (hf : ∀ g, g ∈ F → base ≤ g) (ho : Only rb w w1) (hr : rb < base) : MF w1 A c m F := h.keep fun g hg => ho.block g (h.lt g hg) (fun e => by injection e with e; have := hf g hg; omega)
end
set_option maxRecDepth 20000 in
set_option maxHeartbeats 4000000 in
theorem s_l20Layer_1 (rb P : Nat) (rows cols : Int) (hr : 1 ≤ rows ∧ rows ≤ 5) (hc : 1 ≤ cols ∧ cols ≤ 5) (w : World) (h : Rd w rb P) (hP : P < 900000) :
    Calls Try.prog 59 #[.pointer (some ⟨rb, 0, none⟩), .int .i64 1, .int .i64 rows, .int .i64 cols, .int .i64 0] w (DLy w rb (P + 700) 1) := by
  obtain ⟨u1, hu1⟩ : ∃ u, u = ((w.alloc (.cells #[.int .i64 0, .slice none 0 0] 58)).alloc (.cells #[.int .i64 1, .slice none 0 0] 58)) := ⟨_, rfl⟩
  have b0_1 : Blk u1 w.heap.size 58 #[.int .i64 0, .slice none 0 0] := by rw [hu1]; exact (Blk.new _ _ _).alloc _
  have b1_1 : Blk u1 (w.heap.size + 1) 58 #[.int .i64 1, .slice none 0 0] := by rw [hu1]; have h := Blk.new (w.alloc (.cells #[.int .i64 0, .slice none 0 0] 58)) 58 #[.int .i64 1, .slice none 0 0]; simpa using h
  have r_1 : Rd u1 rb P := by rw [hu1]; exact (h.alloc _).alloc _
  have o_1 : Only rb w u1 := by rw [hu1]; exact ((Only.refl rb w).alloc _).alloc _
  have hrw := h.lt
  clear h
  go_enter Try.func59, Try.ntmps59
  go_wp2_with fail
  rw [← hu1]
  have s_1 : w.heap.size + 2 ≤ u1.heap.size := by rw [hu1]; simp
  clear hu1
  refine (s_pick rb P 3 u1 r_1 (by omega)).mono ?_
  rintro e w2 ⟨v, rfl, v0, v1, r', o'⟩
  have v2 : v ≤ 2 := by omega
  clear v1
  have b0_2 := b0_1.only o' (by omega)
  have b1_2 := b1_1.only o' (by omega)
  have r_2 := r'
  have o_2 := o_1.trans o'
  have s_2 := o_2.size
  have t_2 := o'.size
  clear b0_1 b1_1 r_1 o_1 o' r'
  have hv5 := IntWalk.i64_in (1 + v) (by omega)
  go_wp2_with fail
  refine (s_l20Matrix0 rb (P + 1) (1 + v) (rows) (by omega) hr w2 r_2 (by omega)).mono ?_
  rintro e w3 ⟨A0, c0, x0, rfl, hos, hl0, r', o'⟩
  have b0_3 := b0_2.only o' (by omega)
  have b1_3 := b1_2.only o' (by omega)
  have r_3 := r'
  have o_3 := o_2.trans o'
  have s_3 := o_3.size
  have t_3 := o'.size
  clear b0_2 b1_2 r_2 o_2 o' r'
  have hos0_3 := hos
  have hlt0 : ∀ g, blk A0 = some g → g < w3.heap.size := fun g hg => (hos0_3.blk_lt g hg).2
  clear hos
  have hbs0 : w.heap.size + 2 ≤ w2.heap.size := by omega
  go_wp2_with fail
  refine (s_l20Matrix0 rb (P + 1 + 220) (1 + v) (1) (by omega) (by omega) w3 r_3 (by omega)).mono ?_
  rintro e w4 ⟨A1, c1, x1, rfl, hos, hl1, r', o'⟩
  have b0_4 := b0_3.only o' (by omega)
  have b1_4 := b1_3.only o' (by omega)
  have r_4 := r'
  have o_4 := o_3.trans o'
  have hos0_4 := hos0_3.only o' (by omega)
  have s_4 := o_4.size
  have t_4 := o'.size
  clear b0_3 b1_3 r_3 o_3 o' r' hos0_3
  have hos1_4 := hos
  have hlt1 : ∀ g, blk A1 = some g → g < w4.heap.size := fun g hg => (hos1_4.blk_lt g hg).2
  clear hos
  have hbs1 : w.heap.size + 2 ≤ w3.heap.size := by omega
  have HMF : Hid (∃ F, Elts mxE w4 [[.int .i64 (1 + v), .int .i64 (rows), .slice A0 x0.length c0], [.int .i64 (1 + v), .int .i64 (1), .slice A1 x1.length c1]] [(⟨1 + v, rows, x0⟩ : Mx), (⟨1 + v, 1, x1⟩ : Mx)] F ∧ Fr w4 (w.heap.size + 2) F) := by
    have f0 := fr_os hos0_4
    have f1 := fr_os hos1_4
    have hd0 : ∀ g, g ∈ fpI A0 x0.length → g ∈ fpI A1 x1.length → False := by
      intro g h1 h2
      have a1 := hlt0 g (fpI_mem h1).2
      rcases h2 with h2
      · have a2 := (hos1_4.blk_lt g (fpI_mem h2).2).1; omega
    have hd1 : ∀ g, g ∈ fpI A1 x1.length → False → False := by
      intro g h1 h2; exact h2
    exact ⟨_, ⟨_, _, rfl, ⟨A0, c0, rfl, MF.of_os (m := ⟨1 + v, rows, x0⟩) hos0_4⟩, ⟨_, _, rfl, ⟨A1, c1, rfl, MF.of_os (m := ⟨1 + v, 1, x1⟩) hos1_4⟩, rfl⟩⟩, Fr.app (f0.mono (by omega)) (Fr.app (f1.mono (by omega)) (Fr.nil _ _) (fun g h1 h2 => by cases h2)) (fun g h1 h2 => hd0 g h1 (by simpa using h2))⟩
  have z0 : w.heap.size < w4.heap.size := b0_4.lt
  have z1 : w.heap.size + 1 < w4.heap.size := b1_4.lt
  have cb00 : w4.cell? ⟨w.heap.size, 0, none⟩ = some (.int .i64 0) := b0_4.cell 0
  have fb00 : w4.frozen? ⟨w.heap.size, 0, none⟩ = false := b0_4.frozen 0
  have cb01 : w4.cell? ⟨w.heap.size, 1, none⟩ = some (.slice none 0 0) := b0_4.cell 1
  have fb01 : w4.frozen? ⟨w.heap.size, 1, none⟩ = false := b0_4.frozen 1
  have cb10 : w4.cell? ⟨w.heap.size + 1, 0, none⟩ = some (.int .i64 1) := b1_4.cell 0
  have fb10 : w4.frozen? ⟨w.heap.size + 1, 0, none⟩ = false := b1_4.frozen 0
  have cb11 : w4.cell? ⟨w.heap.size + 1, 1, none⟩ = some (.slice none 0 0) := b1_4.cell 1
  have fb11 : w4.frozen? ⟨w.heap.size + 1, 1, none⟩ = false := b1_4.frozen 1
  go_wp2_with fail
  refine (s_odd0 rb _).mono ?_
  rintro e w' ⟨rfl, rfl⟩
  obtain ⟨F, hE, hF⟩ := HMF.out
  have hkk : ∀ g, g ∈ F → (((w4.setCell ⟨w.heap.size + 1, 1, none⟩ (.slice (some ⟨w4.heap.size, 0, none⟩) 2 2)).setCell ⟨w.heap.size, 0, none⟩ (.int .i64 1)).setCell ⟨w.heap.size, 1, none⟩ (.slice (some ⟨w4.heap.size, 0, none⟩) 2 2)).heap[g]? = w4.heap[g]? := fun g hg => by
    have := (hF.2 g hg).1
    exact (Below.heap_setCell _ _ _ g (by dsimp only; omega)).trans ((Below.heap_setCell _ _ _ g (by dsimp only; omega)).trans (Below.heap_setCell _ _ _ g (by dsimp only; omega)))
  have hzz : (((w4.setCell ⟨w.heap.size + 1, 1, none⟩ (.slice (some ⟨w4.heap.size, 0, none⟩) 2 2)).setCell ⟨w.heap.size, 0, none⟩ (.int .i64 1)).setCell ⟨w.heap.size, 1, none⟩ (.slice (some ⟨w4.heap.size, 0, none⟩) 2 2)).heap.size = w4.heap.size := by simp [World.setCell]
  have hox := OX.lit (((w4.setCell ⟨w.heap.size + 1, 1, none⟩ (.slice (some ⟨w4.heap.size, 0, none⟩) 2 2)).setCell ⟨w.heap.size, 0, none⟩ (.int .i64 1)).setCell ⟨w.heap.size, 1, none⟩ (.slice (some ⟨w4.heap.size, 0, none⟩) 2 2)) (base := w.heap.size + 2) (by rw [hzz]; omega) 61 (hE.keep hkk) (hF.keep hkk) (by unfold maxLen; simp)
  rw [hzz] at hox
  clear hkk hzz
  obtain ⟨F2, hr2, hf2⟩ := hox.ri
  simp only [List.flatten_cons, List.flatten_nil, List.cons_append, List.nil_append, List.length_cons, List.length_nil] at hr2 hf2
  have HR2 := Lib.hid hr2
  have HF2 := Lib.hid hf2
  clear hE hF hox hr2 hf2 HMF
  have HR := Lib.hid r_4
  have HO := Lib.hid o_4
  clear r_4 o_4 hos0_4 hlt0 hos1_4 hlt1
  go_wp2
  exact bodyPost_ret (v := .agg #[.int .i64 1, .slice (some ⟨w4.heap.size, 0, none⟩) 2 2]) (by simp [results, Try.results59, go_sem, z0, z1, cb00, fb00, cb01, fb01, cb10, fb10, cb11, fb11]) rfl ⟨_, 2, 2, [(⟨1 + v, rows, x0⟩ : Mx), (⟨1 + v, 1, x1⟩ : Mx)], F2, rfl, HR2.out, HF2.out.mono (by omega), by omega, by intro m hm; simp at hm; rcases hm with rfl | rfl <;> assumption, fun _ => ⟨_, rfl, by dsimp only; omega, by dsimp only; omega⟩, ((((((HR.out.setCell (by dsimp only; omega) _).setCell (by dsimp only; omega) _).setCell (by dsimp only; omega) _).alloc _))).mono (by omega), (((((HO.out.setCell (.inr (by dsimp only; omega)) _).setCell (.inr (by dsimp only; omega)) _).setCell (.inr (by dsimp only; omega)) _).alloc _))⟩
set_option maxRecDepth 20000 in
set_option maxHeartbeats 4000000 in
theorem s_l20Layer_2 (rb P : Nat) (rows cols : Int) (hr : 1 ≤ rows ∧ rows ≤ 5) (hc : 1 ≤ cols ∧ cols ≤ 5) (w : World) (h : Rd w rb P) (hP : P < 900000) :
    Calls Try.prog 59 #[.pointer (some ⟨rb, 0, none⟩), .int .i64 2, .int .i64 rows, .int .i64 cols, .int .i64 0] w (DLy w rb (P + 700) 2) := by
  obtain ⟨u1, hu1⟩ : ∃ u, u = ((w.alloc (.cells #[.int .i64 0, .slice none 0 0] 58)).alloc (.cells #[.int .i64 2, .slice none 0 0] 58)) := ⟨_, rfl⟩
  have b0_1 : Blk u1 w.heap.size 58 #[.int .i64 0, .slice none 0 0] := by rw [hu1]; exact (Blk.new _ _ _).alloc _
  have b1_1 : Blk u1 (w.heap.size + 1) 58 #[.int .i64 2, .slice none 0 0] := by rw [hu1]; have h := Blk.new (w.alloc (.cells #[.int .i64 0, .slice none 0 0] 58)) 58 #[.int .i64 2, .slice none 0 0]; simpa using h
  have r_1 : Rd u1 rb P := by rw [hu1]; exact (h.alloc _).alloc _
  have o_1 : Only rb w u1 := by rw [hu1]; exact ((Only.refl rb w).alloc _).alloc _
  have hrw := h.lt
  clear h
  go_enter Try.func59, Try.ntmps59
  go_wp2_with fail
  rw [← hu1]
  have s_1 : w.heap.size + 2 ≤ u1.heap.size := by rw [hu1]; simp
  clear hu1
  have z0 : w.heap.size < u1.heap.size := b0_1.lt
  have z1 : w.heap.size + 1 < u1.heap.size := b1_1.lt
  have cb00 : u1.cell? ⟨w.heap.size, 0, none⟩ = some (.int .i64 0) := b0_1.cell 0
  have fb00 : u1.frozen? ⟨w.heap.size, 0, none⟩ = false := b0_1.frozen 0
  have cb01 : u1.cell? ⟨w.heap.size, 1, none⟩ = some (.slice none 0 0) := b0_1.cell 1
  have fb01 : u1.frozen? ⟨w.heap.size, 1, none⟩ = false := b0_1.frozen 1
  have cb10 : u1.cell? ⟨w.heap.size + 1, 0, none⟩ = some (.int .i64 2) := b1_1.cell 0
  have fb10 : u1.frozen? ⟨w.heap.size + 1, 0, none⟩ = false := b1_1.frozen 0
  have cb11 : u1.cell? ⟨w.heap.size + 1, 1, none⟩ = some (.slice none 0 0) := b1_1.cell 1
  have fb11 : u1.frozen? ⟨w.heap.size + 1, 1, none⟩ = false := b1_1.frozen 1
  go_wp2_with fail
  refine (s_odd0 rb _).mono ?_
  rintro e w' ⟨rfl, rfl⟩
  have HR := Lib.hid r_1
  have HO := Lib.hid o_1
  clear r_1 o_1
  go_wp2
  exact bodyPost_ret (v := .agg #[.int .i64 2, .slice none 0 0]) (by simp [results, Try.results59, go_sem, z0, z1, cb00, fb00, cb01, fb01, cb10, fb10, cb11, fb11]) rfl ⟨none, 0, 0, [], [], rfl, RI.nil _ none (by unfold maxLen; omega), Fr.nil _ _, by omega, (fun m hm => by cases hm), fun h => absurd h (by decide), (((HR.out.setCell (by dsimp only; omega) _).setCell (by dsimp only; omega) _)).mono (by omega), ((HO.out.setCell (.inr (by dsimp only; omega)) _).setCell (.inr (by dsimp only; omega)) _)⟩
set_option maxRecDepth 20000 in
set_option maxHeartbeats 4000000 in
theorem s_l20Layer_3 (rb P : Nat) (rows cols : Int) (hr : 1 ≤ rows ∧ rows ≤ 5) (hc : 1 ≤ cols ∧ cols ≤ 5) (w : World) (h : Rd w rb P) (hP : P < 900000) :
    Calls Try.prog 59 #[.pointer (some ⟨rb, 0, none⟩), .int .i64 3, .int .i64 rows, .int .i64 cols, .int .i64 0] w (DLy w rb (P + 700) 3) := by
  obtain ⟨u1, hu1⟩ : ∃ u, u = ((w.alloc (.cells #[.int .i64 0, .slice none 0 0] 58)).alloc (.cells #[.int .i64 3, .slice none 0 0] 58)) := ⟨_, rfl⟩
  have b0_1 : Blk u1 w.heap.size 58 #[.int .i64 0, .slice none 0 0] := by rw [hu1]; exact (Blk.new _ _ _).alloc _
  have b1_1 : Blk u1 (w.heap.size + 1) 58 #[.int .i64 3, .slice none 0 0] := by rw [hu1]; have h := Blk.new (w.alloc (.cells #[.int .i64 0, .slice none 0 0] 58)) 58 #[.int .i64 3, .slice none 0 0]; simpa using h
  have r_1 : Rd u1 rb P := by rw [hu1]; exact (h.alloc _).alloc _
  have o_1 : Only rb w u1 := by rw [hu1]; exact ((Only.refl rb w).alloc _).alloc _
  have hrw := h.lt
  clear h
  go_enter Try.func59, Try.ntmps59
  go_wp2_with fail
  rw [← hu1]
  have s_1 : w.heap.size + 2 ≤ u1.heap.size := by rw [hu1]; simp
  clear hu1
  refine (s_l20Matrix0 rb (P) (cols) (cols) hc hc u1 r_1 (by omega)).mono ?_
  rintro e w2 ⟨A0, c0, x0, rfl, hos, hl0, r', o'⟩
  have b0_2 := b0_1.only o' (by omega)
  have b1_2 := b1_1.only o' (by omega)
  have r_2 := r'
  have o_2 := o_1.trans o'
  have s_2 := o_2.size
  have t_2 := o'.size
  clear b0_1 b1_1 r_1 o_1 o' r'
  have hos0_2 := hos
  have hlt0 : ∀ g, blk A0 = some g → g < w2.heap.size := fun g hg => (hos0_2.blk_lt g hg).2
  clear hos
  have hbs0 : w.heap.size + 2 ≤ u1.heap.size := by omega
  go_wp2_with fail
  refine (s_l20Matrix0 rb (P + 220) (cols) (cols) hc hc w2 r_2 (by omega)).mono ?_
  rintro e w3 ⟨A1, c1, x1, rfl, hos, hl1, r', o'⟩
  have b0_3 := b0_2.only o' (by omega)
  have b1_3 := b1_2.only o' (by omega)
  have r_3 := r'
  have o_3 := o_2.trans o'
  have hos0_3 := hos0_2.only o' (by omega)
  have s_3 := o_3.size
  have t_3 := o'.size
  clear b0_2 b1_2 r_2 o_2 o' r' hos0_2
  have hos1_3 := hos
  have hlt1 : ∀ g, blk A1 = some g → g < w3.heap.size := fun g hg => (hos1_3.blk_lt g hg).2
  clear hos
  have hbs1 : w.heap.size + 2 ≤ w2.heap.size := by omega
  go_wp2_with fail
  refine (s_l20Matrix0 rb (P + 220 + 220) (cols) (cols) hc hc w3 r_3 (by omega)).mono ?_
  rintro e w4 ⟨A2, c2, x2, rfl, hos, hl2, r', o'⟩
  have b0_4 := b0_3.only o' (by omega)
  have b1_4 := b1_3.only o' (by omega)
  have r_4 := r'
  have o_4 := o_3.trans o'
  have hos0_4 := hos0_3.only o' (by omega)
  have hos1_4 := hos1_3.only o' (by omega)
  have s_4 := o_4.size
  have t_4 := o'.size
  clear b0_3 b1_3 r_3 o_3 o' r' hos0_3 hos1_3
  have hos2_4 := hos
  have hlt2 : ∀ g, blk A2 = some g → g < w4.heap.size := fun g hg => (hos2_4.blk_lt g hg).2
  clear hos
  have hbs2 : w.heap.size + 2 ≤ w3.heap.size := by omega
  have HMF : Hid (∃ F, Elts mxE w4 [[.int .i64 (cols), .int .i64 (cols), .slice A0 x0.length c0], [.int .i64 (cols), .int .i64 (cols), .slice A1 x1.length c1], [.int .i64 (cols), .int .i64 (cols), .slice A2 x2.length c2]] [(⟨cols, cols, x0⟩ : Mx), (⟨cols, cols, x1⟩ : Mx), (⟨cols, cols, x2⟩ : Mx)] F ∧ Fr w4 (w.heap.size + 2) F) := by
    have f0 := fr_os hos0_4
    have f1 := fr_os hos1_4
    have f2 := fr_os hos2_4
    have hd0 : ∀ g, g ∈ fpI A0 x0.length → g ∈ fpI A1 x1.length ∨ g ∈ fpI A2 x2.length → False := by
      intro g h1 h2
      have a1 := hlt0 g (fpI_mem h1).2
      rcases h2 with h2 | h2
      · have a2 := (hos1_4.blk_lt g (fpI_mem h2).2).1; omega
      · have a2 := (hos2_4.blk_lt g (fpI_mem h2).2).1; omega
    have hd1 : ∀ g, g ∈ fpI A1 x1.length → g ∈ fpI A2 x2.length → False := by
      intro g h1 h2
      have a1 := hlt1 g (fpI_mem h1).2
      rcases h2 with h2
      · have a2 := (hos2_4.blk_lt g (fpI_mem h2).2).1; omega
    have hd2 : ∀ g, g ∈ fpI A2 x2.length → False → False := by
      intro g h1 h2; exact h2
    exact ⟨_, ⟨_, _, rfl, ⟨A0, c0, rfl, MF.of_os (m := ⟨cols, cols, x0⟩) hos0_4⟩, ⟨_, _, rfl, ⟨A1, c1, rfl, MF.of_os (m := ⟨cols, cols, x1⟩) hos1_4⟩, ⟨_, _, rfl, ⟨A2, c2, rfl, MF.of_os (m := ⟨cols, cols, x2⟩) hos2_4⟩, rfl⟩⟩⟩, Fr.app (f0.mono (by omega)) (Fr.app (f1.mono (by omega)) (Fr.app (f2.mono (by omega)) (Fr.nil _ _) (fun g h1 h2 => by cases h2)) (fun g h1 h2 => hd1 g h1 (by simpa using h2))) (fun g h1 h2 => hd0 g h1 (by simpa using h2))⟩
  have z0 : w.heap.size < w4.heap.size := b0_4.lt
  have z1 : w.heap.size + 1 < w4.heap.size := b1_4.lt
  have cb00 : w4.cell? ⟨w.heap.size, 0, none⟩ = some (.int .i64 0) := b0_4.cell 0
  have fb00 : w4.frozen? ⟨w.heap.size, 0, none⟩ = false := b0_4.frozen 0
  have cb01 : w4.cell? ⟨w.heap.size, 1, none⟩ = some (.slice none 0 0) := b0_4.cell 1
  have fb01 : w4.frozen? ⟨w.heap.size, 1, none⟩ = false := b0_4.frozen 1
  have cb10 : w4.cell? ⟨w.heap.size + 1, 0, none⟩ = some (.int .i64 3) := b1_4.cell 0
  have fb10 : w4.frozen? ⟨w.heap.size + 1, 0, none⟩ = false := b1_4.frozen 0
  have cb11 : w4.cell? ⟨w.heap.size + 1, 1, none⟩ = some (.slice none 0 0) := b1_4.cell 1
  have fb11 : w4.frozen? ⟨w.heap.size + 1, 1, none⟩ = false := b1_4.frozen 1
  go_wp2_with fail
  refine (s_odd0 rb _).mono ?_
  rintro e w' ⟨rfl, rfl⟩
  obtain ⟨F, hE, hF⟩ := HMF.out
  have hkk : ∀ g, g ∈ F → (((w4.setCell ⟨w.heap.size + 1, 1, none⟩ (.slice (some ⟨w4.heap.size, 0, none⟩) 3 3)).setCell ⟨w.heap.size, 0, none⟩ (.int .i64 3)).setCell ⟨w.heap.size, 1, none⟩ (.slice (some ⟨w4.heap.size, 0, none⟩) 3 3)).heap[g]? = w4.heap[g]? := fun g hg => by
    have := (hF.2 g hg).1
    exact (Below.heap_setCell _ _ _ g (by dsimp only; omega)).trans ((Below.heap_setCell _ _ _ g (by dsimp only; omega)).trans (Below.heap_setCell _ _ _ g (by dsimp only; omega)))
  have hzz : (((w4.setCell ⟨w.heap.size + 1, 1, none⟩ (.slice (some ⟨w4.heap.size, 0, none⟩) 3 3)).setCell ⟨w.heap.size, 0, none⟩ (.int .i64 3)).setCell ⟨w.heap.size, 1, none⟩ (.slice (some ⟨w4.heap.size, 0, none⟩) 3 3)).heap.size = w4.heap.size := by simp [World.setCell]
  have hox := OX.lit (((w4.setCell ⟨w.heap.size + 1, 1, none⟩ (.slice (some ⟨w4.heap.size, 0, none⟩) 3 3)).setCell ⟨w.heap.size, 0, none⟩ (.int .i64 3)).setCell ⟨w.heap.size, 1, none⟩ (.slice (some ⟨w4.heap.size, 0, none⟩) 3 3)) (base := w.heap.size + 2) (by rw [hzz]; omega) 61 (hE.keep hkk) (hF.keep hkk) (by unfold maxLen; simp)
  rw [hzz] at hox
  clear hkk hzz
  obtain ⟨F2, hr2, hf2⟩ := hox.ri
  simp only [List.flatten_cons, List.flatten_nil, List.cons_append, List.nil_append, List.length_cons, List.length_nil] at hr2 hf2
  have HR2 := Lib.hid hr2
  have HF2 := Lib.hid hf2
  clear hE hF hox hr2 hf2 HMF
  have HR := Lib.hid r_4
  have HO := Lib.hid o_4
  clear r_4 o_4 hos0_4 hlt0 hos1_4 hlt1 hos2_4 hlt2
  go_wp2
  exact bodyPost_ret (v := .agg #[.int .i64 3, .slice (some ⟨w4.heap.size, 0, none⟩) 3 3]) (by simp [results, Try.results59, go_sem, z0, z1, cb00, fb00, cb01, fb01, cb10, fb10, cb11, fb11]) rfl ⟨_, 3, 3, [(⟨cols, cols, x0⟩ : Mx), (⟨cols, cols, x1⟩ : Mx), (⟨cols, cols, x2⟩ : Mx)], F2, rfl, HR2.out, HF2.out.mono (by omega), by omega, by intro m hm; simp at hm; rcases hm with rfl | rfl | rfl <;> assumption, fun h => absurd h (by decide), ((((((HR.out.setCell (by dsimp only; omega) _).setCell (by dsimp only; omega) _).setCell (by dsimp only; omega) _).alloc _))).mono (by omega), (((((HO.out.setCell (.inr (by dsimp only; omega)) _).setCell (.inr (by dsimp only; omega)) _).setCell (.inr (by dsimp only; omega)) _).alloc _))⟩
end Go.Proofs.Ytkpmnfegdhfhcaa

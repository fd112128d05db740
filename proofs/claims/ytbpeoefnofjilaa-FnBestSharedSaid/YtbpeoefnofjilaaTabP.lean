/-
  TABLES: what a table holds; small lemmas. Printed by gen_table.py.
-/
import Derived.Test.YtbpeoefnofjilaaTriple
import Derived.Test.YtbpeoefnofjilaaFval
import Derived.Test.YtbpeoefnofjilaaBest
import Derived.Deep.DeepCutAuto
import Derived.Deep.RegionHeld3
namespace Go.Proofs.Ytbpeoefnofjilaa
open Go.RowKit
set_option linter.unusedVariables false
set_option linter.unusedSimpArgs false

/-- the shift of the table behind a seed; its second shares -/
def shf (s : Int) : Int := (rn s 0 + rn s 1) % 4096
def sec (f : Nat → Int) (s : Int) (i : Nat) : Int := (f (((i : Int) - shf s) % 4096).toNat - rn (sds s 2) i) % 4096
theorem shf_ok (s : Int) : 0 ≤ shf s ∧ shf s ≤ 4095 := by unfold shf; omega
theorem sec_ok (f : Nat → Int) (s : Int) (i : Nat) : 0 ≤ sec f s i ∧ sec f s i ≤ 4095 := by unfold sec; omega
theorem shf_add (s : Int) : addR (rn s 0) (rn s 1) = shf s := addR_in (rn_ok s 0) (rn_ok s 1)
theorem fl_all (f : Nat → Int) (n : Nat) (h : ∀ k, k < n → 0 ≤ f k ∧ f k ≤ 4095) : (fl f n).all rv = true := by
  rw [List.all_eq_true]
  intro x hx
  simp only [fl, List.mem_map, List.mem_range] at hx
  obtain ⟨k, hk, rfl⟩ := hx
  exact rv_true (h k hk)
theorem OS.setBlk {w : World} {base n c g i : Nat} {A : Option Addr} {xs : List Int} {t : TypeId} {cs : Array Value} (h : OS w base A n c xs) (hb : Blk w g t cs) (hne : 3 ≠ t) (u : Value) : OS (w.setCell ⟨g, i, none⟩ u) base A n c xs := by
  refine h.keep (by simp [World.setCell]) fun g' hg' hl => Below.heap_setCell w _ u g' ?_
  rintro rfl
  rcases h.2 with ⟨e, _⟩ | ⟨g2, cap, cur, e, _, hh, _⟩
  · injection e with e1; subst e1; cases hg'
  · injection e with e1; subst e1
    injection hg' with hg'
    dsimp only at hg'
    subst hg'
    unfold Blk at hb
    rw [hb] at hh
    injection hh with hh
    injection hh with _ hh
    exact hne hh.symm
/-- a table: its shift, its first and second shares; the seed behind it -/
def Tb (f : Nat → Int) (s : Int) (w : World) (e : Ending) (w' : World) : Prop := ∃ (A B : Option Addr) (c d : Nat), e = .returned (.tuple #[.agg #[.int .i64 (rn s 0), .int .i64 (rn s 1), .slice A 4096 c, .slice B 4096 d], .int .i64 (sds (sds s 2) 4096)]) ∧
  OS w' w.heap.size A 4096 c (fl (rn (sds s 2)) 4096) ∧ OS w' w.heap.size B 4096 d (fl (sec f s) 4096) ∧ Below w.heap.size w w'
abbrev TBV (s : Int) (F S : Value) : Array Value := #[.int .i64 (rn s 0), .int .i64 (rn s 1), F, S]
/-- a table that has just been laid -/
def TW (f : Nat → Int) (s : Int) (F : Value) (U wx : World) (gT gS : Nat) : Prop :=
  Below U.heap.size U wx ∧ U.heap.size ≤ gT ∧ U.heap.size ≤ gS ∧ Blk wx gT 70 #[.int .i64 (rn s 0), .int .i64 (rn s 1), F, .slice (some ⟨gS, 0, none⟩) 4096 4096] ∧ OS wx U.heap.size (some ⟨gS, 0, none⟩) 4096 4096 (fl (sec f s) 0 ++ List.replicate (4096 - 0) 0)
theorem zeros0 (f : Nat → Int) (n : Nat) : fl f 0 ++ List.replicate (n - 0) 0 = List.replicate n 0 := by
  have e0 : fl f 0 = [] := rfl
  rw [e0, List.nil_append, Nat.sub_zero]
theorem tw1 (f : Nat → Int) (s : Int) (F : Value) (U : World) {O : Obj} (hO : O = ZB 4096) : TW f s F U ((U.alloc O).alloc (.cells #[.int .i64 (rn s 0), .int .i64 (rn s 1), F, .slice (some ⟨U.heap.size, 0, none⟩) 4096 4096] 70)) (U.heap.size + 1) U.heap.size := by
  subst hO
  refine ⟨((Below.refl _ _).alloc (Nat.le_refl _) _).alloc (by simp) _, by omega, Nat.le_refl _, ?_, ?_⟩
  · have h := Blk.new (U.alloc (ZB 4096)) 70 #[.int .i64 (rn s 0), .int .i64 (rn s 1), F, .slice (some ⟨U.heap.size, 0, none⟩) 4096 4096]
    simpa using h
  · rw [zeros0]
    exact (OS.zeros U 4096 (by omega)).alloc _
theorem tw2 (f : Nat → Int) (s : Int) (F : Value) (U : World) {O : Obj} (hO : O = ZB 4096) : TW f s F U ((U.alloc (.cells #[.int .i64 (rn s 0), .int .i64 (rn s 1), F, .slice (some ⟨U.heap.size + 1, 0, none⟩) 4096 4096] 70)).alloc O) U.heap.size (U.heap.size + 1) := by
  subst hO
  refine ⟨((Below.refl _ _).alloc (Nat.le_refl _) _).alloc (by simp) _, Nat.le_refl _, by omega, (Blk.new _ _ _).alloc _, ?_⟩
  rw [zeros0]
  have h := (OS.zeros (U.alloc (.cells #[.int .i64 (rn s 0), .int .i64 (rn s 1), F, .slice (some ⟨U.heap.size + 1, 0, none⟩) 4096 4096] 70)) 4096 (by omega))
  simp only [World.size_alloc] at h
  exact h.mono (by omega)
theorem TW.drew {f : Nat → Int} {s : Int} {F : Value} {U wx : World} {gT gS : Nat} (h : TW f s F U wx gT gS) : TW f s F U wx.drew gT gS := ⟨h.1.drew, h.2⟩
theorem TW.drewN {f : Nat → Int} {s : Int} {F : Value} {U wx : World} {gT gS : Nat} (h : TW f s F U wx gT gS) (n : Nat) : TW f s F U (wx.drewN n) gT gS := ⟨below_drewN h.1 n, h.2⟩
/-- between two rounds of the program's loop -/
def Lp (f : Nat → Int) (s : Int) (w : World) (gT gS gF cF : Nat) (wr : World) (j : Nat) : Prop :=
  Blk wr w.heap.size 70 #[.int .i64 0, .int .i64 0, .slice none 0 0, .slice none 0 0] ∧ Blk wr gT 70 #[.int .i64 (rn s 0), .int .i64 (rn s 1), .slice (some ⟨gF, 0, none⟩) 4096 cF, .slice (some ⟨gS, 0, none⟩) 4096 4096] ∧
  OS wr w.heap.size (some ⟨gF, 0, none⟩) 4096 cF (fl (rn (sds s 2)) 4096) ∧ OS wr w.heap.size (some ⟨gS, 0, none⟩) 4096 4096 (fl (sec f s) j ++ List.replicate (4096 - j) 0) ∧ Below w.heap.size w wr
theorem blk_ne_os {w : World} {base n c g h : Nat} {xs : List Int} {t : TypeId} {cs : Array Value} (ho : OS w base (some ⟨g, 0, none⟩) n c xs) (hb : Blk w h t cs) (hne : 3 ≠ t) : h ≠ g := by
  rintro rfl
  rcases ho.2 with ⟨e, _⟩ | ⟨g2, cap, cur, e, _, hh, _⟩
  · cases e
  · injection e with e1
    injection e1 with e1
    injection e1 with e1
    subst e1
    unfold Blk at hb
    rw [hb] at hh
    injection hh with hh
    injection hh with _ hh
    exact hne hh.symm
theorem Lp.step {f : Nat → Int} {s : Int} {w wr : World} {gT gS gF cF j : Nat} (h : Lp f s w gT gS gF cF wr j) (hne : gF ≠ gS) (hj : j < 4096) (n : Nat) : Lp f s w gT gS gF cF ((wr.drewN n).setCell ⟨gS, j, none⟩ (.int .i64 (sec f s j))) (j + 1) := by
  obtain ⟨h1, h2, h3, h4, h5⟩ := h
  have n1 := blk_ne_os h4 h1 (by decide)
  have n2 := blk_ne_os h4 h2 (by decide)
  have hb := (h4.blk_lt gS rfl).1
  refine ⟨h1.drewN n |>.far (p := ⟨gS, j, none⟩) n1 _, h2.drewN n |>.far (p := ⟨gS, j, none⟩) n2 _, ?_, ?_, (below_drewN h5 n).setCell hb _⟩
  · exact (h3.drewN n).keep (by simp [World.setCell]) fun g hg _ => Below.heap_setCell _ _ _ _ (by injection hg with hg; dsimp only at hg ⊢; omega)
  · have h := (World.ownsRow.stored (OS.drewN h4 n) j (.int .i64 (sec f s j))).1
    rw [← List.map_set, fl_set (sec f s) 4096 j hj] at h
    exact h
/-- between two rounds of the reference's loop -/
def Lq (f : Nat → Int) (s : Int) (w : World) (gT gF cF : Nat) (wr : World) (j : Nat) (A : Option Addr) (c : Nat) : Prop :=
  Blk wr w.heap.size 70 #[.int .i64 0, .int .i64 0, .slice none 0 0, .slice none 0 0] ∧ Blk wr gT 70 #[.int .i64 (rn s 0), .int .i64 (rn s 1), .slice (some ⟨gF, 0, none⟩) 4096 cF, .slice A j c] ∧
  OS wr w.heap.size (some ⟨gF, 0, none⟩) 4096 cF (fl (rn (sds s 2)) 4096) ∧ OS wr w.heap.size A j c (fl (sec f s) j) ∧ Apart (some ⟨gF, 0, none⟩) A ∧ Below w.heap.size w wr
theorem blk_ne_own {w : World} {base n c h : Nat} {A : Option Addr} {xs : List Int} {t : TypeId} {cs : Array Value} (ho : OS w base A n c xs) (hb : Blk w h t cs) (hne : 3 ≠ t) : blk A ≠ some h := by
  intro e
  rcases ho.2 with ⟨e1, _⟩ | ⟨g2, cap, cur, e1, _, hh, _⟩
  · injection e1 with e1; subst e1; cases e
  · injection e1 with e1
    subst e1
    injection e with e
    dsimp only at e
    subst e
    unfold Blk at hb
    rw [hb] at hh
    injection hh with hh
    injection hh with _ hh
    exact hne hh.symm
theorem Blk.onlyS {w w' : World} {g : Nat} {A : Option Addr} {t : TypeId} {cs : Array Value} (h : Blk w g t cs) (ho : OnlyS A w w') (hne : blk A ≠ some g) : Blk w' g t cs := (ho.block g h.lt (fun e => hne e.symm)).trans h
def LqA (f : Nat → Int) (s : Int) (w : World) (gT gF cF : Nat) (w1 : World) (j : Nat) (A : Option Addr) (c g cap : Nat) : Prop :=
    Blk w1 w.heap.size 70 #[.int .i64 0, .int .i64 0, .slice none 0 0, .slice none 0 0] ∧ Blk w1 gT 70 #[.int .i64 (rn s 0), .int .i64 (rn s 1), .slice (some ⟨gF, 0, none⟩) 4096 cF, .slice A j c] ∧
    OS w1 w.heap.size (some ⟨gF, 0, none⟩) 4096 cF (fl (rn (sds s 2)) 4096) ∧ OS w1 w.heap.size (some ⟨g, 0, none⟩) (j + 1) cap (fl (sec f s) (j + 1)) ∧ Apart (some ⟨gF, 0, none⟩) (some ⟨g, 0, none⟩) ∧ Below w.heap.size w w1
theorem Lq.app {f : Nat → Int} {s : Int} {w wr w1 : World} {gT gF cF j c g cap n : Nat} {A : Option Addr} {o : Obj} (h : Lq f s w gT gF cF wr j A c)
    (hown : w1.ownsRow w.heap.size 3 1 (.slice (some ⟨g, 0, none⟩) (j + 1) cap) (j + 1) ((fl (sec f s) j).map (Value.int .i64) ++ [.int .i64 (sec f s j)])) (hg : ((wr.drewN n).alloc o).grownBy w1 (Value.slice A j c).ownBlock)
    (hat : (Value.slice A j c).ownBlock = some g ∨ g = wr.heap.size + 1) :
    LqA f s w gT gF cF w1 j A c g cap := by
  obtain ⟨h1, h2, h3, h4, h5, h6⟩ := h
  obtain ⟨k1, k2, k3, k4⟩ := own_push_at (wr := wr.drewN n) (OS.drewN h4 n) (below_drewN h6 n) h6.size hown hg hat
  have n1 := blk_ne_own h4 h1 (by decide)
  have n2 := blk_ne_own h4 h2 (by decide)
  refine ⟨(h1.drewN n).onlyS k3 n1, (h2.drewN n).onlyS k3 n2, (OS.drewN h3 n).onlyS k3 h5, by rw [fl_succ]; exact k1, apart_push h5 h3 k4, k2⟩
theorem Lq.next {f : Nat → Int} {s : Int} {w w1 : World} {gT gF cF j c g cap : Nat} {A : Option Addr}
    (h : LqA f s w gT gF cF w1 j A c g cap) (hT : w.heap.size < gT) :
    Lq f s w gT gF cF (w1.setCell ⟨gT, 3, none⟩ (.slice (some ⟨g, 0, none⟩) (j + 1) cap)) (j + 1) (some ⟨g, 0, none⟩) cap := by
  obtain ⟨h1, h2, h3, h4, h5, h6⟩ := h
  refine ⟨h1.far (p := ⟨gT, 3, none⟩) (by dsimp only; omega) _, h2.set_ 3 _, h3.setBlk h2 (by decide) _, h4.setBlk h2 (by decide) _, h5, h6.setCell (by dsimp only; omega) _⟩
theorem cv_drewN (w : World) (n g o : Nat) : cv (w.drewN n) g o = cv w g o := rfl
theorem cv_drew (w : World) (g o : Nat) : cv w.drew g o = cv w g o := rfl
theorem sec_s {f : Nat → Int} (s : Int) (j : Nat) : (f (((j : Int) - shf s) % 4096).toNat - rn (sds s 2) j) % 4096 = sec f s j := rfl
theorem tb_fin {w wr : World} {gF gS cF cS : Nat} {xs ys : List Int} {cs : Array Value} (h3 : OS wr w.heap.size (some ⟨gF, 0, none⟩) 4096 cF xs) (h4 : OS wr w.heap.size (some ⟨gS, 0, none⟩) 4096 cS ys) (h1 : Blk wr w.heap.size 70 cs) (h5 : Below w.heap.size w wr) {a b c d : Value} :
    OS ((((wr.setCell ⟨w.heap.size, 0, none⟩ a).setCell ⟨w.heap.size, 1, none⟩ b).setCell ⟨w.heap.size, 2, none⟩ c).setCell ⟨w.heap.size, 3, none⟩ d) w.heap.size (some ⟨gF, 0, none⟩) 4096 cF xs ∧ OS ((((wr.setCell ⟨w.heap.size, 0, none⟩ a).setCell ⟨w.heap.size, 1, none⟩ b).setCell ⟨w.heap.size, 2, none⟩ c).setCell ⟨w.heap.size, 3, none⟩ d) w.heap.size (some ⟨gS, 0, none⟩) 4096 cS ys ∧
    Below w.heap.size w ((((wr.setCell ⟨w.heap.size, 0, none⟩ a).setCell ⟨w.heap.size, 1, none⟩ b).setCell ⟨w.heap.size, 2, none⟩ c).setCell ⟨w.heap.size, 3, none⟩ d) := by
  have k (n m cc : Nat) (A : Option Addr) (zs : List Int) (h : OS wr w.heap.size A n cc zs) : OS ((((wr.setCell ⟨w.heap.size, 0, none⟩ a).setCell ⟨w.heap.size, 1, none⟩ b).setCell ⟨w.heap.size, 2, none⟩ c).setCell ⟨w.heap.size, 3, none⟩ d) w.heap.size A n cc zs :=
    (((h.setBlk h1 (by decide) _).setBlk (h1.set_ 0 _) (by decide) _).setBlk ((h1.set_ 0 _).set_ 1 _) (by decide) _).setBlk (((h1.set_ 0 _).set_ 1 _).set_ 2 _) (by decide) _
  exact ⟨k _ 0 _ _ _ h3, k _ 0 _ _ _ h4, (((h5.setCell (Nat.le_refl _) _).setCell (Nat.le_refl _) _).setCell (Nat.le_refl _) _).setCell (Nat.le_refl _) _⟩
theorem emod_idx (j : Nat) (s : Int) : ((((j : Int) - s) % 4096).toNat : Int) = ((j : Int) - s) % 4096 := by omega
theorem sec_i {f : Nat → Int} (hf : ∀ j, j < 4096 → 0 ≤ f j ∧ f j ≤ 4095) (s : Int) (j : Nat) : subR (f (((j : Int) - shf s) % 4096).toNat) (rn (sds s 2) j) = sec f s j := subR_in (hf _ (by omega)) (rn_ok _ _)
end Go.Proofs.Ytbpeoefnofjilaa

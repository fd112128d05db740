/-
  ReadMatrix of the program.
-/
import Derived.Test.YtcmgnnfkgkibgaaDoorRmP
import Derived.Test.YtcmgnnfkgkibgaaDoorRf2
import Derived.Test.YtcmgnnfkgkibgaaDoorOsBlk
namespace Go.Proofs.YtcmgnnfkgkibgaaDoor
open Go.RowKit
set_option linter.unusedVariables false
set_option linter.unusedSimpArgs false

/-- a matrix read, or none -/
def RMx (l : List UInt8) (w : World) (e : Ending) (w' : World) : Prop := ∃ (m : Mx) (ok : Bool) (A : Option Addr) (c : Nat), e = .returned (.tuple #[MV m.r m.c A m.v.length c, .bool ok]) ∧ OS w' w.heap.size A m.v.length c m.v ∧ RMp l m ok ∧ Below w.heap.size w w'
theorem RMx.no {l : List UInt8} {w w' : World} (h : RMp l Mx.z false) (hb : Below w.heap.size w w') : RMx l w (.returned (.tuple #[MV 0 0 none 0 0, .bool false])) w' := ⟨Mx.z, false, none, 0, rfl, OS.nil _ _, h, hb⟩
theorem apart_ty {w : World} {b1 b2 n1 n2 c1 c2 s1 s2 : Nat} {A B : Option Addr} {v1 v2 : List Value} {T1 T2 : TypeId} (h1 : VO w b1 T1 s1 A n1 c1 v1) (h2 : VO w b2 T2 s2 B n2 c2 v2) (hne : T2 ≠ T1) : Apart A B := fun g ha hb => by
  rcases h1.2 with ⟨e, _⟩ | ⟨g1, k1, cur1, e, _, hh1, _⟩
  · injection e with e; subst e; cases ha
  · rcases h2.2 with ⟨e2, _⟩ | ⟨g2, k2, cur2, e2, _, hh2, _⟩
    · injection e2 with e2; subst e2; cases hb
    · injection e with e; injection e2 with e2
      subst e e2
      injection ha with ha; injection hb with hb
      dsimp only at ha hb
      subst ha hb
      rw [hh1] at hh2
      injection hh2 with hh2
      injection hh2 with _ hh2
      exact hne hh2.symm
abbrev PP (l : List UInt8) : List (List UInt8) := Lib.split l [59, 32]
abbrev WW (l : List UInt8) (k : Nat) : List (List UInt8) := Lib.split ((PP l).getD k []) [32]
abbrev ZZ3 : Array Value := #[.int .i64 0, .int .i64 0, .slice none 0 0]
/-- between two rounds of the outer loop -/
def Ro (l : List UInt8) (w wr : World) (p gR gM k C : Nat) (A : Option Addr) (n cap : Nat) (vs : List Int) : Prop :=
  (Rok (PP l) C k vs ∧ vs.length = n) ∧ Blk wr w.heap.size 37 ZZ3 ∧ Blk wr gM 37 #[.int .i64 (p : Int), .int .i64 (C : Int), .slice A n cap] ∧ OS wr w.heap.size A n cap vs ∧
  VO wr w.heap.size 9 1 (some ⟨gR, 0, none⟩) p p (strs (PP l)) ∧ Below w.heap.size w wr ∧ w.heap.size < gM
theorem Ro.below {l : List UInt8} {w wr w1 : World} {p gR gM k C n cap : Nat} {A : Option Addr} {vs : List Int} (h : Ro l w wr p gR gM k C A n cap vs) (hb : Below wr.heap.size wr w1) : Ro l w w1 p gR gM k C A n cap vs := by
  obtain ⟨h1, h2, h3, h4, h5, h6, h7⟩ := h
  exact ⟨h1, h2.below' hb, h3.below' hb, h4.below hb, h5.below hb, bstep hb h6.size h6, h7⟩
/-- between two rounds of the inner loop -/
def Rn (l : List UInt8) (w wr : World) (p gR gM gW k C j : Nat) (A : Option Addr) (n cap : Nat) (vs ys : List Int) : Prop :=
  (Rok (PP l) C k vs ∧ vs.length = n ∧ Rjk (WW l k) j ys) ∧ Blk wr w.heap.size 37 ZZ3 ∧ Blk wr gM 37 #[.int .i64 (p : Int), .int .i64 (C : Int), .slice A (n + j) cap] ∧ OS wr w.heap.size A (n + j) cap (vs ++ ys) ∧
  VO wr w.heap.size 9 1 (some ⟨gR, 0, none⟩) p p (strs (PP l)) ∧ Below w.heap.size w wr ∧ w.heap.size < gM ∧ VO wr w.heap.size 9 1 (some ⟨gW, 0, none⟩) C C (strs (WW l k))
theorem Rn.below {l : List UInt8} {w wr w1 : World} {p gR gM gW k C j n cap : Nat} {A : Option Addr} {vs ys : List Int} (h : Rn l w wr p gR gM gW k C j A n cap vs ys) (hb : Below wr.heap.size wr w1) : Rn l w w1 p gR gM gW k C j A n cap vs ys := by
  obtain ⟨h1, h2, h3, h4, h5, h6, h7, h8⟩ := h
  exact ⟨h1, h2.below' hb, h3.below' hb, h4.below hb, h5.below hb, bstep hb h6.size h6, h7, h8.below hb⟩
theorem Ro.inner {l : List UInt8} {w wr : World} {p gR gM gW k C n cap : Nat} {A : Option Addr} {vs : List Int} (h : Ro l w wr p gR gM k C A n cap vs) (hw : VO wr w.heap.size 9 1 (some ⟨gW, 0, none⟩) C C (strs (WW l k))) : Rn l w wr p gR gM gW k C 0 A n cap vs [] := by
  obtain ⟨⟨h1, h0⟩, h2, h3, h4, h5, h6, h7⟩ := h
  exact ⟨⟨h1, h0, Rjk.start _⟩, h2, h3, by rw [List.append_nil]; exact h4, h5, h6, h7, hw⟩
theorem Ro.inner0 {l : List UInt8} {w wr : World} {p gR gM gW C q n cap : Nat} {A : Option Addr} {vs : List Int} (h : Ro l w wr p gR gM 0 C A n cap vs) (hw : VO wr w.heap.size 9 1 (some ⟨gW, 0, none⟩) q q (strs (WW l 0))) : Rn l w (wr.setCell ⟨gM, 1, none⟩ (.int .i64 (q : Int))) p gR gM gW 0 q 0 A n cap vs [] := by
  obtain ⟨⟨h1, h0⟩, h2, h3, h4, h5, h6, h7⟩ := h
  have hv : vs = [] := by have := h1.1; rw [Nat.zero_mul] at this; exact List.eq_nil_of_length_eq_zero this
  subst hv
  exact ⟨⟨Rok.start _ _, h0, Rjk.start _⟩, h2.far (p := ⟨gM, 1, none⟩) (by dsimp only; omega) _, h3.set_ 1 _, by rw [List.append_nil]; exact h4.setBlk h3 (by decide) _, h5.far (p := ⟨gM, 1, none⟩) (h5.blkNe h3 (by decide)) _, h6.setCell (by dsimp only; omega) _, h7, hw.far (p := ⟨gM, 1, none⟩) (hw.blkNe h3 (by decide)) _⟩
theorem Rn.outer {l : List UInt8} {w wr : World} {p gR gM gW k C n cap : Nat} {A : Option Addr} {vs ys : List Int} (h : Rn l w wr p gR gM gW k C C A n cap vs ys) (hk : k < (PP l).length) (hC : (WW l k).length = C) (C5 : C ≤ 5) : Ro l w wr p gR gM (k + 1) C A (n + C) cap (vs ++ ys) := by
  obtain ⟨⟨h1, h0, hy⟩, h2, h3, h4, h5, h6, h7, h8⟩ := h
  exact ⟨⟨h1.next hk hy hC C5, by rw [List.length_append, h0, hy.1]⟩, h2, h3, h4, h5, h6, h7⟩
theorem Rn.push {l : List UInt8} {w wr w1 : World} {p gR gM gW k C j n cap g cap' : Nat} {A : Option Addr} {vs ys : List Int} {v : Int} {o : Obj} (h : Rn l w wr p gR gM gW k C j A n cap vs ys) (hj : j < (WW l k).length) (hv : 0 ≤ v ∧ v ≤ 4095) (he : fx v = (WW l k).getD j [])
    (hown : w1.ownsRow w.heap.size 3 1 (.slice (some ⟨g, 0, none⟩) (n + j + 1) cap') (n + j + 1) ((vs ++ ys).map (Value.int .i64) ++ [.int .i64 v])) (hg : (wr.alloc o).grownBy w1 (Value.slice A (n + j) cap).ownBlock)
    (hat : (Value.slice A (n + j) cap).ownBlock = some g ∨ g = wr.heap.size + 1) :
    Blk w1 gM 37 #[.int .i64 (p : Int), .int .i64 (C : Int), .slice A (n + j) cap] ∧ Rn l w (w1.setCell ⟨gM, 2, none⟩ (.slice (some ⟨g, 0, none⟩) (n + j + 1) cap')) p gR gM gW k C (j + 1) (some ⟨g, 0, none⟩) n cap' vs (ys ++ [v]) := by
  obtain ⟨⟨h1, h0, hy⟩, h2, h3, h4, h5, h6, h7, h8⟩ := h
  obtain ⟨k1, k2, k3, _⟩ := own_push_at h4 h6 h6.size hown hg hat
  have n2 := blk_ne_own h4 h2 (by decide)
  have n3 := blk_ne_own h4 h3 (by decide)
  have b3 := h3.onlyS k3 n3
  have v5 := h5.onlyS k3 (apart_ty h5 h4 (by decide))
  have v8 := h8.onlyS k3 (apart_ty h8 h4 (by decide))
  refine ⟨b3, ⟨h1, h0, hy.step hj hv he⟩, (h2.onlyS k3 n2).far (p := ⟨gM, 2, none⟩) (by dsimp only; omega) _, b3.set_ 2 _, ?_, v5.far (p := ⟨gM, 2, none⟩) (v5.blkNe b3 (by decide)) _, k2.setCell (by dsimp only; omega) _, h7, v8.far (p := ⟨gM, 2, none⟩) (v8.blkNe b3 (by decide)) _⟩
  rw [← List.append_assoc]
  exact k1.setBlk b3 (by decide) _
set_option maxRecDepth 20000 in
set_option maxHeartbeats 8000000 in
theorem i_ReadMatrix (l : List UInt8) (hl : l.length ≤ 1048576) (w : World) (ht : Tab w) (hm : MaxL w) : Calls Tryd.prog 20 #[.string (bs l)] w (RMx l w) := by
  have HT := Lib.hid ht
  have HM := Lib.hid hm
  have HL := Lib.hid hl
  obtain ⟨u1, hu1⟩ : ∃ u, u = w.alloc (.cells ZZ3 37) := ⟨_, rfl⟩
  have HO1 : Hid (Below w.heap.size w u1) := by rw [hu1]; exact (Below.refl _ _).alloc (Nat.le_refl _) _
  have HB1 : Hid (Blk u1 w.heap.size 37 ZZ3) := by rw [hu1]; exact Blk.new w _ _
  have hsz : u1.heap.size = w.heap.size + 1 := by rw [hu1]; simp
  have HSZ := Lib.hid hsz
  clear hsz ht hm hl
  go_enter Tryd.func20, Tryd.ntmps20
  go_wp2_with fail
  rw [← hu1]
  clear hu1
  refine (f_Split l [59, 32] (by simp) (Nat.le_trans HL.out (by omega)) u1 (HM.out.below HO1.out (Nat.le_refl _))).mono ?_
  rintro e w1 ⟨rfl, hv, hb⟩
  obtain ⟨p, hp⟩ : ∃ p, p = (PP l).length := ⟨_, rfl⟩
  have hp2 : p = (Lib.split l [59, 32]).length := hp
  rw [← hp2] at hv ⊢
  clear hp2
  have HP := Lib.hid hp
  obtain ⟨gR, hgR⟩ : ∃ g, g = u1.heap.size := ⟨_, rfl⟩
  rw [← hgR] at hv ⊢
  have HV := Lib.hid (hv.mono (base' := w.heap.size) (by have := HSZ.out; omega))
  have HBZ := Lib.hid (HB1.out.below' hb)
  have HO := Lib.hid (bstep hb HO1.out.size HO1.out)
  clear hv hb hgR hp
  by_cases hp5 : 5 < p
  · have hpI : (5 : Int) < (p : Int) := by omega
    have zl : w.heap.size < w1.heap.size := HBZ.out.lt
    have z0 : w1.cell? ⟨w.heap.size, 0, none⟩ = some (.int .i64 0) := HBZ.out.cell 0
    have z1 : w1.cell? ⟨w.heap.size, 1, none⟩ = some (.int .i64 0) := HBZ.out.cell 1
    have z2 : w1.cell? ⟨w.heap.size, 2, none⟩ = some (.slice none 0 0) := HBZ.out.cell 2
    have y0 : w1.frozen? ⟨w.heap.size, 0, none⟩ = false := HBZ.out.frozen 0
    have y1 : w1.frozen? ⟨w.heap.size, 1, none⟩ = false := HBZ.out.frozen 1
    have y2 : w1.frozen? ⟨w.heap.size, 2, none⟩ = false := HBZ.out.frozen 2
    have HBAD := Lib.hid (bad_rows (l := l) (by rw [HP.out] at hp5; exact hp5))
    go_wp2
    exact bodyPost_ret (v := .tuple #[MV 0 0 none 0 0, .bool false]) (by simp [results, Tryd.results20, go_sem, z0, z1, z2, y0, y1, y2, zl]) rfl (RMx.no HBAD.out (((HO.out.setCell (Nat.le_refl _) _).setCell (Nat.le_refl _) _).setCell (Nat.le_refl _) _))
  have hpI : (p : Int) ≤ 5 := by omega
  obtain ⟨gM, hgM⟩ : ∃ g, g = w1.heap.size := ⟨_, rfl⟩
  have hgm : w.heap.size < gM := by rw [hgM]; exact HBZ.out.lt
  have HRO : Hid (Ro l w (w1.alloc (.cells #[.int .i64 (p : Int), .int .i64 ((0 : Nat) : Int), .slice none 0 0] 37)) p gR gM 0 0 none 0 0 []) := by
    refine ⟨⟨Rok.start _ _, rfl⟩, HBZ.out.alloc _, ?_, OS.nil _ _, HV.out.alloc _, HO.out.alloc HO.out.size _, hgm⟩
    rw [hgM]
    exact Blk.new w1 _ _
  obtain ⟨u2, hu2⟩ : ∃ u, u = w1.alloc (.cells #[.int .i64 (p : Int), .int .i64 ((0 : Nat) : Int), .slice none 0 0] 37) := ⟨_, rfl⟩
  rw [← hu2] at HRO
  have HU2 : Hid (u2 = w1.alloc (.cells #[.int .i64 (p : Int), .int .i64 0, .slice none 0 0] 37)) := hu2
  have HGM := Lib.hid hgM
  clear hgM hu2
  go_wp2_with fail
  rw [← HU2.out, ← HGM.out]
  clear HU2 HGM
  go_loopw [24] (fun q1 wr => ∃ (k C n cap : Nat) (A : Option Addr) (vs : List Int), k ≤ p ∧ q1 = .int .i64 k ∧ Hid (Ro l w wr p gR gM k C A n cap vs)) (fun q1 _ => p - (intOf q1).toNat)
  case atStart => exact ⟨0, 0, 0, 0, none, [], Nat.zero_le _, rfl, HRO⟩
  case round =>
    obtain ⟨k, C, n, cap, A, vs, hk, rfl, hro⟩ := hrel
    obtain ⟨wo, rfl⟩ : ∃ u : World, u = wr := ⟨_, rfl⟩
    by_cases hlt : k < p
    · have k0 : (0 : Int) ≤ (k : Int) := by omega
      have k1 : (k : Int) < (p : Int) := by omega
      have HK : Hid (k < (PP l).length) := by rw [← HP.out]; exact hlt
      obtain ⟨pk, hpk⟩ : ∃ x, x = (PP l).getD k [] := ⟨_, rfl⟩
      have cx : wo.cell? ⟨gR, k, none⟩ = some (.string (bs pk)) := by rw [hro.out.2.2.2.2.1.cell k (by omega), hpk]; exact strs_at HK.out
      have HPK := Lib.hid hpk
      have HPL : Hid (pk.length ≤ 1048577) := by
        show _ ≤ _
        rw [HPK.out]
        exact Nat.le_trans (sp_piece_len (by simp) (getD_in HK.out)) (Nat.le_trans HL.out (by omega))
      clear hpk
      go_wp2_with fail
      refine (f_Split pk [32] (by simp) HPL.out wo (HM.out.below hro.out.2.2.2.2.2.1 (Nat.le_refl _))).mono ?_
      rintro e w2 ⟨rfl, hv2, hb2⟩
      obtain ⟨q, hq⟩ : ∃ q, q = (Lib.split pk [32]).length := ⟨_, rfl⟩
      rw [← hq] at hv2 ⊢
      have HQ : Hid ((WW l k).length = q) := by show _ = _; rw [hq, HPK.out]
      obtain ⟨gW, hgW⟩ : ∃ g, g = wo.heap.size := ⟨_, rfl⟩
      rw [← hgW] at hv2 ⊢
      have HVW : Hid (VO w2 w.heap.size 9 1 (some ⟨gW, 0, none⟩) q q (strs (WW l k))) := by
        have h := hv2.mono (base' := w.heap.size) (by rw [hgW]; exact hro.out.2.2.2.2.2.1.size)
        rw [HPK.out] at h
        exact h
      have HR2 := Lib.hid (hro.out.below hb2)
      clear hv2 hb2 hgW hq hro
      have neM : ¬ w.heap.size = gM := by omega
      have neM2 : ¬ gM = w.heap.size := by omega
      by_cases hk0 : k = 0
      · subst hk0
        have gl : gM < w2.heap.size := HR2.out.2.2.1.lt
        have g0 : w2.cell? ⟨gM, 0, none⟩ = some (.int .i64 (p : Int)) := HR2.out.2.2.1.cell 0
        have g1 : w2.cell? ⟨gM, 1, none⟩ = some (.int .i64 (C : Int)) := HR2.out.2.2.1.cell 1
        have g2 : w2.cell? ⟨gM, 2, none⟩ = some (.slice A n cap) := HR2.out.2.2.1.cell 2
        have h0 : w2.frozen? ⟨gM, 0, none⟩ = false := HR2.out.2.2.1.frozen 0
        have h1 : w2.frozen? ⟨gM, 1, none⟩ = false := HR2.out.2.2.1.frozen 1
        have h2 : w2.frozen? ⟨gM, 2, none⟩ = false := HR2.out.2.2.1.frozen 2
        by_cases hq5 : 5 < q
        · have hqI : (5 : Int) < (q : Int) := by omega
          have zl : w.heap.size < w2.heap.size := HR2.out.2.1.lt
          have z0 : w2.cell? ⟨w.heap.size, 0, none⟩ = some (.int .i64 0) := HR2.out.2.1.cell 0
          have z1 : w2.cell? ⟨w.heap.size, 1, none⟩ = some (.int .i64 0) := HR2.out.2.1.cell 1
          have z2 : w2.cell? ⟨w.heap.size, 2, none⟩ = some (.slice none 0 0) := HR2.out.2.1.cell 2
          have y0 : w2.frozen? ⟨w.heap.size, 0, none⟩ = false := HR2.out.2.1.frozen 0
          have y1 : w2.frozen? ⟨w.heap.size, 1, none⟩ = false := HR2.out.2.1.frozen 1
          have y2 : w2.frozen? ⟨w.heap.size, 2, none⟩ = false := HR2.out.2.1.frozen 2
          have HBAD := Lib.hid (bad_wide (k := 0) HK.out (by show 5 < (WW l 0).length; rw [HQ.out]; exact hq5))
          go_wp2
          exact bodyPost_ret (v := .tuple #[MV 0 0 none 0 0, .bool false]) (by simp [results, Tryd.results20, go_sem, z0, z1, z2, y0, y1, y2, zl, neM, neM2]) rfl (RMx.no HBAD.out ((((HR2.out.2.2.2.2.2.1.setCell (by dsimp only; omega) _).setCell (Nat.le_refl _) _).setCell (Nat.le_refl _) _).setCell (Nat.le_refl _) _))
        · have hqI : (q : Int) ≤ 5 := by omega
          have Q5 : Hid (q ≤ 5) := by show q ≤ 5; omega
          have HRN : Hid (Rn l w (w2.setCell ⟨gM, 1, none⟩ (.int .i64 (q : Int))) p gR gM gW 0 q 0 A n cap vs []) := HR2.out.inner0 HVW.out
          have HN : Hid (∀ j, j < q → n + j ≤ 1000) := fun j hj => by have h := HR2.out.1; have h2 := h.1.1; rw [Nat.zero_mul] at h2; omega
          obtain ⟨k, hk0⟩ : ∃ k, k = 0 := ⟨_, rfl⟩
          replace HRN : Hid (Rn l w (w2.setCell ⟨gM, 1, none⟩ (.int .i64 (q : Int))) p gR gM gW k q 0 A n cap vs []) := by rw [hk0]; exact HRN
          replace HQ : Hid ((WW l k).length = q) := by rw [hk0]; exact HQ
          replace HK : Hid (k < (PP l).length) := by rw [hk0]; exact HK
          have HK00 := Lib.hid hk0
          clear hk0
          go_wp2_with fail
          clear HR2 HVW gl g0 g1 g2 h0 h1 h2
          go_loopw [49] (fun q1 wr => ∃ (j cap : Nat) (A : Option Addr) (ys : List Int), j ≤ q ∧ q1 = .int .i64 j ∧ Hid (Rn l w wr p gR gM gW k q j A n cap vs ys)) (fun q1 _ => q - (intOf q1).toNat)
          case atStart => exact ⟨0, _, _, [], Nat.zero_le _, rfl, HRN⟩
          case round =>
            obtain ⟨j, cap, A, ys, hj, rfl, hrn⟩ := hrel
            by_cases hjl : j < q
            · have j0 : (0 : Int) ≤ (j : Int) := by omega
              have j1 : (j : Int) < (q : Int) := by omega
              have hjW : j < (WW l k).length := by have := HQ.out; omega
              obtain ⟨wd, hwd⟩ : ∃ x, x = (WW l k).getD j [] := ⟨_, rfl⟩
              have cx : wr.cell? ⟨gW, j, none⟩ = some (.string (bs wd)) := by rw [hrn.out.2.2.2.2.2.2.2.cell j (by omega), hwd]; exact strs_at hjW
              have HWD := Lib.hid hwd
              have HWL : Hid (wd.length ≤ 1048576) := by
                show _ ≤ _
                rw [HWD.out]
                exact Nat.le_trans (sp_piece_len (by simp) (getD_in hjW)) (Nat.le_trans (sp_piece_len (by simp) (getD_in HK.out)) HL.out)
              clear hwd
              go_wp2_with fail
              refine (i_ReadFixed wd HWL.out wr (HT.out.below hrn.out.2.2.2.2.2.1 (Nat.le_refl _)) (HM.out.below hrn.out.2.2.2.2.2.1 (Nat.le_refl _))).mono ?_
              rintro e w3 ⟨v, ok, rfl, hrf, hb3⟩
              have HRN3 := Lib.hid (hrn.out.below hb3)
              have HRF := Lib.hid hrf
              clear hb3 hrn hrf
              cases ok
              · have zl : w.heap.size < w3.heap.size := HRN3.out.2.1.lt
                have z0 : w3.cell? ⟨w.heap.size, 0, none⟩ = some (.int .i64 0) := HRN3.out.2.1.cell 0
                have z1 : w3.cell? ⟨w.heap.size, 1, none⟩ = some (.int .i64 0) := HRN3.out.2.1.cell 1
                have z2 : w3.cell? ⟨w.heap.size, 2, none⟩ = some (.slice none 0 0) := HRN3.out.2.1.cell 2
                have y0 : w3.frozen? ⟨w.heap.size, 0, none⟩ = false := HRN3.out.2.1.frozen 0
                have y1 : w3.frozen? ⟨w.heap.size, 1, none⟩ = false := HRN3.out.2.1.frozen 1
                have y2 : w3.frozen? ⟨w.heap.size, 2, none⟩ = false := HRN3.out.2.1.frozen 2
                have HBAD := Lib.hid (bad_word HK.out (w := wd) (by rw [HWD.out]; exact getD_in hjW) HRF.out)
                go_wp2
                exact bodyPost_ret (v := .tuple #[MV 0 0 none 0 0, .bool false]) (by simp [results, Tryd.results20, go_sem, z0, z1, z2, y0, y1, y2, zl]) rfl (RMx.no HBAD.out (((HRN3.out.2.2.2.2.2.1.setCell (Nat.le_refl _) _).setCell (Nat.le_refl _) _).setCell (Nat.le_refl _) _))
              · obtain ⟨hv, hfx⟩ := HRF.out.num
                have HV := Lib.hid hv
                have HFX := Lib.hid hfx
                clear hv hfx
                have gl : gM < w3.heap.size := HRN3.out.2.2.1.lt
                have g0 : w3.cell? ⟨gM, 0, none⟩ = some (.int .i64 (p : Int)) := HRN3.out.2.2.1.cell 0
                have g1 : w3.cell? ⟨gM, 1, none⟩ = some (.int .i64 (q : Int)) := HRN3.out.2.2.1.cell 1
                have g2 : w3.cell? ⟨gM, 2, none⟩ = some (.slice A (n + j) cap) := HRN3.out.2.2.1.cell 2
                have h0 : w3.frozen? ⟨gM, 0, none⟩ = false := HRN3.out.2.2.1.frozen 0
                have h1 : w3.frozen? ⟨gM, 1, none⟩ = false := HRN3.out.2.2.1.frozen 1
                have h2 : w3.frozen? ⟨gM, 2, none⟩ = false := HRN3.out.2.2.1.frozen 2
                have HNJ : Hid (n + j ≤ 1000) := HN.out j hjl
                have hsz : w.heap.size ≤ w3.heap.size := HRN3.out.2.2.2.2.2.1.size
                obtain ⟨i0', hi, hz0, hz1, hz2⟩ := info_parts infoInt
                go_wp2_with (at_builtin; refine wpList_append_lies _ rfl _ _ 32 rfl w.heap.size 3 i0' (.int .i64 0) 1 8 Tryd.underlying32 hi hz0 hz1 hz2 rfl (by decide) (.slice A (n + j) cap) (n + j) _ rfl (World.ownsRow.alloc HRN3.out.2.2.2.1 _) ⟨w3.heap.size, 0, none⟩ 1 1 [.int .i64 v] rfl rfl ?c1 ?c2 ?c3 ?c4 ?c5 ?c6 (w3.heap.size + 1) ?c7 ?_)
                case c1 => exact cells_one _ _ _
                case c2 => simp [Value.oneCell']
                case c3 => omega
                case c4 => have := HNJ.out; unfold maxLen; omega
                case c5 => have := HNJ.out; omega
                case c6 => simp; omega
                case c7 => simp
                intro g cap' w4 hown hgrow hat _
                obtain ⟨hbm, hnx⟩ := HRN3.out.push hjW HV.out (by rw [← HWD.out]; exact HFX.out) (by simpa using hown) hgrow hat
                have HNX := Lib.hid hnx
                have k2 : w4.frozen? ⟨gM, 2, none⟩ = false := hbm.frozen 2
                have k3 : w4.cell? ⟨gM, 2, none⟩ = some (.slice A (n + j) cap) := hbm.cell 2
                clear gl g0 g1 g2 h0 h1 h2
                clear hown hgrow hat hbm hnx HRN3 hsz
                go_wp2
                go_roundw
                case rel => exact ⟨j + 1, cap', _, _, by omega, by go_num, HNX⟩
                case measure => simp [intOf]; omega
            · obtain rfl : j = q := by omega
              have HRO := Lib.hid (hrn.out.outer HK.out HQ.out Q5.out)
              clear hrn
              go_wp2
              go_roundw
              case rel => exact ⟨1, j, n + j, cap, A, _, by omega, by go_num, by have e := HK00.out; subst e; exact HRO⟩
              case measure => simp [intOf]; omega
      · have hkI : (0 : Int) < (k : Int) := by omega
        have hkb : ((k : Int) == 0) = false := by simp; omega
        have gl : gM < w2.heap.size := HR2.out.2.2.1.lt
        have g0 : w2.cell? ⟨gM, 0, none⟩ = some (.int .i64 (p : Int)) := HR2.out.2.2.1.cell 0
        have g1 : w2.cell? ⟨gM, 1, none⟩ = some (.int .i64 (C : Int)) := HR2.out.2.2.1.cell 1
        have g2 : w2.cell? ⟨gM, 2, none⟩ = some (.slice A n cap) := HR2.out.2.2.1.cell 2
        have h0 : w2.frozen? ⟨gM, 0, none⟩ = false := HR2.out.2.2.1.frozen 0
        have h1 : w2.frozen? ⟨gM, 1, none⟩ = false := HR2.out.2.2.1.frozen 1
        have h2 : w2.frozen? ⟨gM, 2, none⟩ = false := HR2.out.2.2.1.frozen 2
        by_cases hqc : q = C
        · obtain rfl : C = q := hqc.symm
          have Q5 : Hid (C ≤ 5) := ((HR2.out.1.1.2.2.1 (by omega)).2.1)
          have hqI : (C : Int) ≤ 5 := by have := Q5.out; omega
          have HRN : Hid (Rn l w w2 p gR gM gW k C 0 A n cap vs []) := HR2.out.inner HVW.out
          have HN : Hid (∀ j, j < C → n + j ≤ 1000) := fun j hj => by
            have h := HR2.out.1
            have h2 := h.1.1
            have h3 : k * C ≤ 5 * 5 := Nat.mul_le_mul (by omega) Q5.out
            have h4 := Q5.out
            omega
          go_wp2_with fail
          clear HR2 HVW gl g0 g1 g2 h0 h1 h2
          go_loopw [49] (fun q1 wr => ∃ (j cap : Nat) (A : Option Addr) (ys : List Int), j ≤ C ∧ q1 = .int .i64 j ∧ Hid (Rn l w wr p gR gM gW k C j A n cap vs ys)) (fun q1 _ => C - (intOf q1).toNat)
          case atStart => exact ⟨0, _, _, [], Nat.zero_le _, rfl, HRN⟩
          case round =>
            obtain ⟨j, cap, A, ys, hj, rfl, hrn⟩ := hrel
            by_cases hjl : j < C
            · have j0 : (0 : Int) ≤ (j : Int) := by omega
              have j1 : (j : Int) < (C : Int) := by omega
              have hjW : j < (WW l k).length := by have := HQ.out; omega
              obtain ⟨wd, hwd⟩ : ∃ x, x = (WW l k).getD j [] := ⟨_, rfl⟩
              have cx : wr.cell? ⟨gW, j, none⟩ = some (.string (bs wd)) := by rw [hrn.out.2.2.2.2.2.2.2.cell j (by omega), hwd]; exact strs_at hjW
              have HWD := Lib.hid hwd
              have HWL : Hid (wd.length ≤ 1048576) := by
                show _ ≤ _
                rw [HWD.out]
                exact Nat.le_trans (sp_piece_len (by simp) (getD_in hjW)) (Nat.le_trans (sp_piece_len (by simp) (getD_in HK.out)) HL.out)
              clear hwd
              go_wp2_with fail
              refine (i_ReadFixed wd HWL.out wr (HT.out.below hrn.out.2.2.2.2.2.1 (Nat.le_refl _)) (HM.out.below hrn.out.2.2.2.2.2.1 (Nat.le_refl _))).mono ?_
              rintro e w3 ⟨v, ok, rfl, hrf, hb3⟩
              have HRN3 := Lib.hid (hrn.out.below hb3)
              have HRF := Lib.hid hrf
              clear hb3 hrn hrf
              cases ok
              · have zl : w.heap.size < w3.heap.size := HRN3.out.2.1.lt
                have z0 : w3.cell? ⟨w.heap.size, 0, none⟩ = some (.int .i64 0) := HRN3.out.2.1.cell 0
                have z1 : w3.cell? ⟨w.heap.size, 1, none⟩ = some (.int .i64 0) := HRN3.out.2.1.cell 1
                have z2 : w3.cell? ⟨w.heap.size, 2, none⟩ = some (.slice none 0 0) := HRN3.out.2.1.cell 2
                have y0 : w3.frozen? ⟨w.heap.size, 0, none⟩ = false := HRN3.out.2.1.frozen 0
                have y1 : w3.frozen? ⟨w.heap.size, 1, none⟩ = false := HRN3.out.2.1.frozen 1
                have y2 : w3.frozen? ⟨w.heap.size, 2, none⟩ = false := HRN3.out.2.1.frozen 2
                have HBAD := Lib.hid (bad_word HK.out (w := wd) (by rw [HWD.out]; exact getD_in hjW) HRF.out)
                go_wp2
                exact bodyPost_ret (v := .tuple #[MV 0 0 none 0 0, .bool false]) (by simp [results, Tryd.results20, go_sem, z0, z1, z2, y0, y1, y2, zl]) rfl (RMx.no HBAD.out (((HRN3.out.2.2.2.2.2.1.setCell (Nat.le_refl _) _).setCell (Nat.le_refl _) _).setCell (Nat.le_refl _) _))
              · obtain ⟨hv, hfx⟩ := HRF.out.num
                have HV := Lib.hid hv
                have HFX := Lib.hid hfx
                clear hv hfx
                have gl : gM < w3.heap.size := HRN3.out.2.2.1.lt
                have g0 : w3.cell? ⟨gM, 0, none⟩ = some (.int .i64 (p : Int)) := HRN3.out.2.2.1.cell 0
                have g1 : w3.cell? ⟨gM, 1, none⟩ = some (.int .i64 (C : Int)) := HRN3.out.2.2.1.cell 1
                have g2 : w3.cell? ⟨gM, 2, none⟩ = some (.slice A (n + j) cap) := HRN3.out.2.2.1.cell 2
                have h0 : w3.frozen? ⟨gM, 0, none⟩ = false := HRN3.out.2.2.1.frozen 0
                have h1 : w3.frozen? ⟨gM, 1, none⟩ = false := HRN3.out.2.2.1.frozen 1
                have h2 : w3.frozen? ⟨gM, 2, none⟩ = false := HRN3.out.2.2.1.frozen 2
                have HNJ : Hid (n + j ≤ 1000) := HN.out j hjl
                have hsz : w.heap.size ≤ w3.heap.size := HRN3.out.2.2.2.2.2.1.size
                obtain ⟨i0', hi, hz0, hz1, hz2⟩ := info_parts infoInt
                go_wp2_with (at_builtin; refine wpList_append_lies _ rfl _ _ 32 rfl w.heap.size 3 i0' (.int .i64 0) 1 8 Tryd.underlying32 hi hz0 hz1 hz2 rfl (by decide) (.slice A (n + j) cap) (n + j) _ rfl (World.ownsRow.alloc HRN3.out.2.2.2.1 _) ⟨w3.heap.size, 0, none⟩ 1 1 [.int .i64 v] rfl rfl ?c1 ?c2 ?c3 ?c4 ?c5 ?c6 (w3.heap.size + 1) ?c7 ?_)
                case c1 => exact cells_one _ _ _
                case c2 => simp [Value.oneCell']
                case c3 => omega
                case c4 => have := HNJ.out; unfold maxLen; omega
                case c5 => have := HNJ.out; omega
                case c6 => simp; omega
                case c7 => simp
                intro g cap' w4 hown hgrow hat _
                obtain ⟨hbm, hnx⟩ := HRN3.out.push hjW HV.out (by rw [← HWD.out]; exact HFX.out) (by simpa using hown) hgrow hat
                have HNX := Lib.hid hnx
                have k2 : w4.frozen? ⟨gM, 2, none⟩ = false := hbm.frozen 2
                have k3 : w4.cell? ⟨gM, 2, none⟩ = some (.slice A (n + j) cap) := hbm.cell 2
                clear gl g0 g1 g2 h0 h1 h2
                clear hown hgrow hat hbm hnx HRN3 hsz
                go_wp2
                go_roundw
                case rel => exact ⟨j + 1, cap', _, _, by omega, by go_num, HNX⟩
                case measure => simp [intOf]; omega
            · obtain rfl : j = C := by omega
              have HRO := Lib.hid (hrn.out.outer HK.out HQ.out Q5.out)
              clear hrn
              go_wp2
              go_roundw
              case rel => exact ⟨k + 1, j, n + j, cap, A, _, by omega, by go_num, HRO⟩
              case measure => simp [intOf]; omega
        · have hqb : ((q : Int) == (C : Int)) = false := by simp; omega
          have zl : w.heap.size < w2.heap.size := HR2.out.2.1.lt
          have z0 : w2.cell? ⟨w.heap.size, 0, none⟩ = some (.int .i64 0) := HR2.out.2.1.cell 0
          have z1 : w2.cell? ⟨w.heap.size, 1, none⟩ = some (.int .i64 0) := HR2.out.2.1.cell 1
          have z2 : w2.cell? ⟨w.heap.size, 2, none⟩ = some (.slice none 0 0) := HR2.out.2.1.cell 2
          have y0 : w2.frozen? ⟨w.heap.size, 0, none⟩ = false := HR2.out.2.1.frozen 0
          have y1 : w2.frozen? ⟨w.heap.size, 1, none⟩ = false := HR2.out.2.1.frozen 1
          have y2 : w2.frozen? ⟨w.heap.size, 2, none⟩ = false := HR2.out.2.1.frozen 2
          have HBAD := Lib.hid (bad_cols HK.out (by omega) HR2.out.1.1 (by show (WW l k).length ≠ C; rw [HQ.out]; exact hqc))
          go_wp2
          exact bodyPost_ret (v := .tuple #[MV 0 0 none 0 0, .bool false]) (by simp [results, Tryd.results20, go_sem, z0, z1, z2, y0, y1, y2, zl, neM, neM2]) rfl (RMx.no HBAD.out (((HR2.out.2.2.2.2.2.1.setCell (Nat.le_refl _) _).setCell (Nat.le_refl _) _).setCell (Nat.le_refl _) _))
    · obtain rfl : k = p := by omega
      have zl : w.heap.size < wo.heap.size := hro.out.2.1.lt
      have z0 : wo.cell? ⟨w.heap.size, 0, none⟩ = some (.int .i64 0) := hro.out.2.1.cell 0
      have z1 : wo.cell? ⟨w.heap.size, 1, none⟩ = some (.int .i64 0) := hro.out.2.1.cell 1
      have z2 : wo.cell? ⟨w.heap.size, 2, none⟩ = some (.slice none 0 0) := hro.out.2.1.cell 2
      have y0 : wo.frozen? ⟨w.heap.size, 0, none⟩ = false := hro.out.2.1.frozen 0
      have y1 : wo.frozen? ⟨w.heap.size, 1, none⟩ = false := hro.out.2.1.frozen 1
      have y2 : wo.frozen? ⟨w.heap.size, 2, none⟩ = false := hro.out.2.1.frozen 2
      have gl : gM < wo.heap.size := hro.out.2.2.1.lt
      have g0 : wo.cell? ⟨gM, 0, none⟩ = some (.int .i64 (k : Int)) := hro.out.2.2.1.cell 0
      have g1 : wo.cell? ⟨gM, 1, none⟩ = some (.int .i64 (C : Int)) := hro.out.2.2.1.cell 1
      have g2 : wo.cell? ⟨gM, 2, none⟩ = some (.slice A n cap) := hro.out.2.2.1.cell 2
      have h0 : wo.frozen? ⟨gM, 0, none⟩ = false := hro.out.2.2.1.frozen 0
      have h1 : wo.frozen? ⟨gM, 1, none⟩ = false := hro.out.2.2.1.frozen 1
      have h2 : wo.frozen? ⟨gM, 2, none⟩ = false := hro.out.2.2.1.frozen 2
      have HG : Hid (RMp l ⟨(k : Int), (C : Int), vs⟩ true) := by
        have h := hro.out.1.1
        have e := HP.out
        have h2 := good_fin (l := l) (C := C) (vs := vs) (by rw [← e]; exact h) (by rw [← e]; omega)
        rw [← e] at h2
        exact h2
      have HFIN : Hid (∀ W : World, Below wo.heap.size wo W → True) := fun _ _ => trivial
      have HNL := Lib.hid hro.out.1.2
      have neM : ¬ w.heap.size = gM := by omega
      have neM2 : ¬ gM = w.heap.size := by omega
      have hos := hro.out.2.2.2.1
      have hbz := hro.out.2.1
      have HOS2 := Lib.hid (((hos.setBlk hbz (by decide) (.int .i64 (k : Int)) (i := 0)).setBlk (hbz.set_ 0 _) (by decide) (.int .i64 (C : Int)) (i := 1)).setBlk ((hbz.set_ 0 _).set_ 1 _) (by decide) (.slice A n cap) (i := 2))
      clear hos hbz
      go_wp2
      exact bodyPost_ret (v := .tuple #[MV (k : Int) (C : Int) A n cap, .bool true]) (by simp [results, Tryd.results20, go_sem, z0, z1, z2, y0, y1, y2, zl, g0, g1, g2, neM, neM2]) rfl ⟨⟨(k : Int), (C : Int), vs⟩, true, A, cap, by dsimp only; rw [HNL.out], by dsimp only; rw [HNL.out]; exact HOS2.out, HG.out, (((hro.out.2.2.2.2.2.1.setCell (Nat.le_refl _) _).setCell (Nat.le_refl _) _).setCell (Nat.le_refl _) _)⟩
end Go.Proofs.YtcmgnnfkgkibgaaDoor

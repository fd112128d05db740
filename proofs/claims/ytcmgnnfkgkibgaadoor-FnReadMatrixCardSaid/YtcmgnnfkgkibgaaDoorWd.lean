/-
  The reference's words (l24Words): the pieces between spaces.
-/
import Derived.Test.YtcmgnnfkgkibgaaDoorRmP
import Derived.Test.YtcmgnnfkgkibgaaDoorRf
import Derived.RegionTactic
import Derived.BigRegion
namespace Go.Proofs.YtcmgnnfkgkibgaaDoor
open Go.RowKit
set_option linter.unusedVariables false
set_option linter.unusedSimpArgs false

/-- the words of the first k bytes -/
def Wk (l : List UInt8) (k : Nat) (W : List (List UInt8)) : Prop := W ≠ [] ∧ (∀ x ∈ W, (32 : UInt8) ∉ x) ∧ Lib.join W [32] = l.take k
theorem Wk.start (l : List UInt8) : Wk l 0 [[]] := ⟨by simp, by simp, by simp [Lib.join_one]⟩
theorem Wk.space {l : List UInt8} {k : Nat} {W : List (List UInt8)} (h : Wk l k W) (hk : k < l.length) (hc : l[k] = 32) : Wk l (k + 1) (W ++ [[]]) := by
  obtain ⟨h1, h2, h3⟩ := h
  refine ⟨by simp, fun x hx => ?_, ?_⟩
  · rcases List.mem_append.1 hx with hx | hx
    · exact h2 x hx
    · have : x = [] := by simpa using hx
      rw [this]; simp
  · rw [join_snoc h1, h3, List.take_succ_eq_append_getElem hk, hc, List.append_nil]
theorem Wk.more {l : List UInt8} {k m : Nat} {W : List (List UInt8)} {x : List UInt8} {c : UInt8} (h : Wk l k W) (hk : k < l.length) (hc : l[k] = c) (hne : c ≠ 32) (hm : W.length = m + 1) (hx : W.getD m [] = x) : Wk l (k + 1) (W.set m (x ++ [c])) := by
  obtain ⟨h1, h2, h3⟩ := h
  obtain ⟨I, hI⟩ : ∃ I, W = I ++ [x] ∧ I.length = m := by
    refine ⟨W.take m, ?_, by rw [List.length_take]; omega⟩
    have := List.take_succ_eq_append_getElem (l := W) (i := m) (by omega)
    rw [List.take_of_length_le (by omega)] at this
    rw [List.getD_eq_getElem?_getD, List.getElem?_eq_getElem (by omega)] at hx
    rw [← hx]
    exact this
  obtain ⟨rfl, hIm⟩ := hI
  have e : (I ++ [x]).set m (x ++ [c]) = I ++ [x ++ [c]] := by
    rw [List.set_append_right _ _ (by omega), hIm, Nat.sub_self]
    rfl
  rw [e]
  refine ⟨by simp, fun y hy => ?_, ?_⟩
  · rcases List.mem_append.1 hy with hy | hy
    · exact h2 y (List.mem_append_left _ hy)
    · have : y = x ++ [c] := by simpa using hy
      rw [this]
      intro hm
      rcases List.mem_append.1 hm with hm | hm
      · exact h2 x (by simp) hm
      · have : (32 : UInt8) = c := by simpa using hm
        exact hne this.symm
  · rw [List.take_succ_eq_append_getElem hk, hc, ← h3]
    by_cases hI0 : I = []
    · subst hI0; simp [Lib.join_one]
    · rw [join_snoc hI0, join_snoc hI0]; simp [List.append_assoc]
theorem Wk.fin {l : List UInt8} {W : List (List UInt8)} (h : Wk l l.length W) : W = Lib.split l [32] := by
  obtain ⟨h1, h2, h3⟩ := h
  rw [List.take_length] at h3
  rw [← h3]
  exact (sp_join h1 h2).symm
theorem Wk.len {l : List UInt8} {k : Nat} {W : List (List UInt8)} (h : Wk l k W) : W.length ≤ l.length + 1 ∧ ∀ x ∈ W, x.length ≤ l.length := by
  obtain ⟨h1, h2, h3⟩ := h
  have e : Lib.split (l.take k) [32] = W := by rw [← h3]; exact sp_join h1 h2
  have hk : (l.take k).length ≤ l.length := by rw [List.length_take]; omega
  refine ⟨?_, fun x hx => ?_⟩
  · have hl : ∀ W : List (List UInt8), W ≠ [] → W.length ≤ (Lib.join W [32]).length + 1 := by
      intro W
      induction W with
      | nil => intro h; exact absurd rfl h
      | cons x W ih =>
        intro _
        by_cases hW : W = []
        · subst hW; simp
        · rw [join_cons2 x hW, List.length_append, List.length_append, List.length_cons]
          have := ih hW
          simp only [List.length_cons, List.length_nil]
          omega
    have := hl W h1
    rw [h3] at this
    omega
  · rw [← e] at hx
    exact Nat.le_trans (sp_piece_len (by simp) hx) hk
/-- between two rounds -/
def Wi (l : List UInt8) (w wr : World) (k g m cap : Nat) (W : List (List UInt8)) : Prop := Wk l k W ∧ W.length = m + 1 ∧ VO wr w.heap.size 9 1 (some ⟨g, 0, none⟩) (m + 1) cap (strs W) ∧ Below w.heap.size w wr
theorem strs_set (W : List (List UInt8)) (m : Nat) (x : List UInt8) : (strs W).set m (.string (bs x)) = strs (W.set m x) := by
  simp [strs, List.map_set]
set_option maxRecDepth 20000 in
set_option maxHeartbeats 2000000 in
theorem s_l24Words (l : List UInt8) (hl : l.length ≤ 1048577) (w : World) : Calls Tryd.prog 42 #[.string (bs l)] w fun e w' => (∃ (A : Option Addr) (c : Nat), e = .returned (.slice A (Lib.split l [32]).length c) ∧ VO w' w.heap.size 9 1 A (Lib.split l [32]).length c (strs (Lib.split l [32]))) ∧ Below w.heap.size w w' := by
  obtain ⟨s, hs⟩ : ∃ s, s = bs l := ⟨_, rfl⟩
  rw [← hs]
  have hss : s.size = l.length := by rw [hs, bs_size]
  have HS := Lib.hid hs
  have HSS := Lib.hid hss
  have HL := Lib.hid hl
  have HZ : Hid (Wi l w (w.alloc (.cells #[.string ⟨#[]⟩] 9)) 0 w.heap.size 0 1 [[]]) := by
    refine ⟨Wk.start l, rfl, ?_, (Below.refl _ _).alloc (Nat.le_refl _) _⟩
    exact ⟨by simp [strs], .inr ⟨w.heap.size, 1, _, rfl, Nat.le_refl _, Blk.new w 9 _, Nat.le_refl _, by unfold maxLen; omega, by simp, rfl⟩⟩
  clear hs hss hl
  obtain ⟨i0', hi, hz0, hz1, hz2⟩ := info_parts infoStr
  go_enter Tryd.func42, Tryd.ntmps42
  go_wp2_with fail
  go_loopw [3, 4] (fun o q wr => ∃ (k g m cap : Nat) (W : List (List UInt8)), k ≤ s.size ∧ q = .int .i64 k ∧ o = .slice (some ⟨g, 0, none⟩) (m + 1) cap ∧ Hid (Wi l w wr k g m cap W)) (fun _ q _ => s.size - (intOf q).toNat)
  case atStart => exact ⟨0, _, 0, 1, _, Nat.zero_le _, rfl, rfl, HZ⟩
  case round =>
    obtain ⟨k, g, m, cap, W, hk, rfl, rfl, hwi⟩ := hrel
    obtain ⟨wo, rfl⟩ : ∃ u : World, u = wr := ⟨_, rfl⟩
    have hk64 : (s.size : Int) ≤ 1048577 := by have := HSS.out; have := HL.out; omega
    have k0 : (0 : Int) ≤ (k : Int) := by omega
    have hsz : w.heap.size ≤ wo.heap.size := hwi.out.2.2.2.size
    have hm : m + 1 ≤ 1048578 := by have h1 := hwi.out.1.len.1; have h2 := hwi.out.2.1; have := HL.out; omega
    by_cases hlt : k < s.size
    · obtain ⟨hkl, hbk⟩ := bs_at l HS.out k hlt
      have k1 : (k : Int) < (s.size : Int) := by omega
      have k2 : ((k : Int) + 1) ≤ (s.size : Int) := by omega
      obtain ⟨c, hc⟩ : ∃ c, l[k] = c := ⟨_, rfl⟩
      have hsc : s[k] = c := by rw [← hbk]; exact hc
      have HC := Lib.hid hc
      clear hc hbk
      by_cases hsp : c = 32
      · have hcb : ((c.toNat : Int) == 32) = true := by rw [hsp]; rfl
        have HNX := Lib.hid (hwi.out.1.space hkl (by rw [HC.out]; exact hsp))
        clear hsp
        go_wp2_with (at_builtin; refine wpList_append_lies _ rfl _ _ 50 rfl w.heap.size 9 i0' (.string ByteArray.empty) 1 16 Tryd.underlying50 hi hz0 hz1 hz2 rfl (by decide) (.slice (some ⟨g, 0, none⟩) (m + 1) cap) (m + 1) _ rfl (World.ownsRow.alloc hwi.out.2.2.1 _) ⟨wo.heap.size, 0, none⟩ 1 1 [.string ⟨#[]⟩] rfl rfl ?c1 ?c2 ?c3 ?c4 ?c5 ?c6 (wo.heap.size + 1) ?c7 ?_)
        case c1 => exact cells_one _ _ _
        case c2 => simp [Value.oneCell']
        case c3 => omega
        case c4 => unfold maxLen; omega
        case c5 => omega
        case c6 => simp; omega
        case c7 => simp
        intro g' cap' w2 hown hgrow hat _
        have hNX : Hid (Wi l w w2 (k + 1) g' (m + 1) cap' (W ++ [[]])) := by
          obtain ⟨k1, k2, _, _⟩ := VO.push hwi.out.2.2.1 hwi.out.2.2.2 (Nat.le_refl _) hwi.out.2.2.2.size hown hgrow hat
          refine ⟨HNX.out, by rw [List.length_append, hwi.out.2.1]; rfl, ?_, k2⟩
          have e : strs (W ++ [[]]) = strs W ++ [.string ⟨#[]⟩] := by simp [strs]; rfl
          rw [e]
          exact k1
        clear hown hgrow hat HNX hwi
        go_wp2
        go_roundw
        case rel => exact ⟨k + 1, g', m + 1, cap', _, by omega, by go_num, rfl, hNX⟩
        case measure => simp [intOf]; omega
      · have hcb : ((c.toNat : Int) == 32) = false := by
          rw [beq_eq_false_iff_ne]
          intro h
          exact hsp (UInt8.toNat_inj.1 (by have e : (32 : UInt8).toNat = 32 := rfl; omega))
        obtain ⟨x, hx⟩ : ∃ x, W.getD m [] = x := ⟨_, rfl⟩
        have HNX := Lib.hid (hwi.out.1.more hkl HC.out hsp hwi.out.2.1 hx)
        have hxl : x.length ≤ l.length := hwi.out.1.len.2 x (by rw [← hx]; exact getD_in (by rw [hwi.out.2.1]; omega))
        have cg : wo.cell? ⟨g, m, none⟩ = some (.string (bs x)) := by rw [hwi.out.2.2.1.cell m (by omega), strs_at (by rw [hwi.out.2.1]; omega), hx]
        have fg : wo.frozen? ⟨g, m, none⟩ = false := hwi.out.2.2.1.frozen m
        have hex : s.extract k (k + 1) = bs [c] := by
          rw [HS.out]
          have h : ((bs l).extract k (k + 1)).data.toList = [c] := by
            rw [Lib.extract_data]
            show (l.drop k).take (k + 1 - k) = [c]
            rw [← HC.out, List.drop_eq_getElem_cons hkl]
            have e1 : k + 1 - k = 1 := by omega
            rw [e1]
            rfl
          rw [← bs_list ((bs l).extract k (k + 1)), h]
        have hap : bs x ++ bs [c] = bs (x ++ [c]) := bs_app _ _
        have hov : (9223372036854775807 < (bs x).size + (bs [c]).size) = False := by
          rw [bs_size, bs_size]
          simp only [List.length_cons, List.length_nil, eq_iff_iff, iff_false]
          have := HL.out
          omega
        have m0 : (0 : Int) ≤ (m : Int) := by omega
        have m1 : (m : Int) < (m : Int) + 1 := by omega
        clear hx hxl hsp
        go_wp2_with fail
        go_region
        have hNX : Hid (Wi l w (wo.setCell ⟨g, m, none⟩ (.string (bs (x ++ [c])))).drew (k + 1) g m cap (W.set m (x ++ [c]))) := by
          refine ⟨HNX.out, by rw [List.length_set, hwi.out.2.1], ?_, (hwi.out.2.2.2.setCell (hwi.out.2.2.1.blk_lt g rfl).1 _).drew⟩
          rw [← strs_set]
          exact VO.drewN (hwi.out.2.2.1.store m (.string (bs (x ++ [c])))) 1
        clear HNX hwi
        go_wp2
        go_roundw
        case rel => exact ⟨k + 1, g, m, cap, _, by omega, by go_num, rfl, hNX⟩
        case measure => simp [intOf]; omega
    · obtain rfl : k = s.size := by omega
      have hfin : Hid (W = Lib.split l [32]) := by
        have h := hwi.out.1
        rw [HSS.out] at h
        exact h.fin
      have hn : Hid (m + 1 = (Lib.split l [32]).length) := by show _ = _; rw [← hfin.out, hwi.out.2.1]
      have HV : Hid (VO wo w.heap.size 9 1 (some ⟨g, 0, none⟩) (Lib.split l [32]).length cap (strs (Lib.split l [32]))) := by
        have h := hwi.out.2.2.1
        rw [hfin.out, hn.out] at h
        exact h
      have HB := Lib.hid hwi.out.2.2.2
      clear hwi
      go_wp2
      go_ret
      exact ⟨⟨_, cap, ret_slice (A := some ⟨g, 0, none⟩) hn.out, HV.out⟩, HB.out⟩
end Go.Proofs.YtcmgnnfkgkibgaaDoor

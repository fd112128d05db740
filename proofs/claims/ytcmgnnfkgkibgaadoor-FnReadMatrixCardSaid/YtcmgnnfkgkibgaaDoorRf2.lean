/-
  ReadFixed of the program: the walk.
-/
import Derived.Test.YtcmgnnfkgkibgaaDoorRf
namespace Go.Proofs.YtcmgnnfkgkibgaaDoor
open Go.RowKit
set_option linter.unusedVariables false
set_option linter.unusedSimpArgs false

theorem pI_eq {l b wh dg : List UInt8} {ng z : Bool} (hb : b = Lib.trimPrefix l [45]) (hn : ng = Lib.hasPrefix l [45]) (hc : Lib.cut b [46] = (wh, dg, z)) :
    pI l = if 3 < wh.length ∨ 4 < dg.length then none else if (dOf wh).2 = true ∧ (dOf (four dg)).2 = true then some ((if ng = true then -((dOf wh).1 * 16 + (dOf (four dg)).1 / 625) else (dOf wh).1 * 16 + (dOf (four dg)).1 / 625) % 4096) else none := by
  unfold pI
  rw [← hb, hc, ← hn]
theorem trim_len (l p : List UInt8) : (Lib.trimPrefix l p).length ≤ l.length := by
  unfold Lib.trimPrefix
  split
  · rw [List.length_drop]; omega
  · exact Nat.le_refl _
theorem dOf_bd {l : List UInt8} (h : l.length ≤ 8) : 0 ≤ (dOf l).1 ∧ (dOf l).1 ≤ 99999999 := by
  unfold dOf
  split
  · rename_i ha
    have := vl_take_bd (l := l) (k := l.length) (Nat.le_refl _) h (by rw [List.take_length]; exact ha)
    rwa [List.take_length] at this
  · exact ⟨by decide, by decide⟩
theorem zeros_ext (k : Nat) (h : k ≤ 4) : ByteArray.extract ⟨#[48, 48, 48, 48]⟩ k 4 = bs (List.replicate (4 - k) 48) := by
  match k, h with
  | 0, _ => rfl
  | 1, _ => rfl
  | 2, _ => rfl
  | 3, _ => rfl
  | 4, _ => rfl
/-- a number read, or none -/
def Rv (l : List UInt8) (w : World) (e : Ending) (w' : World) : Prop := ∃ (v : Int) (ok : Bool), e = .returned (.tuple #[.int .i64 v, .bool ok]) ∧ RF l v ok ∧ Below w.heap.size w w'
set_option maxRecDepth 20000 in
set_option maxHeartbeats 2000000 in
theorem i_ReadFixed (l : List UInt8) (hl : l.length ≤ 1048576) (w : World) (ht : Tab w) (hm : MaxL w) : Calls Tryd.prog 45 #[.string (bs l)] w (Rv l w) := by
  have HT := Lib.hid ht
  have HM := Lib.hid hm
  have HL := Lib.hid hl
  clear ht hm hl
  go_enter Tryd.func45, Tryd.ntmps45
  go_wp2_with fail
  refine (f_CutPrefix l [45] w).mono ?_
  rintro e w' ⟨rfl, rfl⟩
  obtain ⟨b, hb⟩ : ∃ b, b = Lib.trimPrefix l [45] := ⟨_, rfl⟩
  obtain ⟨ng, hn⟩ : ∃ b, b = Lib.hasPrefix l [45] := ⟨_, rfl⟩
  rw [← hb, ← hn]
  have HB := Lib.hid hb
  have HN := Lib.hid hn
  clear hb hn
  go_wp2_with fail
  refine (f_Cut b [46] w (by rw [HB.out]; exact Nat.le_trans (trim_len _ _) HL.out) HM.out).mono ?_
  rintro e w1 ⟨rfl, hb1⟩
  obtain ⟨⟨wh, dg, z⟩, hc⟩ : ∃ c, c = Lib.cut b [46] := ⟨_, rfl⟩
  rw [← hc]
  have HP : Hid (pI l = if 3 < wh.length ∨ 4 < dg.length then none else if (dOf wh).2 = true ∧ (dOf (four dg)).2 = true then some ((if ng = true then -((dOf wh).1 * 16 + (dOf (four dg)).1 / 625) else (dOf wh).1 * 16 + (dOf (four dg)).1 / 625) % 4096) else none) := pI_eq HB.out HN.out hc.symm
  have hws : (bs wh).size = wh.length := bs_size _
  have hds : (bs dg).size = dg.length := bs_size _
  have HB1 := Lib.hid hb1
  clear hc hb1
  by_cases h3 : 3 < wh.length
  · have h3' : (3 : Int) < (wh.length : Int) := by omega
    have HR : Hid (RF l 0 false) := RF.noI (by rw [HP.out, if_pos (.inl h3)])
    go_wp2_with fail
    go_wp2
    go_ret2
    exact ⟨0, false, rfl, HR.out, HB1.out⟩
  have h3' : (wh.length : Int) ≤ 3 := by omega
  by_cases h4 : 4 < dg.length
  · have h4' : (4 : Int) < (dg.length : Int) := by omega
    have HR : Hid (RF l 0 false) := RF.noI (by rw [HP.out, if_pos (.inr h4)])
    go_wp2_with fail
    go_wp2
    go_ret2
    exact ⟨0, false, rfl, HR.out, HB1.out⟩
  have h4' : (dg.length : Int) ≤ 4 := by omega
  have hze := zeros_ext dg.length (by omega)
  have hap : bs dg ++ bs (List.replicate (4 - dg.length) 48) = bs (four dg) := bs_app _ _
  have hfl : (four dg).length = 4 := by unfold four; rw [List.length_append, List.length_replicate]; omega
  have hrs : (bs (List.replicate (4 - dg.length) 48)).size = 4 - dg.length := by rw [bs_size, List.length_replicate]
  obtain ⟨d0, d1⟩ := dOf_bd (l := wh) (by omega)
  obtain ⟨d2, d3⟩ := dOf_bd (l := four dg) (by omega)
  obtain ⟨⟨a1, o1⟩, hd1⟩ : ∃ c, c = dOf wh := ⟨_, rfl⟩
  obtain ⟨⟨a2, o2⟩, hd2⟩ : ∃ c, c = dOf (four dg) := ⟨_, rfl⟩
  rw [← hd1] at d0 d1 HP
  rw [← hd2] at d2 d3 HP
  dsimp only at d0 d1 d2 d3 HP
  have HD1 := Lib.hid hd1
  have HD2 := Lib.hid hd2
  have HW1 : Hid (wh.length ≤ 8) := by show _ ≤ _; omega
  have HW2 : Hid ((four dg).length ≤ 8) := by show _ ≤ _; omega
  have q0 : 0 ≤ a2 / 625 := by omega
  have q1 := IntWalk.i64_in (a1 * 16) (by omega)
  have q2 := IntWalk.i64_in (a1 * 16 + a2 / 625) (by omega)
  have q3 := IntWalk.i64_in (-(a1 * 16 + a2 / 625)) (by omega)
  clear hd1 hd2 hfl
  go_wp2_with fail
  refine (i_decimalOf wh HW1.out w1).mono ?_
  rintro e w' ⟨rfl, rfl⟩
  rw [← HD1.out]
  dsimp only
  go_wp2_with fail
  refine (i_decimalOf (four dg) HW2.out w1).mono ?_
  rintro e w' ⟨rfl, rfl⟩
  rw [← HD2.out]
  dsimp only
  clear hze hap hrs hws hds
  cases o1
  · have HR : Hid (RF l 0 false) := RF.noI (by rw [HP.out, if_neg (by omega), if_neg (by simp)])
    go_wp2_with fail
    go_wp2
    go_ret2
    exact ⟨0, false, rfl, HR.out, HB1.out⟩
  cases o2
  · have HR : Hid (RF l 0 false) := RF.noI (by rw [HP.out, if_neg (by omega), if_neg (by simp)])
    go_wp2_with fail
    go_wp2
    go_ret2
    exact ⟨0, false, rfl, HR.out, HB1.out⟩
  cases ng
  · have HV : Hid (pI l = some ((a1 * 16 + a2 / 625) % 4096)) := by show _ = _; rw [HP.out, if_neg (by omega), if_pos ⟨rfl, rfl⟩]; rfl
    obtain ⟨v, hv⟩ : ∃ v, v = (a1 * 16 + a2 / 625) % 4096 := ⟨_, rfl⟩
    have hv0 : 0 ≤ v ∧ v ≤ 4095 := by rw [hv]; omega
    have HV2 : Hid (pI l = some v) := by show _ = _; rw [hv]; exact HV.out
    have HVV := Lib.hid hv
    clear HV hv
    go_wp2_with fail
    refine (i_RingOf (a1 * 16 + a2 / 625) w1).mono ?_
    rintro e w' ⟨rfl, rfl⟩
    rw [← HVV.out]
    go_wp2_with fail
    refine (i_FixedText v hv0 w1 (HT.out.below HB1.out (Nat.le_refl _))).mono ?_
    rintro e w2 ⟨rfl, hb2⟩
    have HB2 := Lib.hid (bstep hb2 HB1.out.size HB1.out)
    clear hb2
    by_cases hf : fx v = l
    · have hR := Lib.hid (RF.yes hv0 hf)
      rw [hf]
      clear hf
      go_wp2
      go_ret2
      exact ⟨v, true, rfl, hR.out, HB2.out⟩
    · have hR := Lib.hid (RF.noI2 HV2.out hf)
      have hne : ((bs (fx v)).toList == (bs l).toList) = false := by rw [← Go.beq_toListBytes]; exact ba_ne (fun e => hf (bs_inj e))
      clear hf
      go_wp2
      go_ret2
      exact ⟨0, false, rfl, hR.out, HB2.out⟩
  · have HV : Hid (pI l = some ((-(a1 * 16 + a2 / 625)) % 4096)) := by show _ = _; rw [HP.out, if_neg (by omega), if_pos ⟨rfl, rfl⟩]; rfl
    obtain ⟨v, hv⟩ : ∃ v, v = (-(a1 * 16 + a2 / 625)) % 4096 := ⟨_, rfl⟩
    have hv0 : 0 ≤ v ∧ v ≤ 4095 := by rw [hv]; omega
    have HV2 : Hid (pI l = some v) := by show _ = _; rw [hv]; exact HV.out
    have HVV := Lib.hid hv
    clear HV hv
    go_wp2_with fail
    refine (i_RingOf (-(a1 * 16 + a2 / 625)) w1).mono ?_
    rintro e w' ⟨rfl, rfl⟩
    rw [← HVV.out]
    go_wp2_with fail
    refine (i_FixedText v hv0 w1 (HT.out.below HB1.out (Nat.le_refl _))).mono ?_
    rintro e w2 ⟨rfl, hb2⟩
    have HB2 := Lib.hid (bstep hb2 HB1.out.size HB1.out)
    clear hb2
    by_cases hf : fx v = l
    · have hR := Lib.hid (RF.yes hv0 hf)
      rw [hf]
      clear hf
      go_wp2
      go_ret2
      exact ⟨v, true, rfl, hR.out, HB2.out⟩
    · have hR := Lib.hid (RF.noI2 HV2.out hf)
      have hne : ((bs (fx v)).toList == (bs l).toList) = false := by rw [← Go.beq_toListBytes]; exact ba_ne (fun e => hf (bs_inj e))
      clear hf
      go_wp2
      go_ret2
      exact ⟨0, false, rfl, hR.out, HB2.out⟩
end Go.Proofs.YtcmgnnfkgkibgaaDoor

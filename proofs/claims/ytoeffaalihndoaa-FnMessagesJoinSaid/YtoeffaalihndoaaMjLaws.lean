/-
  THE WALK of FnMessagesJoin. Printed by gen_mjlaws.py.
-/
import Derived.Test.YtoeffaalihndoaaMjPlain
import Derived.Test.YtoeffaalihndoaaDrawOpen
import Derived.Test.YtoeffaalihndoaaBestLaws
namespace Go.Proofs.Ytoeffaalihndoaa
open Go.RowKit
set_option linter.unusedVariables false
set_option linter.unusedSimpArgs false

theorem EO.belowB {T : TypeId} {s : Nat} {w w' : World} {base n cap B : Nat} {A : Option Addr} {xs : List Int} (h : EO T s w base A n cap xs) (hlt : ∀ g, blk A = some g → g < B) (hb : Below B w w') : EO T s w' base A n cap xs := h.keep hb.size fun g hg _ => hb.block g (hlt g hg)
theorem SI.belowB {w w' : World} {n B : Nat} {A : Option Addr} {xs : List Int} (h : SI w A n xs) (hlt : 0 < n → ∀ g, blk A = some g → g < B) (hb : Below B w w') : SI w' A n xs := by
  rcases Nat.eq_zero_or_pos n with h0 | h0
  · subst h0; exact ⟨h.1, fun h => absurd h (by omega)⟩
  · exact h.keep hb.size fun g hg _ => hb.block g (hlt h0 g hg)
theorem OS.push0 {wr w1 : World} {base k c m : Nat} {A : Addr} {xs ys : List Int} {v' : Value} (hos : OS wr base (some A) k c xs) (hbs : base ≤ wr.heap.size)
    (hown : w1.ownsRow base 3 1 v' (k + m) (xs.map (Value.int .i64) ++ ys.map (Value.int .i64))) (hg : wr.grownBy w1 (Value.slice (some A) k c).ownBlock) (hn : ¬ v' = .slice none 0 0) :
    ∃ (A' : Addr) (c' : Nat), v' = .slice (some A') (k + m) c' ∧ OS w1 base (some A') (k + m) c' (xs ++ ys) ∧ Below base wr w1 := EO.push0 (T := 3) (s := 1) hos hbs hown hg hn
theorem bytes_below {w w' : World} {A : Option Addr} {len : Nat} (h : Bytes w w.heap.size A len) (hb : Below w.heap.size w w') : Bytes w' w'.heap.size A len := (h.keep fun k hk => hb.block k hk).mono hb.size
theorem mv_sp {n : Nat} {zs : List Int} (h : MV n zs) : n % 2 = 0 := h.1.2

set_option maxRecDepth 20000 in
set_option maxHeartbeats 4000000 in
theorem FnMessagesJoin_walk (A : Option Addr) (len cap : Nat) (zs0 : List Int) (B : Option Addr) (lenB capB : Nat) (ys0 : List Int) (w : World) (h : IsRow .u8 w A len cap zs0) (k : IsRow .u8 w B lenB capB ys0) : Calls Try.prog 12 #[.slice A len cap, .slice B lenB capB] w fun e w' => e = .returned (.bool true) ∧ Below w.heap.size w w' := by
  obtain ⟨hl, hm, hr, h0⟩ := code_of_row h
  obtain ⟨hlB, hmB, hrB, h0B⟩ := code_of_row k
  clear h k
  by_cases hbig : 1048576 < len
  · have hI : (1048576 : Int) < (len : Int) := by omega
    unfold maxLen at hm hmB
    clear hr h0 hrB h0B
    go_enter Try.func12, Try.ntmps12
    go_wp2
    go_ret
    exact ⟨rfl, Below.refl _ _⟩
  have hbI : ¬ (1048576 : Int) < (len : Int) := by omega
  by_cases hbigB : 1048576 < lenB
  · have hI : (1048576 : Int) < (lenB : Int) := by omega
    unfold maxLen at hm hmB
    clear hr h0 hrB h0B
    go_enter Try.func12, Try.ntmps12
    go_wp2
    go_ret
    exact ⟨rfl, Below.refl _ _⟩
  have hbIB : ¬ (1048576 : Int) < (lenB : Int) := by omega
  have HRB := Lib.hid hrB
  have H0B := Lib.hid h0B
  have hmx : cap ≤ 9223372036854775807 := by unfold maxLen at hm; exact hm
  have hmxB : capB ≤ 9223372036854775807 := by unfold maxLen at hmB; exact hmB
  clear hrB h0B
  go_enter Try.func12, Try.ntmps12
  go_wp2_with fail
  refine (s_DrawOpenMessages A len cap w hl hm hr h0).mono ?_
  rintro e w1 ⟨q1, A1, n1, c1, ps1, rfl, _, hlen1, hn1, hos1, O1⟩
  clear hr h0
  obtain ⟨k1, zs1, hk1, hz1, hv1, hR1, CI1, CS1⟩ := open_both 3 ps1 n1 (by omega) hlen1 hn1
  have HI1 := Lib.hid CI1
  have HS1 := Lib.hid CS1
  have HV1 := Lib.hid hv1
  have HR1 := Lib.hid hR1
  have HZ1 := Lib.hid hz1
  have L1 : Hid (EI 2 w1 A1 n1 (flat ps1)) := hos1.si
  have O1 := Lib.hid O1
  clear CI1 CS1 hv1 hR1 hz1 hlen1 hos1
  go_wp2_with fail
  refine (HI1.out A1 c1 w1 L1.out).mono ?_
  rintro e w2 ⟨Ax, cx, rfl, hosx, hb⟩
  have L2 := Lib.hid (SI.below L1.out hb)
  have O2 := Lib.hid (bstep hb O1.out.size O1.out)
  have X2 := Lib.hid (hosx.mono O1.out.size)
  clear L1 O1 hb hosx
  go_wp2_with fail
  refine (HS1.out A1 c1 w2 L2.out).mono ?_
  rintro e w3 ⟨Ay, cy, rfl, hosy, hb⟩
  have O3 := Lib.hid (bstep hb O2.out.size O2.out)
  have X3 := Lib.hid (X2.out.below hb)
  have Y3 := Lib.hid hosy
  clear L2 O2 X2 hb hosy
  go_wp2_with fail
  refine (l_sameMessages Ax Ay k1 cx cy zs1 w3 X3.out.si Y3.out (by omega)).mono ?_
  rintro e w4 ⟨rfl, hb⟩
  have O4 := Lib.hid (bstep hb O3.out.size O3.out)
  have X4 := Lib.hid (X3.out.below hb)
  clear O3 X3 Y3 hb
  go_wp2_with fail
  refine (s_DrawOpenMessages B lenB capB w4 hlB hmB (bytes_below HRB.out O4.out) H0B.out).mono ?_
  rintro e w5 ⟨q2, A2, n2, c2, ps2, rfl, _, hlen2, hn2, hos2, hb⟩
  obtain ⟨k2, zs2, hk2, hz2, hv2, hR2, CI2, _⟩ := open_both 4 ps2 n2 (by omega) hlen2 hn2
  have HI2 := Lib.hid CI2
  have HV2 := Lib.hid hv2
  have HR2 := Lib.hid hR2
  have HZ2 := Lib.hid hz2
  have L5 : Hid (EI 2 w5 A2 n2 (flat ps2)) := hos2.si
  have O5 := Lib.hid (bstep hb O4.out.size O4.out)
  have X5 := Lib.hid (X4.out.below hb)
  clear CI2 hv2 hR2 hz2 hlen2 hos2 O4 X4 hb
  go_wp2_with fail
  refine (HI2.out A2 c2 w5 L5.out).mono ?_
  rintro e w6 ⟨Ay, cy, rfl, hosy, hb⟩
  have O6 := Lib.hid (bstep hb O5.out.size O5.out)
  have X6 := Lib.hid (X5.out.below hb)
  have Y6 := Lib.hid (hosy.mono O5.out.size)
  clear L5 O5 X5 hb hosy
  obtain ⟨i0, hi, hz0, hz1', hz2'⟩ := info_parts infoMsg
  obtain ⟨j0, hj, hy0, hy1, hy2⟩ := info_parts infoInt
  -- the messages of both
  have HZ : Hid (EO 75 3 (w6.alloc (.cells #[] 75)) w6.heap.size (some ⟨w6.heap.size, 0, none⟩) 0 0 []) := World.ownsRow_made w6 _ 0 (Nat.le_refl _) (by unfold maxLen; omega) rfl
  have hx6 : Hid (∀ g, blk Ax = some g → g < w6.heap.size) := fun g hg => (X6.out.blk_lt g hg).2
  have hy6 : Hid (∀ g, blk Ay = some g → g < w6.heap.size) := fun g hg => (Y6.out.blk_lt g hg).2
  have X6a : Hid (EO 75 3 (w6.alloc (.cells #[] 75)) w.heap.size Ax k1 cx zs1) := X6.out.alloc _
  have B6 : Hid (Below w6.heap.size w6 (w6.alloc (.cells #[] 75))) := (Below.refl _ _).alloc (Nat.le_refl _) _
  go_wp2_with (at_builtin; refine wpList_append_row rfl _ _ 40 rfl w6.heap.size w.heap.size 75 i0 (.agg #[.int .i64 0, .int .i64 0, .int .i64 0]) 3 24 Try.underlying40 hi hz0 hz1' hz2' rfl (by decide) ⟨w6.heap.size, 0, none⟩ 0 0 0 _ rfl HZ.out Ax k1 cx _ rfl X6a.out (news_one _) ?c4 ?c5 ?c6 ?_)
  case c4 => unfold maxLen; omega
  case c5 => omega
  case c6 => simp
  intro v' w7 hown hgrow hnil
  obtain ⟨Aa, ca, hva, hoa, hb7⟩ := EO.push0 (m := k1) (ys := zs1) HZ.out (by simp) (by first | exact hown | simpa using hown) hgrow hnil
  rw [Nat.zero_add] at hva hoa
  rw [List.nil_append] at hoa
  subst hva
  have B7 := Lib.hid (B6.out.trans hb7)
  have A7 := Lib.hid hoa
  have X7 : Hid (EO 75 3 w7 w.heap.size Ax k1 cx zs1) := X6.out.belowB hx6.out B7.out
  have Y7 : Hid (EO 75 3 w7 w.heap.size Ay k2 cy zs2) := Y6.out.belowB hy6.out B7.out
  clear hown hgrow hnil hoa hb7 X6a B6 HZ X6 Y6
  go_wp2_with (at_builtin; refine wpList_append_row rfl _ _ 40 rfl w6.heap.size w.heap.size 75 i0 (.agg #[.int .i64 0, .int .i64 0, .int .i64 0]) 3 24 Try.underlying40 hi hz0 hz1' hz2' rfl (by decide) Aa k1 ca k1 _ rfl A7.out Ay k2 cy _ rfl Y7.out (news_one _) ?c4 ?c5 ?c6 ?_)
  case c4 => unfold maxLen; omega
  case c5 => omega
  case c6 => exact B7.out.size
  intro v' w8 hown hgrow hnil
  obtain ⟨Ab, cb, rfl, hob, hb8⟩ := EO.push0 (m := k2) (ys := zs2) A7.out B7.out.size (by first | exact hown | simpa using hown) hgrow hnil
  have B8 := Lib.hid (B7.out.trans hb8)
  have X8 : Hid (EO 75 3 w8 w.heap.size Ax k1 cx zs1) := X7.out.belowB hx6.out hb8
  have Y8 : Hid (EO 75 3 w8 w.heap.size Ay k2 cy zs2) := Y7.out.belowB hy6.out hb8
  have hcapb := Lib.hid hob.cap_le
  have Z8 : Hid (EI 3 w8 (some Ab) (k1 + k2) (zs1 ++ zs2)) := hob.si
  have O8 : Hid (Below w.heap.size w w8) := O6.out.trans (B8.out.mono O6.out.size)
  clear hown hgrow hnil hob hb8 A7 B7 X7 Y7
  obtain ⟨kk, hkk⟩ : ∃ kk, kk = k1 + k2 := ⟨_, rfl⟩
  have HKK := Lib.hid hkk
  rw [← hkk] at Z8 hcapb ⊢
  have hkk24 : kk ≤ 24 := by omega
  have hcapx := Lib.hid X8.out.cap_le
  have hcapy := Lib.hid Y8.out.cap_le
  have HV : Hid (MV kk (zs1 ++ zs2)) := by
    have := join_MV HZ1.out HV1.out HV2.out (by omega) (fun i hi => by rw [HR1.out i hi]; omega) (fun i hi => by rw [HR2.out i hi]; omega)
    rw [hkk]
    exact this
  have HJ : Hid (fl (opn (zs1 ++ zs2)) (kk / 2) = fl (opn zs1) (k1 / 2) ++ fl (opn zs2) (k2 / 2)) := by
    have := join_opn (n := k1) (m := k2) (ys := zs2) HZ1.out (mv_sp HV1.out) (mv_sp HV2.out)
    rw [hkk]
    exact this
  clear hkk
  go_wp2_with fail
  refine (i_MessagesValid (some Ab) kk cb (zs1 ++ zs2) w8 Z8.out (by omega)).mono ?_
  rintro e w9 ⟨bb, rfl, hbb, hb⟩
  obtain rfl : bb = true := hbb.2 HV.out
  have O9 := Lib.hid (bstep hb O8.out.size O8.out)
  have X9 := Lib.hid (X8.out.below hb)
  have Y9 := Lib.hid (Y8.out.below hb)
  have Z9 : Hid (EI 3 w9 (some Ab) kk (zs1 ++ zs2)) := SI.below Z8.out hb
  clear hb hbb X8 Y8 Z8 O8 B8
  go_wp2_with fail
  refine (i_OpenedBy_t (some Ab) kk cb (zs1 ++ zs2) w9 Z9.out hcapb.out.1 (by have := hcapb.out.2; unfold maxLen at this; omega) HV.out).mono ?_
  rintro e wa ⟨Ap, cp, rfl, hosp, hb⟩
  have Oa := Lib.hid (bstep hb O9.out.size O9.out)
  have Xa := Lib.hid (X9.out.below hb)
  have Ya := Lib.hid (Y9.out.below hb)
  have Pa := Lib.hid hosp
  have hpa : Hid (∀ g, blk Ap = some g → g < wa.heap.size) := fun g hg => (hosp.blk_lt g hg).2
  have hya : Hid (∀ g, blk Ay = some g → g < wa.heap.size) := fun g hg => (Ya.out.blk_lt g hg).2
  have hsza := Lib.hid Oa.out.size
  clear hb X9 Y9 Z9 O9 hosp
  -- the numbers that both open, one behind the other
  obtain ⟨wb, hwb⟩ : ∃ u, u = wa.alloc (.cells #[] 3) := ⟨_, rfl⟩
  have QB : Hid (OS wb wa.heap.size (some ⟨wa.heap.size, 0, none⟩) 0 0 []) := by rw [hwb]; exact World.ownsRow_made wa _ 0 (Nat.le_refl _) (by unfold maxLen; omega) rfl
  have Ob : Hid (Below w.heap.size w wb) := by rw [hwb]; exact Oa.out.alloc Oa.out.size _
  have Bb : Hid (Below wa.heap.size wa wb) := by rw [hwb]; exact (Below.refl _ _).alloc (Nat.le_refl _) _
  have Xb : Hid (EO 75 3 wb w.heap.size Ax k1 cx zs1) := by rw [hwb]; exact Xa.out.alloc _
  have Yb : Hid (EO 75 3 wb w.heap.size Ay k2 cy zs2) := by rw [hwb]; exact Ya.out.alloc _
  have Pb : Hid (SI wb Ap (kk / 2) (fl (opn (zs1 ++ zs2)) (kk / 2))) := by rw [hwb]; exact SI.alloc (OS.si Pa.out) _
  clear Oa Xa Ya Pa
  go_wp2_with fail
  rw [← hwb]
  clear hwb
  refine (i_OpenedBy_t Ax k1 cx zs1 wb Xb.out.si hcapx.out.1 (by have := hcapx.out.2; unfold maxLen at this; omega) HV1.out).mono ?_
  rintro e wc ⟨Aq, cq, rfl, hosq, hb⟩
  have Oc := Lib.hid (bstep hb Ob.out.size Ob.out)
  have Bc := Lib.hid (bstep hb Bb.out.size Bb.out)
  have Yc := Lib.hid (Yb.out.below hb)
  have Pc := Lib.hid (Pb.out.below hb)
  have QC := Lib.hid (QB.out.below hb)
  have RC := Lib.hid hosq
  clear hb Xb Yb Pb Ob Bb QB hosq
  have hk1h : k1 / 2 ≤ 6 := by omega
  have hk2h : k2 / 2 ≤ 6 := by omega
  obtain ⟨h1, eh1⟩ : ∃ h1, h1 = k1 / 2 := ⟨_, rfl⟩
  obtain ⟨h2, eh2⟩ : ∃ h2, h2 = k2 / 2 := ⟨_, rfl⟩
  rw [← eh1] at RC HJ hk1h ⊢
  rw [← eh2] at HJ hk2h
  have EH2 := Lib.hid eh2
  clear eh1 eh2
  go_wp2_with (at_builtin; refine wpList_append_row_g (by rfl) _ _ 22 rfl wa.heap.size wb.heap.size 3 j0 (.int .i64 0) 1 8 Try.underlying22 hj hy0 hy1 hy2 rfl (by decide) ⟨wa.heap.size, 0, none⟩ 0 0 0 _ rfl QC.out Aq h1 cq _ rfl RC.out (news_one _) ?c4 ?c5 ?c6 ?_)
  case c4 => unfold maxLen; omega
  case c5 => omega
  case c6 => exact Bc.out.size
  intro v' wd hown hgrow hnil
  obtain ⟨Ar, cr, hvr, hor, hbd⟩ := OS.push0 (m := h1) (ys := fl (opn zs1) h1) QC.out Bc.out.size (by first | exact hown | simpa using hown) hgrow hnil
  rw [Nat.zero_add] at hvr hor
  rw [List.nil_append] at hor
  subst hvr
  have Bd := Lib.hid (Bc.out.trans hbd)
  have Od : Hid (Below w.heap.size w wd) := bstep hbd hsza.out Oc.out
  have Yd : Hid (EO 75 3 wd w.heap.size Ay k2 cy zs2) := Yc.out.belowB hya.out hbd
  have Pd := Lib.hid (SI.belowB Pc.out (fun _ => hpa.out) hbd)
  have QD := Lib.hid hor
  have hC := i_OpenedBy_t Ay k2 cy zs2 wd Yd.out.si hcapy.out.1 (by have := hcapy.out.2; unfold maxLen at this; omega) HV2.out
  rw [← EH2.out] at hC
  have HC := Lib.hid hC
  clear hown hgrow hnil hor hbd hC Oc Bc Yc Pc QC RC
  go_wp2_with fail
  refine HC.out.mono ?_
  rintro e we ⟨As, cs, rfl, hoss, hb⟩
  have Oe := Lib.hid (bstep hb Od.out.size Od.out)
  have Be := Lib.hid (bstep hb Bd.out.size Bd.out)
  have Pe := Lib.hid (SI.below Pd.out hb)
  have QE := Lib.hid (QD.out.below hb)
  have RE := Lib.hid hoss
  clear hb Od Bd Yd Pd QD hoss HC
  go_wp2_with (at_builtin; refine wpList_append_row_g (by rfl) _ _ 22 rfl wa.heap.size wd.heap.size 3 j0 (.int .i64 0) 1 8 Try.underlying22 hj hy0 hy1 hy2 rfl (by decide) Ar h1 cr h1 _ rfl QE.out As h2 cs _ rfl RE.out (news_one _) ?c4 ?c5 ?c6 ?_)
  case c4 => unfold maxLen; omega
  case c5 => omega
  case c6 => exact Be.out.size
  intro v' wf hown hgrow hnil
  obtain ⟨At, ct, rfl, hot, hbf⟩ := OS.push0 (m := h2) (ys := fl (opn zs2) h2) QE.out Be.out.size (by first | exact hown | simpa using hown) hgrow hnil
  have Of : Hid (Below w.heap.size w wf) := bstep hbf hsza.out Oe.out
  have Pf := Lib.hid (SI.belowB Pe.out (fun _ => hpa.out) hbf)
  have hE := l_sameInts Ap (some At) (kk / 2) cp (h1 + h2) ct _ _ wf Pf.out hot.si (by omega) (by omega)
  rw [HJ.out, eqL_same] at hE
  have HE := Lib.hid hE
  clear hown hgrow hnil hot hbf hE Oe Be Pe QE RE
  go_wp2_with fail
  refine HE.out.mono ?_
  rintro e wg ⟨rfl, hb⟩
  have Og := Lib.hid (bstep hb Of.out.size Of.out)
  clear hb Of Pf HE
  go_wp2_with fail
  refine (l_alive _).mono ?_
  rintro e w' ⟨rfl, rfl⟩
  go_wp2
  go_ret
  exact ⟨rfl, Og.out⟩
end Go.Proofs.Ytoeffaalihndoaa

/-
  THE WALK of FnJoinPoly. Printed by gen_joinlaws2.py.
-/
import Derived.Test.YtkhjkfamekjbnaaDrawJoin
import Derived.Test.YtkhjkfamekjbnaaJoinLaws
import Derived.BigFrame
namespace Go.Proofs.Ytkhjkfamekjbnaa
open Go.RowKit Go.BigFrame
set_option linter.unusedVariables false
set_option linter.unusedSimpArgs false

/-- an append behind a guard that says yes; the source is any slice that reads -/
theorem wpList_append_src_g {P : Program} {w : World} {ops : Array Oper} {rest : List Oper} {o : Oper} {a : Act} {Q : Exit → Act → World → Prop} (hw : Region.wanted o (yielded ops a.tmps) = true) (s x : Operand) (t : TypeId)
    (ho : o.op = .call { callee := .builtin .append, args := #[s, x], argTypes := #[t, t] })
    (base : Nat) (e : TypeId) (i : TypeInfo) (z : Value) (size bytes : Nat) (ht : P.underlying t = some (.slice e)) (hi : P.info? e = some i) (hz : i.zero = some z)
    (hsize : i.size = size) (hby : i.bytes = bytes) (hzs : z.cells.size = size) (hsz : 0 < size)
    (A : Addr) (k c n : Nat) (xs : List Value) (hs : a.eval s = .slice (some A) k c) (hown : w.ownsRow base e size (.slice (some A) k c) n xs)
    (ad : Addr) (m d : Nat) (news : List Value) (hx : a.eval x = .slice (some ad) m d) (hl : news.length = m * size) (hnews : ∀ j u, news[j]? = some u → w.cell? (ad.add j) = some u) (h1 : ∀ u ∈ news, u.oneCell' = true)
    (h63 : n + m ≤ maxLen) (hbytes : (n + m) * bytes ≤ 140737488355328) (hbase : base ≤ w.heap.size)
    (h : ∀ v' w', w'.ownsRow base e size v' (n + m) (xs ++ news) → w.grownBy w' (Value.slice (some A) k c).ownBlock → ¬ v' = .slice none 0 0 → wpList P ops Q rest (a.put o.dst v') w') : wpList P ops Q (o :: rest) a w :=
  wpList_want hw fun K hK => wp_append_own w s x t ho base e i z size bytes ht hi hz hsize hby hzs hsz (.slice (some A) k c) n xs hs hown ad m d news hx hl hnews h1 h63 hbytes hbase (fun v' w' ho' hg hn => hK _ _ (h v' w' ho' hg (fun hh => by have := (hn.1 hh).1; cases this)))
theorem JR_reverse {ps : List (Int × Int)} {v : Int} (hq : QV ps) (h : JR ps v) : JR ps.reverse v := ⟨fun _ => by rw [joinV_reverse]; exact h.1 hq, fun h' => absurd (QV_reverse hq) h'⟩
theorem rev_take {ps : List (Int × Int)} {n j : Nat} (hn : ps.length = n) (hj : j < n) : ps.reverse.take (j + 1) = ps.reverse.take j ++ [ps.getD (n - 1 - j) (0, 0)] := by
  have hl : j < ps.reverse.length := by rw [List.length_reverse]; omega
  rw [take_snoc ps.reverse j hl, List.getElem_reverse, List.getD_eq_getElem?_getD, List.getElem?_eq_getElem (by omega)]
  subst hn
  rfl

set_option maxRecDepth 20000 in
set_option maxHeartbeats 1500000 in
theorem FnJoinPoly_walk (A : Option Addr) (len cap : Nat) (zs : List Int) (w : World) (h : IsRow .u8 w A len cap zs) : Calls Try.prog 10 #[.slice A len cap] w fun e w' => e = .returned (.bool true) ∧ Below w.heap.size w w' := by
  obtain ⟨hl, hm, hr, h0⟩ := code_of_row h
  clear h
  by_cases hbig : 1048576 < len
  · unfold maxLen at hm
    clear hr h0
    go_enter Try.func10, Try.ntmps10
    go_wp2
    go_ret
    exact ⟨rfl, Below.refl _ _⟩
  have hmx : cap ≤ 9223372036854775807 := by unfold maxLen at hm; exact hm
  obtain ⟨i0, hi, hz0, hz1, hz2⟩ := info_parts infoPt
  go_enter Try.func10, Try.ntmps10
  go_wp2_with fail
  refine (s_DrawJoinPoly A len cap w hl hm hr h0).mono ?_
  rintro e w1 ⟨A', n, c, zs, rfl, hos, hn5, O1⟩
  clear hr h0
  obtain ⟨ps, hlen, rfl⟩ := flat_of n zs hos.len
  obtain ⟨v, hv⟩ := JR_ex ps
  have HL := Lib.hid hlen
  have HV := Lib.hid hv
  have HC := Lib.hid hos.cap_le
  have O1 := Lib.hid O1
  have L1 : Hid (EI 2 w1 A' n (flat ps)) := hos.si
  have HBK : Hid (0 < n → ∃ g, A' = some ⟨g, 0, none⟩) := fun h => by
    obtain ⟨g, e, _, _⟩ := hos.pos h
    exact ⟨g, e⟩
  clear hlen hv hos
  go_wp2_with fail
  refine (i_JoinPoly A' n c ps v w1 HL.out L1.out HC.out.1 (by have := HC.out.2; unfold maxLen at this; omega) HV.out).mono ?_
  rintro e w2 ⟨rfl, hb⟩
  have L2 := Lib.hid (SI.below L1.out hb)
  have O2 := Lib.hid (bstep hb O1.out.size O1.out)
  clear L1 O1 hb
  go_wp2_with fail
  refine (s_JoinPoly A' n c ps v w2 HL.out L2.out HC.out.1 (by have := HC.out.2; unfold maxLen at this; omega) HV.out).mono ?_
  rintro e w3 ⟨rfl, hb⟩
  have L3 : Hid (EI 2 w3 A' n (flat ps)) := SI.below L2.out hb
  have O3 := Lib.hid (bstep hb O2.out.size O2.out)
  clear L2 O2 hb
  have HZ : Hid (EO 46 2 (w3.alloc (.cells #[] 46)) w3.heap.size (some ⟨w3.heap.size, 0, none⟩) 0 0 []) := World.ownsRow_made w3 _ 0 (Nat.le_refl _) (by unfold maxLen; omega) rfl
  have HW := Lib.hid ((Below.refl w3.heap.size w3).alloc (Nat.le_refl _) (.cells #[] 46))
  have hwn : IntKind.i64.wrap ((n : Int) - 1) = (n : Int) - 1 := IntWalk.i64_in _ (by omega)
  have hvv : (v != v) = false := by simp
  go_wp2
  clear hwn
  go_loopw [5, 6] (fun vo vk wr => ∃ (j e : Nat) (B : Addr), j ≤ n ∧ vk = .int .i64 ((n : Int) - 1 - (j : Int)) ∧ vo = .slice (some B) j e ∧ Hid (EO 46 2 wr w3.heap.size (some B) j e (flat (ps.reverse.take j))) ∧ Hid (Below w3.heap.size w3 wr)) (fun _ vk _ => (intOf vk + 1).toNat)
  case atStart => exact ⟨0, 0, _, Nat.zero_le _, by go_num, rfl, HZ, HW⟩
  case round =>
    obtain ⟨j, e, B, hj, rfl, rfl, hos, hbel⟩ := hrel
    by_cases hlt : j < n
    · obtain ⟨k, hk⟩ : ∃ k, k = n - 1 - j := ⟨_, rfl⟩
      have hkI : (n : Int) - 1 - (j : Int) = (k : Int) := by omega
      have hkn : k < n := by omega
      rw [hkI]
      obtain ⟨b, off, rfl, hb, hc⟩ := EI.at2 L3.out (by omega)
      obtain ⟨x, ex⟩ : ∃ x, x = pX ps k := ⟨_, rfl⟩
      obtain ⟨y, ey⟩ : ∃ y, y = pY ps k := ⟨_, rfl⟩
      have cx : wr.cell? ⟨b, off + k * 2, none⟩ = some (.int .i64 x) := by rw [ex]; unfold pX; rw [← flat_X]; exact (hbel.out.cell (p := ⟨b, off + k * 2, none⟩) hb).trans (hc k hkn).1
      have cy : wr.cell? ⟨b, off + k * 2 + 1, none⟩ = some (.int .i64 y) := by rw [ey]; unfold pY; rw [← flat_Y]; exact (hbel.out.cell (p := ⟨b, off + k * 2 + 1, none⟩) hb).trans (hc k hkn).2
      have HRV : Hid (flat (ps.reverse.take (j + 1)) = flat (ps.reverse.take j) ++ [x, y]) := by
        rw [rev_take HL.out hlt, flat_append, ← hk, ex, ey]
        rfl
      have hk0 : (0 : Int) ≤ (k : Int) := by omega
      have hkI2 : (k : Int) < (n : Int) := by omega
      have hw1 : IntKind.i64.wrap ((k : Int) - 1) = (k : Int) - 1 := IntWalk.i64_in _ (by omega)
      have HKJ : Hid ((k : Int) - 1 = (n : Int) - 1 - ((j + 1 : Nat) : Int)) := Lib.hid (by omega)
      have hszr : w3.heap.size ≤ wr.heap.size := hbel.out.size
      clear hc ex ey hk hkI
      go_wp2_with (at_builtin; refine wpList_append_lies _ rfl _ _ 29 rfl w3.heap.size 46 i0 (.agg #[.int .i64 0, .int .i64 0]) 2 16 Try.underlying29 hi hz0 hz1 hz2 rfl (by decide) (.slice (some B) j e) j _ rfl (World.ownsRow.alloc hos.out _) ⟨wr.heap.size, 0, none⟩ 1 1 [.int .i64 x, .int .i64 y] rfl rfl ?c1 ?c2 ?c3 ?c4 ?c5 ?c6 (wr.heap.size + 1) ?c7 ?_)
      case c1 => exact World.news_of_block (cs := #[.int .i64 x, .int .i64 y]) (t := 46) (fr := (0, 0)) (heap_alloc_new wr _)
      case c2 => intro u hu; simp at hu; rcases hu with rfl | rfl <;> rfl
      case c3 => omega
      case c4 => unfold maxLen; omega
      case c5 => omega
      case c6 => simp; omega
      case c7 => simp
      intro g6 cap6 w6 hown hgrow hat hlt6
      obtain ⟨A6, c6, hv6, ho6, hb6⟩ := EO.push (w := w3) (m := 1) (ys := [x, y]) hos.out hbel.out hszr hown hgrow
      injection hv6 with e1 e2 e3
      subst e1 e3
      have HO6 : Hid (EO 46 2 w6 w3.heap.size (some ⟨g6, 0, none⟩) (j + 1) cap6 (flat (ps.reverse.take (j + 1)))) := by rw [HRV.out]; exact ho6
      have HB6 := Lib.hid hb6
      clear hown hgrow hat ho6 hb6 hos hbel
      go_wp2
      go_roundw
      case rel => exact ⟨j + 1, cap6, _, by omega, by rw [← HKJ.out], rfl, HO6, HB6⟩
      case measure => simp [intOf] <;> omega
    · have hjn : j = n := by omega
      subst hjn
      have hkm : (j : Int) - 1 - (j : Int) = -1 := by omega
      rw [hkm]
      have O4 := Lib.hid (bstep hbel.out O3.out.size O3.out)
      have L4 : Hid (EI 2 wr A' j (flat ps)) := SI.below L3.out hbel.out
      have HT : Hid (EI 2 wr (some B) j (flat ps.reverse)) := by
        have h := hos.out.si
        rw [List.take_of_length_le (by rw [List.length_reverse, HL.out]; exact Nat.le_refl _)] at h
        exact h
      have HCT := Lib.hid hos.out.cap_le
      clear hkm hos hbel L3 O3 HZ HW
      by_cases hq : QV ps
      · have hvb : v = joinV ps := HV.out.1 hq
        have hbd := joinV_bd ps
        rw [← hvb] at hbd
        have hv0 : ¬ v < 0 := by omega
        have hvP : v < 4093 := by omega
        have hveq : (v == v) = true := by simp
        have hj1 : 0 < j := by have := hq.1.1; rw [HL.out] at this; omega
        obtain ⟨p, r, hpr⟩ : ∃ p r, ps = p :: r := by
          cases ps with
          | nil => have := hq.1.1; simp at this
          | cons p r => exact ⟨p, r, rfl⟩
        have HPR := Lib.hid hpr
        have HJR := Lib.hid (JR_reverse hq HV.out)
        have HLR : Hid (ps.reverse.length = j) := by rw [List.length_reverse]; exact HL.out
        obtain ⟨g, rfl⟩ := HBK.out hj1
        clear hvb hbd hq hpr HBK
        go_wp2_with fail
        refine (i_JoinPoly (some B) j e ps.reverse v wr HLR.out HT.out HCT.out.1 (by have := HCT.out.2; unfold maxLen at this; omega) HJR.out).mono ?_
        rintro e5 w5 ⟨rfl, hb⟩
        have O5 := Lib.hid (bstep hb O4.out.size O4.out)
        have L5 : Hid (EI 2 w5 (some ⟨g, 0, none⟩) j (flat ps)) := SI.below L4.out hb
        clear hb O4 L4 HT
        have hc5 := EI.at2 L5.out hj1
        have cx : w5.cell? ⟨g, 0, none⟩ = some (.int .i64 p.1) := by
          obtain ⟨b', off', e', _, hc⟩ := hc5
          injection e' with e'; injection e' with e1 e2; subst e1 e2
          have := (hc 0 hj1).1
          rw [HPR.out] at this
          simpa [flat] using this
        have cy : w5.cell? ⟨g, 1, none⟩ = some (.int .i64 p.2) := by
          obtain ⟨b', off', e', _, hc⟩ := hc5
          injection e' with e'; injection e' with e1 e2; subst e1 e2
          have := (hc 0 hj1).2
          rw [HPR.out] at this
          simpa [flat] using this
        obtain ⟨x, hx⟩ : ∃ x, x = p.1 := ⟨_, rfl⟩
        obtain ⟨y, hy⟩ : ∃ y, y = p.2 := ⟨_, rfl⟩
        rw [← hx] at cx
        rw [← hy] at cy
        have hjI : (0 : Int) < (j : Int) := by omega
        have HB1 : Hid (EO 46 2 (w5.alloc (.cells #[.int .i64 x, .int .i64 y] 46)) w5.heap.size (some ⟨w5.heap.size, 0, none⟩) 1 1 [x, y]) := World.ownsRow_lit w5 #[.int .i64 x, .int .i64 y] 1 (Nat.le_refl _) (by unfold maxLen; omega) rfl
        have HNW : Hid (∀ q u, ((flat ps).map (Value.int .i64))[q]? = some u → (w5.alloc (.cells #[.int .i64 x, .int .i64 y] 46)).cell? ((⟨g, 0, none⟩ : Addr).add q) = some u) := EI.news (s := 2) (n := j) (SI.alloc L5.out _)
        have HNL : Hid (((flat ps).map (Value.int .i64)).length = j * 2) := Lib.hid (by rw [List.length_map, flat_len, HL.out])
        have HFL : Hid ([x, y] ++ flat ps = flat (p :: ps)) := by rw [flat_cons, hx, hy]; rfl
        have HJ2 : Hid (JR (p :: ps) (-1)) := ⟨fun h => absurd (HPR.out ▸ h) (QV_twice p r), fun _ => rfl⟩
        have HL2 : Hid ((p :: ps).length = 1 + j) := Lib.hid (by rw [List.length_cons, HL.out]; omega)
        clear hx hy hc5
        go_wp2_with (at_builtin; refine wpList_append_src_g (by rfl) _ _ 29 rfl w5.heap.size 46 i0 (.agg #[.int .i64 0, .int .i64 0]) 2 16 Try.underlying29 hi hz0 hz1 hz2 rfl (by decide) ⟨w5.heap.size, 0, none⟩ 1 1 1 _ rfl HB1.out ⟨g, 0, none⟩ j c _ rfl HNL.out HNW.out (news_one _) ?c4 ?c5 ?c6 ?_)
        case c4 => unfold maxLen; omega
        case c5 => omega
        case c6 => simp
        intro v7 w7 hown hgrow hnil
        obtain ⟨A7, c7, rfl, ho7, hb7⟩ := EO.push0 (m := j) (ys := flat ps) HB1.out (by simp) (by first | exact hown | simpa using hown) hgrow hnil
        have O7 := Lib.hid (bstep (((Below.refl w5.heap.size w5).alloc (Nat.le_refl _) (.cells #[.int .i64 x, .int .i64 y] 46)).trans hb7) O5.out.size O5.out)
        rw [HFL.out] at ho7
        have L7 : Hid (EI 2 w7 (some A7) (1 + j) (flat (p :: ps))) := ho7.si
        have HC7 := Lib.hid ho7.cap_le
        clear hown hgrow hnil ho7 hb7 HB1 HNW O5 L5
        go_wp2_with fail
        refine (i_JoinPoly (some A7) (1 + j) c7 (p :: ps) (-1) w7 HL2.out L7.out HC7.out.1 (by have := HC7.out.2; unfold maxLen at this; omega) HJ2.out).mono ?_
        rintro e8 w8 ⟨rfl, hb⟩
        have O8 := Lib.hid (bstep hb O7.out.size O7.out)
        clear hb O7 L7
        go_wp2
        go_ret
        exact ⟨rfl, O8.out⟩
      · obtain rfl : v = -1 := HV.out.2 hq
        clear hq
        go_wp2_with fail
        refine (l_alive _).mono ?_
        rintro e' w' ⟨rfl, rfl⟩
        go_wp2
        go_ret
        exact ⟨rfl, O4.out⟩
end Go.Proofs.Ytkhjkfamekjbnaa

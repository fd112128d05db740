/-
  CONTRACTS: draws of messages. Printed by gen_drawmsgs.py.
-/
import Derived.Test.YtoeffaalihndoaaOpenMsg
namespace Go.Proofs.Ytoeffaalihndoaa
open Go.RowKit
set_option linter.unusedVariables false
set_option linter.unusedSimpArgs false

theorem EO.addr {T : TypeId} {s : Nat} {w : World} {base n c : Nat} {A : Addr} {zs : List Int} (h : EO T s w base (some A) n c zs) : ∃ g, A = ⟨g, 0, none⟩ ∧ base ≤ g ∧ g < w.heap.size := by
  rcases h.2 with ⟨e, _⟩ | ⟨g, c', cur, e, hb, hh, _⟩
  · cases e
  · injection e with e1
    injection e1 with e1
    exact ⟨g, e1, hb, (Array.getElem?_eq_some_iff.1 hh).1⟩
/-- an own row's elements, where another row is appended from -/
theorem EO.news {T : TypeId} {s : Nat} {w : World} {base n c g : Nat} {zs : List Int} (h : EO T s w base (some ⟨g, 0, none⟩) n c zs) : ∀ j u, (zs.map (Value.int .i64))[j]? = some u → w.cell? ((⟨g, 0, none⟩ : Addr).add j) = some u := World.ownsRow.cells h rfl
theorem news_one (zs : List Int) : ∀ u ∈ zs.map (Value.int .i64), u.oneCell' = true := fun u hu => by
  obtain ⟨z, _, rfl⟩ := List.mem_map.1 hu
  rfl
/-- structs appended by a plain append: what it does -/
theorem EO.push0 {T : TypeId} {s : Nat} {wr w1 : World} {base k c m : Nat} {A : Addr} {xs ys : List Int} {v' : Value} (hos : EO T s wr base (some A) k c xs) (hbs : base ≤ wr.heap.size)
    (hown : w1.ownsRow base T s v' (k + m) (xs.map (Value.int .i64) ++ ys.map (Value.int .i64))) (hg : wr.grownBy w1 (Value.slice (some A) k c).ownBlock) (hn : ¬ v' = .slice none 0 0) :
    ∃ (A' : Addr) (c' : Nat), v' = .slice (some A') (k + m) c' ∧ EO T s w1 base (some A') (k + m) c' (xs ++ ys) ∧ Below base wr w1 := by
  obtain ⟨A', c', hv, ho⟩ := EO.form (xs := xs ++ ys) (by simpa using hown)
  rw [ownBlock_slice] at hg
  have hb : Below base wr w1 := ⟨hg.os, hg.tape, hg.output, hg.size, fun i hi => hg.block i (by omega) (fun e => by have := (hos.blk_lt i e.symm).1; omega)⟩
  cases A' with
  | some a => exact ⟨a, c', hv, ho, hb⟩
  | none =>
    exfalso
    rcases ho.2 with ⟨e, e'⟩ | ⟨g, c2, cur, e, _⟩
    · exact hn (hv.trans e)
    · cases e
theorem below_only {rb B : Nat} {w a b : World} (h : Only rb w a) (k : Below B a b) (h1 : w.heap.size ≤ B) : Only rb w b :=
  ⟨k.os.trans h.os, k.tape.trans h.tape, k.output.trans h.output, Nat.le_trans h.size k.size, fun i hi hne => (k.block i (by omega)).trans (h.block i hi hne)⟩

theorem getD_drop' (zs : List Int) (m i : Nat) : (zs.drop m).getD i 0 = zs.getD (m + i) 0 := by
  rw [List.getD_eq_getElem?_getD, List.getD_eq_getElem?_getD, List.getElem?_drop]
theorem EI.drop {s d n : Nat} {w : World} {g : Nat} {zs : List Int} (h : EI s w (some ⟨g, 0, none⟩) (d + n) zs) : EI s w (some ⟨g, d * s, none⟩) n (zs.drop (d * s)) := by
  have hm : (d + n) * s = d * s + n * s := Nat.add_mul _ _ _
  refine ⟨by rw [List.length_drop, h.1]; omega, fun h0 => ?_⟩
  obtain ⟨b, off, e, hb, hc⟩ := h.2 (by omega)
  injection e with e; injection e with e1 e2; subst e1 e2
  exact ⟨_, _, rfl, hb, fun i hi => by
    rw [getD_drop']
    have := hc (d * s + i) (by omega)
    rwa [Nat.zero_add] at this⟩
/-- messages drawn -/
def Lm (w : World) (rb P : Nat) (e : Ending) (w' : World) : Prop := ∃ (A : Option Addr) (n c : Nat) (zs : List Int), e = .returned (.slice A n c) ∧ EI 3 w' A n zs ∧ n ≤ 36 ∧ (n ≤ c ∧ c ≤ maxLen) ∧ Rd w' rb P ∧ Only rb w w'
set_option maxRecDepth 20000 in
set_option maxHeartbeats 4000000 in
theorem s_l20Messages (rb P : Nat) (n0 : Int) (hn : 1 ≤ n0 ∧ n0 ≤ 1000000) (w : World) (h : Rd w rb P) (hP : P < 1000000) : Calls Try.prog 81 #[.pointer (some ⟨rb, 0, none⟩), .int .i64 n0] w (Lm w rb (P + 300)) := by
  obtain ⟨i0, hi, hz0, hz1, hz2⟩ := info_parts infoMsg
  have hlt := h.lt
  have HZ : Hid (EO 75 3 (w.alloc (.cells #[] 75)) w.heap.size (some ⟨w.heap.size, 0, none⟩) 0 0 []) := World.ownsRow_made w _ 0 (Nat.le_refl _) (by unfold maxLen; omega) rfl
  go_enter Try.func81, Try.ntmps81
  go_wp2_with fail
  refine (s_pick rb P 5 _ (h.alloc _) (by omega)).mono ?_
  rintro e w1 ⟨v, rfl, v0, v1, r1, o1⟩
  have cv : v ≤ 4 := by omega
  have HZ1 := Lib.hid (HZ.out.only o1 hlt)
  have HO1 : Hid (Only rb w w1) := ((Only.refl rb w).alloc _).trans o1
  have HR1 := Lib.hid r1
  clear v1 h r1 o1 HZ
  go_wp2_with fail
  refine (s_pick rb (P + 1) 4 _ HR1.out (by omega)).mono ?_
  rintro e w2 ⟨u, rfl, u0, u1, r2, o2⟩
  have cu : u ≤ 3 := by omega
  have HZ2 := Lib.hid (HZ1.out.only o2 hlt)
  have HO2 : Hid (Only rb w w2) := HO1.out.trans o2
  have HR2 : Hid (Rd w2 rb (P + 2 + 92 * 0)) := r2
  clear u1 r2 o2 HZ1 HO1 HR1
  go_wp2
  go_loopw [5, 6, 7] (fun v5 v6 v7 wr => ∃ (j m d : Nat) (k q : Int) (B : Addr) (zs : List Int), 0 ≤ k ∧ (j : Int) + k ≤ 3 ∧ v7 = .int .i64 k ∧ 0 ≤ q ∧ q ≤ 4 + 2 * (j : Int) ∧ v6 = .int .i64 q ∧ m ≤ 12 * j ∧ v5 = .slice (some B) m d ∧ Hid (EO 75 3 wr w.heap.size (some B) m d zs) ∧ Hid (Only rb w wr) ∧ Hid (Rd wr rb (P + 2 + 92 * j))) (fun _ _ k _ => (intOf k).toNat)
  case atStart => exact ⟨0, 0, 0, u, v, _, [], by omega, by omega, by go_num, by omega, by omega, by go_num, by omega, rfl, HZ2, HO2, HR2⟩
  case round =>
    obtain ⟨j, m, d, k, q, B, zs, k0, hjk, rfl, q0, q1, rfl, hm, rfl, hos, hon, hrd⟩ := hrel
    have hszr := Lib.hid hon.out.size
    by_cases hk : 0 < k
    · go_wp2_with fail
      refine (s_l20List rb (P + 2 + 92 * j) 0 (by omega) wr hrd.out (by omega)).mono ?_
      rintro e w4 ⟨A', n', c', ps, rfl, hlen, hosl, hn6, hsh, r4, o4⟩
      have HOS4 := Lib.hid (hos.out.only o4 hlt)
      have HON4 := Lib.hid (hon.out.trans o4)
      have HR4 := Lib.hid r4
      have HSI4 : Hid (EI 2 w4 A' n' (flat ps)) := hosl.si
      have HSH := Lib.hid (hsh rfl)
      have HLEN := Lib.hid hlen
      clear r4 o4 hos hon hrd hosl hsh hlen
      have hq1000 : 0 ≤ q ∧ q ≤ 1000 := by omega
      go_wp2_with fail
      refine (s_OpenMessages_t q A' n' c' ps w4 hq1000 HLEN.out (by omega) HSI4.out HSH.out).mono ?_
      rintro e w5 ⟨Bm, cm, rfl, hosm, hb5⟩
      have hsz4 : w.heap.size ≤ w4.heap.size := HON4.out.size
      have HOS5 := Lib.hid (HOS4.out.below hb5)
      have HON5 := Lib.hid (HON4.out.below hb5)
      have HR5 := Lib.hid (HR4.out.below hb5)
      have hsz5 : w.heap.size ≤ w5.heap.size := HON5.out.size
      obtain ⟨gm, rfl, _, _⟩ := hosm.addr
      have HNW := Lib.hid hosm.news
      have HNL : Hid (((oms q ps).map (Value.int .i64)).length = 2 * n' * 3) := Lib.hid (by rw [List.length_map, oms_len, HLEN.out]; omega)
      clear hosm hb5 HOS4 HON4 HR4 HSI4 HSH
      have hmb : m + 2 * n' ≤ 36 + 12 := by omega
      go_wp2_with (at_builtin; refine wpList_append_own _ rfl _ _ 40 rfl w.heap.size 75 i0 (.agg #[.int .i64 0, .int .i64 0, .int .i64 0]) 3 24 Try.underlying40 hi hz0 hz1 hz2 rfl (by decide) (.slice (some B) m d) m _ rfl HOS5.out ⟨gm, 0, none⟩ (2 * n') cm ((oms q ps).map (Value.int .i64)) rfl HNL.out HNW.out (news_one _) ?c4 ?c5 ?c6 ?_)
      case c4 => unfold maxLen; omega
      case c5 => omega
      case c6 => exact hsz5
      intro v' w6 hown hgrow hnil
      obtain ⟨A6, c6, rfl, ho6, hb6⟩ := EO.push0 HOS5.out hsz5 hown hgrow hnil
      have HOS6 := Lib.hid ho6
      have HON6 := Lib.hid (below_only HON5.out hb6 (Nat.le_refl _))
      have HR6 : Hid (Rd w6 rb (P + 2 + 92 * j + 91)) := HR5.out.keep fun i hi => hb6.block i (by omega)
      clear hown hgrow hnil ho6 hb6 HOS5 HON5 HR5 HNW HNL
      go_wp2_with fail
      refine (s_pick rb (P + 2 + 92 * j + 91) 3 w6 HR6.out (by omega)).mono ?_
      rintro e w7 ⟨z, rfl, z0, z1, r7, o7⟩
      have hz2' : z ≤ 2 := by omega
      have hwz : IntKind.i64.wrap (q + z) = q + z := IntWalk.i64_in _ (by omega)
      have HOS7 := Lib.hid (HOS6.out.only o7 hlt)
      have HON7 := Lib.hid (HON6.out.trans o7)
      have HR7 : Hid (Rd w7 rb (P + 2 + 92 * (j + 1))) := r7.mono (by omega)
      have hm12 : m + 2 * n' ≤ 12 * (j + 1) := by omega
      clear r7 o7 z1 HOS6 HON6 HR6 hmb
      go_wp2
      go_roundw
      case rel => exact ⟨j + 1, m + 2 * n', c6, k - 1, q + z, A6, _, by omega, by omega, by go_num, by omega, by omega, by go_num, hm12, rfl, HOS7, HON7, HR7⟩
      case measure => simp [intOf] <;> omega
    · obtain rfl : k = 0 := by omega
      have hcap := hos.out.cap_le
      have HCAP := Lib.hid hcap
      have hm36 : m ≤ 36 := by omega
      obtain ⟨g, rfl, hgb, hgl⟩ := hos.out.addr
      clear hcap
      go_wp2_with fail
      refine (s_odd rb (P + 2 + 92 * j) n0 (by omega) wr hrd.out (by omega)).mono ?_
      rintro e w4 ⟨bb, rfl, r4, o4⟩
      have HOS4 := Lib.hid (hos.out.only o4 hlt)
      have HON4 := Lib.hid (hon.out.trans o4)
      have HR4 := Lib.hid r4
      clear r4 o4 hos hon hrd
      cases bb
      · go_wp2
        go_ret
        exact ⟨_, m, d, _, rfl, HOS4.out.si, hm36, HCAP.out, HR4.out.mono (by omega), HON4.out⟩
      · by_cases hm0 : m = 0
        · subst hm0
          go_wp2
          go_ret
          exact ⟨_, 0, d, _, rfl, HOS4.out.si, hm36, HCAP.out, HR4.out.mono (by omega), HON4.out⟩
        · have hmI : (0 : Int) < (m : Int) := by omega
          have hmN : 0 < m := by omega
          go_wp2_with fail
          refine (s_pick rb (P + 2 + 92 * j + 1) (m : Int) w4 HR4.out (by omega)).mono ?_
          rintro e w5 ⟨kq, rfl, kq0, kq1, r5, o5⟩
          obtain ⟨kk, rfl⟩ : ∃ kk : Nat, kq = (kk : Int) := ⟨kq.toNat, by omega⟩
          have hkm : kk < m := by omega
          have hkI : (kk : Int) < (m : Int) := by omega
          have HOS5 := Lib.hid (HOS4.out.only o5 hlt)
          have HON5 := Lib.hid (HON4.out.trans o5)
          have HR5 := Lib.hid r5
          clear r5 o5 kq1 HOS4 HON4 HR4
          go_wp2_with fail
          refine (s_pick rb (P + 2 + 92 * j + 2) 4 w5 (HR5.out.mono (by omega)) (by omega)).mono ?_
          rintro e w6 ⟨t, rfl, t0, t1, r6, o6⟩
          have ht4 : t ≤ 3 := by omega
          have HOS6 := Lib.hid (HOS5.out.only o6 hlt)
          have HON6 := Lib.hid (HON5.out.trans o6)
          have HR6 := Lib.hid r6
          clear r6 o6 t1 HOS5 HON5 HR5
          obtain ⟨x0, ex0⟩ : ∃ x, x = zs.getD (kk * 3) 0 := ⟨_, rfl⟩
          obtain ⟨x1, ex1⟩ : ∃ x, x = zs.getD (kk * 3 + 1) 0 := ⟨_, rfl⟩
          obtain ⟨x2, ex2⟩ : ∃ x, x = zs.getD (kk * 3 + 2) 0 := ⟨_, rfl⟩
          have cx0 : w6.cell? ⟨g, kk * 3, none⟩ = some (.int .i64 x0) := by rw [ex0]; exact HOS6.out.cell (kk * 3) (by omega)
          have cx1 : w6.cell? ⟨g, kk * 3 + 1, none⟩ = some (.int .i64 x1) := by rw [ex1]; exact HOS6.out.cell (kk * 3 + 1) (by omega)
          have cx2 : w6.cell? ⟨g, kk * 3 + 2, none⟩ = some (.int .i64 x2) := by rw [ex2]; exact HOS6.out.cell (kk * 3 + 2) (by omega)
          have fx0 := HOS6.out.frozen (kk * 3) g rfl
          have fx1 := HOS6.out.frozen (kk * 3 + 1) g rfl
          have fx2 := HOS6.out.frozen (kk * 3 + 2) g rfl
          have hg6 : g < w6.heap.size := (HOS6.out.blk_lt g rfl).2
          clear ex0 ex1 ex2
          rcases (by omega : t = 0 ∨ t = 1 ∨ t = 2 ∨ t = 3) with rfl | rfl | rfl | rfl
          · obtain ⟨y, hy⟩ : ∃ y, IntKind.i64.wrap (3 - x1) = y := ⟨_, rfl⟩
            have HS := Lib.hid (HOS6.out.store (kk * 3 + 1) y).si
            have HO : Hid (Only rb w (w6.setCell ⟨g, kk * 3 + 1, none⟩ (.int .i64 y))) := HON6.out.setCell (.inr hgb) _
            have HR : Hid (Rd (w6.setCell ⟨g, kk * 3 + 1, none⟩ (.int .i64 y)) rb (P + 300)) := (HR6.out.mono (by omega)).setCell (by dsimp only; omega) _
            go_wp2
            go_ret
            exact ⟨_, m, d, _, rfl, HS.out, hm36, HCAP.out, HR.out, HO.out⟩
          · obtain ⟨w7, hw7⟩ : ∃ u, u = w6.alloc (.cells #[.int .i64 (-1), .int .i64 1001, .int .i64 0] 3) := ⟨_, rfl⟩
            have HOS7 : Hid (EO 75 3 w7 w.heap.size (some ⟨g, 0, none⟩) m d zs) := by rw [hw7]; exact HOS6.out.alloc _
            have HON7 : Hid (Only rb w w7) := by rw [hw7]; exact HON6.out.alloc _
            have HR7 : Hid (Rd w7 rb (P + 2 + 92 * j + 3)) := by rw [hw7]; exact HR6.out.alloc _
            have B7 : Hid (Blk w7 w6.heap.size 3 #[.int .i64 (-1), .int .i64 1001, .int .i64 0]) := by rw [hw7]; exact Blk.new w6 _ _
            go_wp2_with fail
            rw [← hw7]
            clear hw7
            refine (s_pick rb (P + 2 + 92 * j + 3) 3 w7 HR7.out (by omega)).mono ?_
            rintro e w8 ⟨p, rfl, p0, p1, r8, o8⟩
            have hp2 : p ≤ 2 := by omega
            have HOS8 := Lib.hid (HOS7.out.only o8 hlt)
            have HON8 := Lib.hid (HON7.out.trans o8)
            have HR8 := Lib.hid r8
            have B8 := B7.out.only o8 (by omega)
            obtain ⟨z, hz, z0, z1⟩ := getD_small [-1, 1001, 0] (-1) 1001 (by simp) p p0 (by simp; omega)
            have cz : w8.cell? ⟨w6.heap.size, p.toNat, none⟩ = some (.int .i64 z) := by
              have := B8.cell p.toNat
              have e : (#[Value.int .i64 (-1), .int .i64 1001, .int .i64 0])[p.toNat]? = (([-1, 1001, 0] : List Int)[p.toNat]?).map (Value.int .i64) := by
                rcases (by omega : p = 0 ∨ p = 1 ∨ p = 2) with rfl | rfl | rfl <;> rfl
              rw [this, e, hz]
              rfl
            obtain ⟨x0', ex0⟩ : ∃ x, x = zs.getD (kk * 3) 0 := ⟨_, rfl⟩
            have cx0' : w8.cell? ⟨g, kk * 3, none⟩ = some (.int .i64 x0') := by rw [ex0]; exact HOS8.out.cell (kk * 3) (by omega)
            have fx0' := HOS8.out.frozen (kk * 3) g rfl
            have hg8 : g < w8.heap.size := (HOS8.out.blk_lt g rfl).2
            have p3 : p < 3 := by omega
            have HS := Lib.hid (HOS8.out.store (kk * 3) z).si
            have HO : Hid (Only rb w (w8.setCell ⟨g, kk * 3, none⟩ (.int .i64 z))) := HON8.out.setCell (.inr hgb) _
            have HR : Hid (Rd (w8.setCell ⟨g, kk * 3, none⟩ (.int .i64 z)) rb (P + 300)) := (HR8.out.mono (by omega)).setCell (by dsimp only; omega) _
            clear r8 o8 p1 B8 hz ex0 HOS7 HON7 HR7 B7
            go_wp2
            go_ret
            exact ⟨_, m, d, _, rfl, HS.out, hm36, HCAP.out, HR.out, HO.out⟩
          · have HS := Lib.hid (HOS6.out.store (kk * 3 + 2) 4096).si
            have HO : Hid (Only rb w (w6.setCell ⟨g, kk * 3 + 2, none⟩ (.int .i64 4096))) := HON6.out.setCell (.inr hgb) _
            have HR : Hid (Rd (w6.setCell ⟨g, kk * 3 + 2, none⟩ (.int .i64 4096)) rb (P + 300)) := (HR6.out.mono (by omega)).setCell (by dsimp only; omega) _
            go_wp2
            go_ret
            exact ⟨_, m, d, _, rfl, HS.out, hm36, HCAP.out, HR.out, HO.out⟩
          · obtain ⟨m', rfl⟩ : ∃ m', m = m' + 1 := ⟨m - 1, by omega⟩
            have HD : Hid (EI 3 w6 (some ⟨g, 1 * 3, none⟩) m' (zs.drop (1 * 3))) := EI.drop (d := 1) (n := m') (by rw [Nat.add_comm]; exact HOS6.out.si)
            have hd1 : (1 : Int) ≤ (d : Int) := by have := HCAP.out.1; omega
            have hm1 : (1 : Int) ≤ (m' : Int) + 1 := by omega
            have hmd : (m' : Int) + 1 ≤ (d : Int) := by have := HCAP.out.1; omega
            by_cases hd : d = 1
            · subst hd
              obtain rfl : m' = 0 := by have := HCAP.out.1; omega
              go_wp2
              go_ret
              exact ⟨_, 0, _, [], rfl, SI.nil _ _, by omega, by unfold maxLen; omega, HR6.out.mono (by omega), HON6.out⟩
            · have hdI : ¬ (d : Int) = 1 := by omega
              go_wp2
              go_ret
              exact ⟨_, m', d - 1, _, rfl, HD.out, by omega, ⟨by have := HCAP.out.1; omega, by have := HCAP.out.2; omega⟩, HR6.out.mono (by omega), HON6.out⟩
end Go.Proofs.Ytoeffaalihndoaa

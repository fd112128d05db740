/-
  CONTRACT of DrawJoinPoly. Printed by gen_drawjoin.py.
-/
import Derived.Test.YtkhjkfamekjbnaaSplitLaws2
namespace Go.Proofs.Ytkhjkfamekjbnaa
open Go.RowKit
set_option linter.unusedVariables false
set_option linter.unusedSimpArgs false

theorem EO.addr {T : TypeId} {s : Nat} {w : World} {base n c : Nat} {A : Addr} {zs : List Int} (h : EO T s w base (some A) n c zs) : ∃ g, A = ⟨g, 0, none⟩ ∧ base ≤ g ∧ g < w.heap.size := by
  rcases h.2 with ⟨e, _⟩ | ⟨g, c', cur, e, hb, hh, _⟩
  · cases e
  · injection e with e1
    injection e1 with e1
    exact ⟨g, e1, hb, (Array.getElem?_eq_some_iff.1 hh).1⟩
theorem news_one (zs : List Int) : ∀ u ∈ zs.map (Value.int .i64), u.oneCell' = true := fun u hu => by
  obtain ⟨z, _, rfl⟩ := List.mem_map.1 hu
  rfl
/-- structs appended by a plain append: what it does -/
theorem EO.push0 {T : TypeId} {s : Nat} {wr w1 : World} {base k c m : Nat} {A : Addr} {xs ys : List Int} {v' : Value} (hos : EO T s wr base (some A) k c xs) (hbs : base ≤ wr.heap.size)
    (hown : w1.ownsRow base T s v' (k + m) (xs.map (Value.int .i64) ++ ys.map (Value.int .i64))) (hg : wr.grownBy w1 (Value.slice (some A) k c).ownBlock) (hn : ¬ v' = .slice none 0 0) :
    ∃ (A' : Addr) (c' : Nat), v' = .slice (some A') (k + m) c' ∧ EO T s w1 base (some A') (k + m) c' (xs ++ ys) ∧ Below base wr w1 := by
  obtain ⟨A', c', hv, ho⟩ := EO.form (xs := xs ++ ys) (by simpa using hown)
  rw [ownBlock_slice] at hg
  have hb : Below base wr w1 := ⟨hg.os, hg.tape, hg.output, hg.size, fun i hi => hg.block i (by omega) (fun e => by have := (hos.blk_lt i e.symm).1; omega)⟩
  cases A' with
  | some a => exact ⟨a, c', hv, ho, hb⟩
  | none =>
    exfalso
    rcases ho.2 with ⟨e, e'⟩ | ⟨g, c2, cur, e, _⟩
    · exact hn (hv.trans e)
    · cases e
theorem below_only {rb B : Nat} {w a b : World} (h : Only rb w a) (k : Below B a b) (h1 : w.heap.size ≤ B) : Only rb w b :=
  ⟨k.os.trans h.os, k.tape.trans h.tape, k.output.trans h.output, Nat.le_trans h.size k.size, fun i hi hne => (k.block i (by omega)).trans (h.block i hi hne)⟩


theorem EO.belowB {T : TypeId} {s : Nat} {w w' : World} {base n cap B : Nat} {A : Option Addr} {xs : List Int} (h : EO T s w base A n cap xs) (hlt : ∀ g, blk A = some g → g < B) (hb : Below B w w') : EO T s w' base A n cap xs := h.keep hb.size fun g hg _ => hb.block g (hlt g hg)
theorem SI.belowB {w w' : World} {n B : Nat} {A : Option Addr} {xs : List Int} (h : SI w A n xs) (hlt : 0 < n → ∀ g, blk A = some g → g < B) (hb : Below B w w') : SI w' A n xs := by
  rcases Nat.eq_zero_or_pos n with h0 | h0
  · subst h0; exact ⟨h.1, fun h => absurd h (by omega)⟩
  · exact h.keep hb.size fun g hg _ => hb.block g (hlt h0 g hg)
/-- what lies where a slice of structs reads from -/
theorem EI.news {s n b off : Nat} {w : World} {zs : List Int} (h : EI s w (some ⟨b, off, none⟩) n zs) : ∀ j u, (zs.map (Value.int .i64))[j]? = some u → w.cell? ((⟨b, off, none⟩ : Addr).add j) = some u := by
  intro j u hj
  have hjl : j < zs.length := by
    have := (List.getElem?_eq_some_iff.1 hj).1
    simpa using this
  have hl := h.1
  obtain ⟨b', off', e, _, hc⟩ := h.2 (by omega)
  injection e with e; injection e with e1 e2; subst e1 e2
  have h2 := hc j (by omega)
  rw [List.getElem?_map, List.getElem?_eq_getElem hjl] at hj
  have hj : Value.int .i64 zs[j] = u := by simpa using hj
  subst hj
  have ha : (⟨b, off, none⟩ : Addr).add j = ⟨b, off + j, none⟩ := by
    unfold Addr.add
    by_cases hk : j = 0
    · subst hk; simp
    · simp [hk]
  rw [ha, h2, getD_get zs j hjl]
/-- an append at a step of a region that draws; the source is any slice that reads -/
theorem step_append_src {P : Program} {w : World} {ops : Array Oper} {o : Oper} {a : Act} {K : Act → World → Prop} {Q : Exit → Act → World → Prop} {E : Prop} (hgd : o.guard = none) (s x : Operand) (t : TypeId)
    (ho : o.op = .call { callee := .builtin .append, args := #[s, x], argTypes := #[t, t] })
    (base : Nat) (e : TypeId) (i : TypeInfo) (z : Value) (size bytes : Nat) (ht : P.underlying t = some (.slice e)) (hi : P.info? e = some i) (hz : i.zero = some z)
    (hsize : i.size = size) (hby : i.bytes = bytes) (hzs : z.cells.size = size) (hsz : 0 < size)
    (A : Addr) (k c n : Nat) (xs : List Value) (hs : a.eval s = .slice (some A) k c) (hown : w.ownsRow base e size (.slice (some A) k c) n xs)
    (ad : Addr) (m d : Nat) (news : List Value) (hx : a.eval x = .slice (some ad) m d) (hl : news.length = m * size) (hnews : ∀ j u, news[j]? = some u → w.cell? (ad.add j) = some u) (h1 : ∀ u ∈ news, u.oneCell' = true)
    (h63 : n + m ≤ maxLen) (hbytes : (n + m) * bytes ≤ 140737488355328) (hbase : base ≤ w.heap.size)
    (h : ∀ v' w', w'.ownsRow base e size v' (n + m) (xs ++ news) → w.grownBy w' (Value.slice (some A) k c).ownBlock → ¬ v' = .slice none 0 0 → K (a.put o.dst v') w') :
    if Region.wanted o (yielded ops a.tmps) = true then Oper.wp P o a w K Q else E := by
  have hw : Region.wanted o (yielded ops a.tmps) = true := by simp [Region.wanted, hgd]
  rw [if_pos hw]
  exact wp_append_own w s x t ho base e i z size bytes ht hi hz hsize hby hzs hsz (.slice (some A) k c) n xs hs hown ad m d news hx hl hnews h1 h63 hbytes hbase (fun v' w' ho' hg hn => h v' w' ho' hg (fun hh => by have := (hn.1 hh).1; cases this))

/-- points drawn -/
def Djp (w : World) (e : Ending) (w' : World) : Prop := ∃ (A : Option Addr) (n c : Nat) (zs : List Int), e = .returned (.slice A n c) ∧ EO 46 2 w' w.heap.size A n c zs ∧ n ≤ 5 ∧ Below w.heap.size w w'
set_option maxRecDepth 20000 in
set_option maxHeartbeats 1500000 in
theorem s_DrawJoinPoly (A : Option Addr) (len cap : Nat) (w : World) (hl : len ≤ cap) (hm : cap ≤ maxLen) (hr : Bytes w w.heap.size A len) (h0 : A = none → cap = 0) : Calls Try.prog 32 #[.slice A len cap] w (Djp w) := by
  obtain ⟨i0, hi, hz0, hz1, hz2⟩ := info_parts infoPt
  go_enter Try.func32, Try.ntmps32
  go_wp2_with fail
  refine (s_l20Open A len cap w hl hm hr h0).mono ?_
  rintro e w1 ⟨rfl, r1, b1, hlt⟩
  clear hr h0 hl hm
  go_wp2_with fail
  refine (s_l20Powers w.heap.size 0 0 (by omega) w1 r1 (by omega)).mono ?_
  rintro e w2 ⟨A', n, c, xs, rfl, hs, hn6, hcap, hpv, hf, r2, o2⟩
  obtain ⟨hv, hn4⟩ := hpv rfl
  have hn1 : 1 ≤ n := by have := (pv_of hv).1; rw [hs.1] at this; omega
  have HB2 := Lib.hid (b1.trans (Only.toBelow o2 (B := w.heap.size) (by omega) (by omega)))
  have HR2 := Lib.hid r2
  have HSI2 := Lib.hid hs
  have HLT : Hid (w.heap.size < w2.heap.size) := Lib.hid (by have := o2.size; omega)
  clear hcap hpv hf r1 b1 r2 o2 hs
  obtain ⟨rb, hrb⟩ : ∃ rb, rb = w.heap.size := ⟨_, rfl⟩
  rw [← hrb] at HR2 HLT ⊢
  have HRB := Lib.hid hrb
  clear hrb hlt
  have h8 : ∀ u, SI u A' n xs → Calls Try.prog 17 #[.slice A' n c, .int .i64 8] u (NewP 8 (flat (ptsOf 1 8 xs)) u) := fun u hu => s_SplitPoly_t A' n c xs 8 u hu (by omega) hv (by omega) (by omega)
  go_wp2_with fail
  refine (h8 w2 HSI2.out).mono ?_
  rintro e w3 ⟨Aa, ca, rfl, hoa, hb3⟩
  obtain ⟨ga, rfl, hga1, hga2⟩ := hoa.pos (by omega)
  have HA3 := Lib.hid hoa
  have HB3 := Lib.hid (bstep hb3 HB2.out.size HB2.out)
  have HR3 := Lib.hid (HR2.out.below hb3)
  have HSZ3 := Lib.hid hb3.size
  have hlt2 := HLT.out
  clear h8 HSI2 HB2 HR2 hoa hb3 hv
  have HZ : Hid (EO 46 2 (w3.alloc (.cells #[] 46)) w3.heap.size (some ⟨w3.heap.size, 0, none⟩) 0 0 []) := World.ownsRow_made w3 _ 0 (Nat.le_refl _) (by unfold maxLen; omega) rfl
  have HZA : Hid (EO 46 2 (w3.alloc (.cells #[] 46)) w2.heap.size (some ⟨ga, 0, none⟩) 8 ca (flat (ptsOf 1 8 xs))) := HA3.out.alloc _
  have HZO : Hid (Only rb w3 (w3.alloc (.cells #[] 46))) := (Only.refl rb w3).alloc _
  have HZR : Hid (Rd (w3.alloc (.cells #[] 46)) rb (16 + 0)) := HR3.out.alloc _
  have hlt3 : rb < w3.heap.size := by have := HSZ3.out; omega
  have hgne : ga ≠ w3.heap.size := by omega
  clear HA3 HR3
  go_wp2
  go_loopw [5, 6] (fun va vo wr => ∃ (j m d e ga go : Nat) (za zo : List Int), j ≤ n ∧ Hid (m + j = 8) ∧ m ≤ 8 ∧ va = .slice (some ⟨ga, 0, none⟩) m d ∧ vo = .slice (some ⟨go, 0, none⟩) j e ∧ ga ≠ go ∧ Hid (EO 46 2 wr w2.heap.size (some ⟨ga, 0, none⟩) m d za) ∧ Hid (EO 46 2 wr w3.heap.size (some ⟨go, 0, none⟩) j e zo) ∧ Hid (Only rb w3 wr) ∧ Hid (Rd wr rb (16 + j))) (fun _ vo _ => match vo with | .slice _ j _ => n - j | _ => 0)
  case atStart => exact ⟨0, 8, _, _, ga, w3.heap.size, _, _, by omega, Lib.hid (by omega), by omega, rfl, rfl, hgne, HZA, HZ, HZO, HZR⟩
  case round =>
    obtain ⟨j, m, d, e, ga, go, za, zo, hj, hmj, hm8, rfl, rfl, hne, hoa, hoo, hon, hrd⟩ := hrel
    by_cases hlt : j < n
    · have hm4 : 5 ≤ m := by have := hmj.out; omega
      have hjI : (j : Int) < (n : Int) := by omega
      go_wp2_with fail
      refine (s_pick rb (16 + j) (m : Int) wr hrd.out (by omega)).mono ?_
      rintro e4 w4 ⟨q, rfl, q0, q1, r4, o4⟩
      obtain ⟨k, rfl⟩ : ∃ k : Nat, q = (k : Int) := ⟨q.toNat, by omega⟩
      have hkm : k < m := by omega
      have HA4 := Lib.hid (hoa.out.only o4 hlt2)
      have HO4 := Lib.hid (hoo.out.only o4 hlt3)
      have HN4 := Lib.hid (hon.out.trans o4)
      have HR4 := Lib.hid r4
      have hsz34 : w3.heap.size ≤ w4.heap.size := HN4.out.size
      have hdm := Lib.hid HA4.out.cap_le
      clear r4 o4 hoa hoo hon hrd q1
      obtain ⟨x, ex⟩ : ∃ x, x = za.getD (k * 2) 0 := ⟨_, rfl⟩
      obtain ⟨y, ey⟩ : ∃ y, y = za.getD (k * 2 + 1) 0 := ⟨_, rfl⟩
      have cx : w4.cell? ⟨ga, k * 2, none⟩ = some (.int .i64 x) := by rw [ex]; exact HA4.out.cell (k * 2) (by omega)
      have cy : w4.cell? ⟨ga, k * 2 + 1, none⟩ = some (.int .i64 y) := by rw [ey]; exact HA4.out.cell (k * 2 + 1) (by omega)
      have hkI : (k : Int) < (m : Int) := by omega
      have hj4 : j + 1 ≤ 5 := by omega
      clear ex ey
      go_wp2_with (at_builtin; refine wpList_append_lies _ rfl _ _ 29 rfl w3.heap.size 46 i0 (.agg #[.int .i64 0, .int .i64 0]) 2 16 Try.underlying29 hi hz0 hz1 hz2 rfl (by decide) (.slice (some ⟨go, 0, none⟩) j e) j _ rfl (World.ownsRow.alloc HO4.out _) ⟨w4.heap.size, 0, none⟩ 1 1 [.int .i64 x, .int .i64 y] rfl rfl ?c1 ?c2 ?c3 ?c4 ?c5 ?c6 (w4.heap.size + 1) ?c7 ?_)
      case c1 => exact World.news_of_block (cs := #[.int .i64 x, .int .i64 y]) (t := 46) (fr := (0, 0)) (heap_alloc_new w4 _)
      case c2 => intro u hu; simp at hu; rcases hu with rfl | rfl <;> rfl
      case c3 => omega
      case c4 => unfold maxLen; omega
      case c5 => omega
      case c6 => simp; omega
      case c7 => simp
      intro g5 cap5 w5 hown hgrow hat hlt5
      obtain ⟨A5, c5, hv5, ho5, hb5⟩ := EO.push (w := w4) (m := 1) (ys := [x, y]) HO4.out (Below.refl w3.heap.size w4) hsz34 hown hgrow
      injection hv5 with e1 e2 e3
      subst e1 e3
      have hgalt : ga < w4.heap.size := (HA4.out.blk_lt ga rfl).2
      have hne5 : ga ≠ g5 := by
        rcases hat with h | h
        · rw [ownBlock_slice] at h
          injection h with h
          dsimp only at h
          omega
        · omega
      have HA5 : Hid (EO 46 2 w5 w2.heap.size (some ⟨ga, 0, none⟩) m d za) := HA4.out.keep (by have := hb5.size; omega) (fun g hg hl => by
        injection hg with hg
        have h2 := hgrow.block g (by simp; omega) (by rw [ownBlock_slice]; intro h; injection h with h; dsimp only at hg h; omega)
        exact h2.trans (Below.heap_alloc w4 _ g hl))
      have HO5 := Lib.hid ho5
      have HN5 : Hid (Only rb w3 w5) := below_only HN4.out hb5 (Nat.le_refl _)
      have HR5 : Hid (Rd w5 rb (16 + (j + 1))) := HR4.out.keep fun i hi => hb5.block i (by omega)
      have hsz35 : w3.heap.size ≤ w5.heap.size := HN5.out.size
      clear hown hgrow hat ho5 hb5 HA4 HO4 HN4 HR4 cx cy
      have hgo5 : g5 < w5.heap.size := (HO5.out.blk_lt g5 rfl).2
      have hga5 : ga < w5.heap.size := (HA5.out.blk_lt ga rfl).2
      -- the points that are left
      have HE5 : Hid (EO 46 2 (w5.alloc (.cells #[] 46)) w5.heap.size (some ⟨w5.heap.size, 0, none⟩) 0 0 []) := World.ownsRow_made w5 _ 0 (Nat.le_refl _) (by unfold maxLen; omega) rfl
      have hk1 : IntKind.i64.wrap ((k : Int) + 1) = (k : Int) + 1 := IntWalk.i64_in _ (by omega)
      have hS1 : Hid (EI 2 w5 (some ⟨ga, 0, none⟩) k (za.take (k * 2))) := EI.take HA5.out.si (by omega)
      obtain ⟨r, hr⟩ : ∃ r, m = k + 1 + r := ⟨m - (k + 1), by omega⟩
      have hS2 : Hid (EI 2 w5 (some ⟨ga, (k + 1) * 2, none⟩) r (za.drop ((k + 1) * 2))) := EI.drop (d := k + 1) (n := r) (by rw [← hr]; exact HA5.out.si)
      have hl1 : Hid (((za.take (k * 2)).map (Value.int .i64)).length = k * 2) := Lib.hid (by rw [List.length_map]; exact hS1.out.1)
      have hl2 : Hid (((za.drop ((k + 1) * 2)).map (Value.int .i64)).length = r * 2) := Lib.hid (by rw [List.length_map]; exact hS2.out.1)
      have hrI : (m : Int) - ((k : Int) + 1) = (r : Int) := by omega
      have hrN : m - (k + 1) = r := by omega
      have HRM := Lib.hid hr
      have hr8 : k + r ≤ 8 := by omega
      have hk0 : (0 : Int) ≤ (k : Int) := by omega
      have hkd : (k : Int) ≤ (d : Int) := by have := hdm.out.1; omega
      have hk1m : (k : Int) + 1 ≤ (m : Int) := by omega
      have hmd : (m : Int) ≤ (d : Int) := by have := hdm.out.1; omega
      have hkt : ((k : Int) + 1).toNat = k + 1 := by omega
      have hk10 : (0 : Int) ≤ (k : Int) + 1 := by omega
      have hkk1 : (k : Int) ≤ (k : Int) + 1 := by omega
      have hk63 : 0 + k ≤ maxLen := by unfold maxLen; omega
      have hk64 : k + r ≤ maxLen := by unfold maxLen; omega
      have hN1 : k + 1 ≤ m := by omega
      have hN2 : m ≤ d := by have := hdm.out.1; omega
      have hN4 : k ≤ d := by have := hdm.out.1; omega
      have hrT : ((m : Int) - ((k : Int) + 1)).toNat = r := by omega
      clear hr
      have HNW1 : Hid (∀ j u, ((za.take (k * 2)).map (Value.int .i64))[j]? = some u → (w5.alloc (.cells #[] 46)).cell? ((⟨ga, 0, none⟩ : Addr).add j) = some u) := EI.news (s := 2) (n := k) (SI.alloc hS1.out _)
      go_upto_region 8 with fail
      by_cases hd : d = k + 1
      · subst hd
        obtain rfl : r = 0 := by have := HRM.out; have := hdm.out.1; omega
        have HNW2 : Hid (∀ (u : World) (j : Nat) (v : Value), ([] : List Value)[j]? = some v → u.cell? ((⟨ga, 0, none⟩ : Addr).add j) = some v) := fun u j v hj => by simp at hj
        go_region_held3 (fun w' => w5.heap.size ≤ w'.heap.size) (first | go_keep | (simp; done) | (simp; omega) | omega | exact HB6.out.size | exact HB7.out.size)
          ((first
          | (refine step_append_src (by rfl) _ _ _ (by rfl) w5.heap.size 46 i0 _ 2 16 Try.underlying29 hi hz0 hz1 hz2 rfl (by omega) ⟨w5.heap.size, 0, none⟩ 0 0 0 _ (by rfl) (World.ownsRow.drew HE5.out) ⟨ga, 0, none⟩ k (k + 1) _ (by rfl) hl1.out HNW1.out (news_one _) hk63 (by omega) (by first | (simp; done) | (simp; omega)) ?_; intro v6 w6 hown6 hgrow6 hnil6; obtain ⟨A6, c6, hv6, ho6, hb6⟩ := EO.push0 (m := k) (ys := za.take (k * 2)) HE5.out (by simp) (by first | exact hown6 | simpa using hown6) (⟨hgrow6.os, hgrow6.tape, hgrow6.output, hgrow6.size, hgrow6.block⟩ : (w5.alloc (.cells #[] 46)).grownBy w6 _) hnil6; rw [Nat.zero_add] at hv6 ho6; rw [List.nil_append] at ho6; subst hv6; have HO6 := Lib.hid ho6; have HB6 := Lib.hid (((Below.refl w5.heap.size w5).alloc (Nat.le_refl _) (.cells #[] 46)).trans hb6); have HS6 := Lib.hid (SI.belowB (B := w5.heap.size) hS2.out (fun _ g hg => by injection hg with hg; dsimp only at hg; omega) HB6.out); have HNW6 := Lib.hid (EI.news (s := 2) HS6.out); clear hown6 hgrow6 hnil6 ho6 hb6)
          | (refine step_append_src (by rfl) _ _ _ (by rfl) w5.heap.size 46 i0 _ 2 16 Try.underlying29 hi hz0 hz1 hz2 rfl (by omega) A6 k c6 k _ (by rfl) HO6.out ⟨ga, 0, none⟩ 0 0 [] (by rfl) rfl (HNW2.out _) (fun u hu => by simp at hu) hk64 (by omega) HB6.out.size ?_; intro v7 w7 hown7 hgrow7 hnil7; obtain ⟨A7, c7, hv7, ho7, hb7⟩ := EO.push0 (m := 0) (ys := []) HO6.out HB6.out.size (by first | exact hown7 | simpa using hown7) (⟨hgrow7.os, hgrow7.tape, hgrow7.output, hgrow7.size, hgrow7.block⟩ : w6.grownBy w7 _) hnil7; subst hv7; have HO7 := Lib.hid ho7; have HB7 := Lib.hid (HB6.out.trans hb7); clear hown7 hgrow7 hnil7 ho7 hb7)
          | fail))
        all_goals
          obtain ⟨g9, hg9e, hg9, _⟩ := HO7.out.addr
          subst hg9e
          have HA9 : Hid (EO 46 2 w7 w2.heap.size (some ⟨g9, 0, none⟩) (k + 0) c7 _) := HO7.out.mono (by have := HSZ3.out; omega)
          have HO9 := Lib.hid (HO5.out.belowB (B := w5.heap.size) (fun g hg => by injection hg with hg; dsimp only at hg; omega) HB7.out)
          have HN9 := Lib.hid (below_only HN5.out HB7.out hsz35)
          have HR9 : Hid (Rd w7 rb (16 + (j + 1))) := HR5.out.keep fun i hi => HB7.out.block i (by omega)
          have hne9 : g9 ≠ g5 := by omega
          have hmj9 : Hid (k + 0 + (j + 1) = 8) := Lib.hid (by have := hmj.out; have := HRM.out; omega)
          go_wp2
          go_roundw
          case rel => exact ⟨j + 1, k + 0, c7, _, g9, g5, _, _, by omega, hmj9, by omega, rfl, rfl, hne9, HA9, HO9, HN9, HR9⟩
          case measure => simp <;> omega
      · have hdI : ¬ (d : Int) = (k : Int) + 1 := by omega
        go_region_held3 (fun w' => w5.heap.size ≤ w'.heap.size) (first | go_keep | (simp; done) | (simp; omega) | omega | exact HB6.out.size | exact HB7.out.size)
          ((first
          | (refine step_append_src (by rfl) _ _ _ (by rfl) w5.heap.size 46 i0 _ 2 16 Try.underlying29 hi hz0 hz1 hz2 rfl (by omega) ⟨w5.heap.size, 0, none⟩ 0 0 0 _ (by rfl) (World.ownsRow.drew HE5.out) ⟨ga, 0, none⟩ k d _ (by rfl) hl1.out HNW1.out (news_one _) hk63 (by omega) (by first | (simp; done) | (simp; omega)) ?_; intro v6 w6 hown6 hgrow6 hnil6; obtain ⟨A6, c6, hv6, ho6, hb6⟩ := EO.push0 (m := k) (ys := za.take (k * 2)) HE5.out (by simp) (by first | exact hown6 | simpa using hown6) (⟨hgrow6.os, hgrow6.tape, hgrow6.output, hgrow6.size, hgrow6.block⟩ : (w5.alloc (.cells #[] 46)).grownBy w6 _) hnil6; rw [Nat.zero_add] at hv6 ho6; rw [List.nil_append] at ho6; subst hv6; have HO6 := Lib.hid ho6; have HB6 := Lib.hid (((Below.refl w5.heap.size w5).alloc (Nat.le_refl _) (.cells #[] 46)).trans hb6); have HS6 := Lib.hid (SI.belowB (B := w5.heap.size) hS2.out (fun _ g hg => by injection hg with hg; dsimp only at hg; omega) HB6.out); have HNW6 := Lib.hid (EI.news (s := 2) HS6.out); clear hown6 hgrow6 hnil6 ho6 hb6)
          | (refine step_append_src (by rfl) _ _ _ (by rfl) w5.heap.size 46 i0 _ 2 16 Try.underlying29 hi hz0 hz1 hz2 rfl (by omega) A6 k c6 k _ (by rfl) HO6.out ⟨ga, (k + 1) * 2, none⟩ r (d - (k + 1)) _ (by rfl) hl2.out HNW6.out (news_one _) hk64 (by omega) HB6.out.size ?_; intro v7 w7 hown7 hgrow7 hnil7; obtain ⟨A7, c7, hv7, ho7, hb7⟩ := EO.push0 (m := r) (ys := za.drop ((k + 1) * 2)) HO6.out HB6.out.size (by first | exact hown7 | simpa using hown7) (⟨hgrow7.os, hgrow7.tape, hgrow7.output, hgrow7.size, hgrow7.block⟩ : w6.grownBy w7 _) hnil7; subst hv7; have HO7 := Lib.hid ho7; have HB7 := Lib.hid (HB6.out.trans hb7); clear hown7 hgrow7 hnil7 ho7 hb7)
          | fail))
        all_goals
          obtain ⟨g9, hg9e, hg9, _⟩ := HO7.out.addr
          subst hg9e
          have HA9 : Hid (EO 46 2 w7 w2.heap.size (some ⟨g9, 0, none⟩) (k + r) c7 _) := HO7.out.mono (by have := HSZ3.out; omega)
          have HO9 := Lib.hid (HO5.out.belowB (B := w5.heap.size) (fun g hg => by injection hg with hg; dsimp only at hg; omega) HB7.out)
          have HN9 := Lib.hid (below_only HN5.out HB7.out hsz35)
          have HR9 : Hid (Rd w7 rb (16 + (j + 1))) := HR5.out.keep fun i hi => HB7.out.block i (by omega)
          have hne9 : g9 ≠ g5 := by omega
          have hmj9 : Hid (k + r + (j + 1) = 8) := Lib.hid (by have := hmj.out; have := HRM.out; omega)
          go_wp2
          go_roundw
          case rel => exact ⟨j + 1, k + r, c7, _, g9, g5, _, _, by omega, hmj9, by omega, rfl, rfl, hne9, HA9, HO9, HN9, HR9⟩
          case measure => simp <;> omega
    · have hjn : j = n := by omega
      subst hjn
      have hnI : ¬ (j : Int) < (j : Int) := by omega
      have hj0 : (0 : Int) < (j : Int) := by omega
      have hj0N : 0 < j := by omega
      clear hoa
      go_wp2_with fail
      refine (s_odd rb (16 + j) 6 (by omega) wr hrd.out (by omega)).mono ?_
      rintro e4 w4 ⟨bb, rfl, r4, o4⟩
      have HO4 := Lib.hid (hoo.out.only o4 hlt3)
      have HN4 := Lib.hid (hon.out.trans o4)
      have HR4 := Lib.hid r4
      clear hoo hon hrd o4 r4
      cases bb
      · go_wp2
        go_ret
        exact ⟨_, j, e, _, rfl, HO4.out.mono HB3.out.size, by omega, HB3.out.trans (Only.toBelow (B := w.heap.size) HN4.out (by rw [← HRB.out]; exact Nat.le_refl _) HB3.out.size)⟩
      · go_wp2_with fail
        refine (s_pick rb (16 + j + 1) 4 w4 HR4.out (by omega)).mono ?_
        rintro e5 w5 ⟨t, rfl, t0, t1, r5, o5⟩
        have ht : t ≤ 3 := by omega
        have HO5 := Lib.hid (HO4.out.only o5 hlt3)
        have HN5 := Lib.hid (HN4.out.trans o5)
        have HR5 : Hid (Rd w5 rb (16 + j + 2)) := r5.mono (by omega)
        clear r5 o5 t1 HO4 HN4 HR4
        rcases (by omega : t = 0 ∨ t = 1 ∨ t = 2 ∨ t = 3) with rfl | rfl | rfl | rfl
        · obtain ⟨x, ex⟩ : ∃ x, x = zo.getD 0 0 := ⟨_, rfl⟩
          obtain ⟨y, ey⟩ : ∃ y, y = zo.getD 1 0 := ⟨_, rfl⟩
          have cx : w5.cell? ⟨go, 0, none⟩ = some (.int .i64 x) := by rw [ex]; exact HO5.out.cell 0 (by omega)
          have cy : w5.cell? ⟨go, 1, none⟩ = some (.int .i64 y) := by rw [ey]; exact HO5.out.cell 1 (by omega)
          have hsz5 : w3.heap.size ≤ w5.heap.size := HN5.out.size
          clear ex ey
          go_wp2_with (at_builtin; refine wpList_append_lies _ rfl _ _ 29 rfl w3.heap.size 46 i0 (.agg #[.int .i64 0, .int .i64 0]) 2 16 Try.underlying29 hi hz0 hz1 hz2 rfl (by decide) (.slice (some ⟨go, 0, none⟩) j e) j _ rfl (World.ownsRow.alloc HO5.out _) ⟨w5.heap.size, 0, none⟩ 1 1 [.int .i64 x, .int .i64 y] rfl rfl ?c1 ?c2 ?c3 ?c4 ?c5 ?c6 (w5.heap.size + 1) ?c7 ?_)
          case c1 => exact World.news_of_block (cs := #[.int .i64 x, .int .i64 y]) (t := 46) (fr := (0, 0)) (heap_alloc_new w5 _)
          case c2 => intro u hu; simp at hu; rcases hu with rfl | rfl <;> rfl
          case c3 => omega
          case c4 => unfold maxLen; omega
          case c5 => omega
          case c6 => simp; omega
          case c7 => simp
          intro g6 cap6 w6 hown hgrow hat hlt6
          obtain ⟨A6, c6, hv6, ho6, hb6⟩ := EO.push (w := w5) (m := 1) (ys := [x, y]) HO5.out (Below.refl w3.heap.size w5) hsz5 hown hgrow
          injection hv6 with e1 e2 e3
          subst e1 e3
          have HO6 := Lib.hid ho6
          have HN6 := Lib.hid (below_only HN5.out hb6 (Nat.le_refl _))
          clear hown hgrow hat ho6 hb6 HO5 HN5
          go_wp2
          go_ret
          exact ⟨_, j + 1, _, _, rfl, HO6.out.mono HB3.out.size, by omega, HB3.out.trans (Only.toBelow (B := w.heap.size) HN6.out (by rw [← HRB.out]; exact Nat.le_refl _) HB3.out.size)⟩
        · obtain ⟨w6, hw6⟩ : ∃ u, u = w5.alloc (.cells #[.int .i64 0, .int .i64 4093, .int .i64 (-1)] 3) := ⟨_, rfl⟩
          have HO6 : Hid (EO 46 2 w6 w3.heap.size (some ⟨go, 0, none⟩) j e zo) := by rw [hw6]; exact HO5.out.alloc _
          have HN6 : Hid (Only rb w3 w6) := by rw [hw6]; exact HN5.out.alloc _
          have HR6 : Hid (Rd w6 rb (16 + j + 2)) := by rw [hw6]; exact HR5.out.alloc _
          have B6 : Hid (Blk w6 w5.heap.size 3 #[.int .i64 0, .int .i64 4093, .int .i64 (-1)]) := by rw [hw6]; exact Blk.new w5 _ _
          have hz5 : w3.heap.size ≤ w5.heap.size := HN5.out.size
          go_wp2_with fail
          rw [← hw6]
          clear hw6
          refine (s_pick rb (16 + j + 2) 3 w6 HR6.out (by omega)).mono ?_
          rintro e7 w7 ⟨p, rfl, p0, p1, r7, o7⟩
          have hp : p < 3 := by omega
          have HO7 := Lib.hid (HO6.out.only o7 hlt3)
          have HN7 := Lib.hid (HN6.out.trans o7)
          have B7 := B6.out.only o7 (by omega)
          obtain ⟨z, hz, _, _⟩ := getD_small [0, 4093, -1] (-1) 4093 (by simp) p p0 (by simp; omega)
          have cz : w7.cell? ⟨w5.heap.size, p.toNat, none⟩ = some (.int .i64 z) := by
            have := B7.cell p.toNat
            have e : (#[Value.int .i64 0, .int .i64 4093, .int .i64 (-1)])[p.toNat]? = (([0, 4093, -1] : List Int)[p.toNat]?).map (Value.int .i64) := by
              rcases (by omega : p = 0 ∨ p = 1 ∨ p = 2) with rfl | rfl | rfl <;> rfl
            rw [this, e, hz]
            rfl
          obtain ⟨x0, ex0⟩ : ∃ x, x = zo.getD 0 0 := ⟨_, rfl⟩
          have cx0 : w7.cell? ⟨go, 0, none⟩ = some (.int .i64 x0) := by rw [ex0]; exact HO7.out.cell 0 (by omega)
          have fx0 := HO7.out.frozen 0 go rfl
          have hg7 := (HO7.out.blk_lt go rfl)
          have HS := Lib.hid (HO7.out.store 0 z)
          have HN8 : Hid (Only rb w3 (w7.setCell ⟨go, 0, none⟩ (.int .i64 z))) := HN7.out.setCell (.inr hg7.1) _
          clear o7 r7 p1 B7 hz ex0 HO6 HN6 HR6 B6 HO7 HN7 hg7
          go_wp2
          go_ret
          exact ⟨_, j, e, _, rfl, HS.out.mono HB3.out.size, by omega, HB3.out.trans (Only.toBelow (B := w.heap.size) HN8.out (by rw [← HRB.out]; exact Nat.le_refl _) HB3.out.size)⟩
        · obtain ⟨w6, hw6⟩ : ∃ u, u = w5.alloc (.cells #[.int .i64 (-1), .int .i64 4093] 3) := ⟨_, rfl⟩
          have HO6 : Hid (EO 46 2 w6 w3.heap.size (some ⟨go, 0, none⟩) j e zo) := by rw [hw6]; exact HO5.out.alloc _
          have HN6 : Hid (Only rb w3 w6) := by rw [hw6]; exact HN5.out.alloc _
          have HR6 : Hid (Rd w6 rb (16 + j + 2)) := by rw [hw6]; exact HR5.out.alloc _
          have B6 : Hid (Blk w6 w5.heap.size 3 #[.int .i64 (-1), .int .i64 4093]) := by rw [hw6]; exact Blk.new w5 _ _
          have hz5 : w3.heap.size ≤ w5.heap.size := HN5.out.size
          go_wp2_with fail
          rw [← hw6]
          clear hw6
          refine (s_pick rb (16 + j + 2) 2 w6 HR6.out (by omega)).mono ?_
          rintro e7 w7 ⟨p, rfl, p0, p1, r7, o7⟩
          have hp : p < 2 := by omega
          have HO7 := Lib.hid (HO6.out.only o7 hlt3)
          have HN7 := Lib.hid (HN6.out.trans o7)
          have B7 := B6.out.only o7 (by omega)
          obtain ⟨z, hz, _, _⟩ := getD_small [-1, 4093] (-1) 4093 (by simp) p p0 (by simp; omega)
          have cz : w7.cell? ⟨w5.heap.size, p.toNat, none⟩ = some (.int .i64 z) := by
            have := B7.cell p.toNat
            have e : (#[Value.int .i64 (-1), .int .i64 4093])[p.toNat]? = (([-1, 4093] : List Int)[p.toNat]?).map (Value.int .i64) := by
              rcases (by omega : p = 0 ∨ p = 1) with rfl | rfl <;> rfl
            rw [this, e, hz]
            rfl
          obtain ⟨x0, ex0⟩ : ∃ x, x = zo.getD 1 0 := ⟨_, rfl⟩
          have cx0 : w7.cell? ⟨go, 1, none⟩ = some (.int .i64 x0) := by rw [ex0]; exact HO7.out.cell 1 (by omega)
          have fx0 := HO7.out.frozen 1 go rfl
          have hg7 := (HO7.out.blk_lt go rfl)
          have HS := Lib.hid (HO7.out.store 1 z)
          have HN8 : Hid (Only rb w3 (w7.setCell ⟨go, 1, none⟩ (.int .i64 z))) := HN7.out.setCell (.inr hg7.1) _
          clear o7 r7 p1 B7 hz ex0 HO6 HN6 HR6 B6 HO7 HN7 hg7
          go_wp2
          go_ret
          exact ⟨_, j, e, _, rfl, HS.out.mono HB3.out.size, by omega, HB3.out.trans (Only.toBelow (B := w.heap.size) HN8.out (by rw [← HRB.out]; exact Nat.le_refl _) HB3.out.size)⟩
        · have HE : Hid (EO 46 2 (w5.alloc (.cells #[] 46)) w5.heap.size (some ⟨w5.heap.size, 0, none⟩) 0 0 []) := World.ownsRow_made w5 _ 0 (Nat.le_refl _) (by unfold maxLen; omega) rfl
          have HE2 : Hid (EO 46 2 (w5.alloc (.cells #[] 46)) w3.heap.size (some ⟨w5.heap.size, 0, none⟩) 0 0 []) := HE.out.mono HN5.out.size
          have HN6 : Hid (Only rb w3 (w5.alloc (.cells #[] 46))) := HN5.out.alloc _
          clear HO5
          go_wp2
          go_ret
          exact ⟨_, 0, _, _, rfl, HE2.out.mono HB3.out.size, by omega, HB3.out.trans (Only.toBelow (B := w.heap.size) HN6.out (by rw [← HRB.out]; exact Nat.le_refl _) HB3.out.size)⟩
end Go.Proofs.Ytkhjkfamekjbnaa

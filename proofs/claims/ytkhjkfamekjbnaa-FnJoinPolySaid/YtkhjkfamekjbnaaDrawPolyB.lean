/-
  CONTRACTS of the draws with a region that draws its order.
-/
import Derived.Test.YtkhjkfamekjbnaaDrawPoly
namespace Go.Proofs.Ytkhjkfamekjbnaa
open Go.RowKit
set_option linter.unusedVariables false
set_option linter.unusedSimpArgs false

theorem getD_smallV (l : List Int) (lo hi : Int) (h : ∀ x ∈ l, lo ≤ x ∧ x ≤ hi) (v : Int) (h0 : 0 ≤ v) (h1 : v < l.length) : ∃ x, (l.map (Value.int .i64))[v.toNat]? = some (.int .i64 x) ∧ lo ≤ x ∧ x ≤ hi := by
  obtain ⟨x, hx, a, b⟩ := getD_small l lo hi h v h0 h1
  exact ⟨x, by rw [List.getElem?_map, hx]; rfl, a, b⟩
theorem s_pick_at {rb P : Nat} {n : Int} {w : World} (h : Rd w rb P) (hP : P < 1099511627776) : Calls Try.prog 41 #[.pointer (some ⟨rb, 0, none⟩), .int .i64 n] w (Pk w rb (P + 1) n) := s_pick rb P n w h hP
/-- a list and a number drawn -/
def DLn (w : World) (e : Ending) (w' : World) : Prop := ∃ (A : Option Addr) (n c : Nat) (xs : List Int) (v : Int), e = .returned (.tuple #[.slice A n c, .int .i64 v]) ∧ SI w' A n xs ∧ n ≤ 6 ∧ (n ≤ c ∧ c ≤ maxLen) ∧ -1 ≤ v ∧ v ≤ 4093 ∧ Below w.heap.size w w'
set_option maxHeartbeats 8000000 in
theorem s_DrawPolyAt (A : Option Addr) (len cap : Nat) (w : World) (hl : len ≤ cap) (hm : cap ≤ maxLen) (hr : Bytes w w.heap.size A len) (h0 : A = none → cap = 0) : Calls Try.prog 29 #[.slice A len cap] w (DLn w) := by
  go_enter Try.func29, Try.ntmps29
  go_wp2_with fail
  refine (s_l20Open A len cap w hl hm hr h0).mono ?_
  rintro e w1 ⟨rfl, r1, b1, hlt⟩
  clear hr h0 hl hm
  go_wp2_with fail
  refine (s_l20Powers w.heap.size 0 9 (by omega) w1 r1 (by omega)).mono ?_
  rintro e w2 ⟨A', n, c, xs, rfl, hs, hn, hcap, _, hf, r2, o2⟩
  have b2 := Lib.hid (b1.trans (Only.toBelow o2 (B := w.heap.size) (by omega) (by omega)))
  have HS := Lib.hid hs
  have HF := Lib.hid hf
  have HCAP := Lib.hid hcap
  have hl2 := r2.lt
  have hlt1 := Nat.le_trans (Nat.le_of_lt hlt) (Nat.le_refl _)
  clear r1 b1 o2 hs hf hcap
  obtain ⟨rb, hrb⟩ : ∃ rb, rb = w.heap.size := ⟨_, rfl⟩
  rw [← hrb] at r2 hl2 ⊢
  have HRB := Lib.hid hrb
  clear hrb
  go_upto_region 3 with fail
  go_cut [2, 3] (fun s2 s3 wx => s2 = .slice A' n c ∧ ∃ v : Int, s3 = .int .i64 v ∧ -1 ≤ v ∧ v ≤ 4093 ∧ Hid (Only rb w2 wx))
  case first =>
    have O2 : Only rb w2 w2 := Only.refl _ _
    have C1 : Hid (∀ W : World, Rd W rb 16 → Calls Try.prog 41 #[.pointer (some ⟨rb, 0, none⟩), .int .i64 9] W (Pk W rb 17 9)) := fun W h => s_pick rb 16 9 W h (by omega)
    have C2 : Hid (∀ W : World, Rd W rb 17 → Calls Try.prog 41 #[.pointer (some ⟨rb, 0, none⟩), .int .i64 256] W (Pk W rb 18 256)) := fun W h => s_pick rb 17 256 W h (by omega)
    have C3 : Hid (∀ W : World, Rd W rb 18 → Calls Try.prog 41 #[.pointer (some ⟨rb, 0, none⟩), .int .i64 7] W (Pk W rb 19 7)) := fun W h => s_pick rb 18 7 W h (by omega)
    have r2 : Rd w2 rb 16 := r2
    have hne0 : ¬ w2.heap.size = rb := by omega
    go_region_with ((first
      | ((try go_simp); go_at_call 41; (with_reducible refine (C1.out _ (by (first | (with_reducible assumption) | (with_reducible refine Rd.alloc (?_) _; with_reducible assumption) | (with_reducible refine Rd.drew (?_); with_reducible assumption) | (with_reducible refine Rd.alloc (Rd.alloc (?_) _) _; with_reducible assumption) | (with_reducible refine Rd.alloc (Rd.drew (?_)) _; with_reducible assumption) | (with_reducible refine Rd.drew (Rd.alloc (?_) _); with_reducible assumption) | (with_reducible refine Rd.alloc (Rd.alloc (Rd.drew (?_)) _) _; with_reducible assumption)))).mono ?_); rintro e wa ⟨qa, rfl, q0_qa, q1, r', o'⟩; have cq_qa : qa ≤ 8 := (by omega); have hl_wa := r'.lt; have hne0 : ¬ wa.heap.size = rb := (by omega); have hne1 : ¬ wa.heap.size + 1 = rb := (by omega); have hz_wa := o'.size; (try simp at hz_wa); (try have hs_w2_wa : w2.heap.size < wa.heap.size := (by omega)); (try have ht_w2_wa : w2.heap.size + 1 < wa.heap.size := (by omega)); have hc_wa := (fun (g i : Nat) h hne => o'.cell (b := g) (o := i) h hne); have o'' := Only.trans (by (first | (with_reducible assumption) | (with_reducible refine Only.alloc (?_) _; with_reducible assumption) | (with_reducible refine Only.drew (?_); with_reducible assumption) | (with_reducible refine Only.alloc (Only.alloc (?_) _) _; with_reducible assumption) | (with_reducible refine Only.alloc (Only.drew (?_)) _; with_reducible assumption) | (with_reducible refine Only.drew (Only.alloc (?_) _); with_reducible assumption) | (with_reducible refine Only.alloc (Only.alloc (Only.drew (?_)) _) _; with_reducible assumption)) : Only rb w2 _) o')
      | ((try go_simp); go_at_call 41; (with_reducible refine (C2.out _ (by (first | (with_reducible assumption) | (with_reducible refine Rd.alloc (?_) _; with_reducible assumption) | (with_reducible refine Rd.drew (?_); with_reducible assumption) | (with_reducible refine Rd.alloc (Rd.alloc (?_) _) _; with_reducible assumption) | (with_reducible refine Rd.alloc (Rd.drew (?_)) _; with_reducible assumption) | (with_reducible refine Rd.drew (Rd.alloc (?_) _); with_reducible assumption) | (with_reducible refine Rd.alloc (Rd.alloc (Rd.drew (?_)) _) _; with_reducible assumption)))).mono ?_); rintro e wb ⟨qb, rfl, q0_qb, q1, r', o'⟩; have cq_qb : qb ≤ 255 := (by omega); have hl_wb := r'.lt; have hne0 : ¬ wb.heap.size = rb := (by omega); have hne1 : ¬ wb.heap.size + 1 = rb := (by omega); have hz_wb := o'.size; (try simp at hz_wb); (try have hs_w2_wb : w2.heap.size < wb.heap.size := (by omega)); (try have ht_w2_wb : w2.heap.size + 1 < wb.heap.size := (by omega)); (try have hs_wa_wb : wa.heap.size < wb.heap.size := (by omega)); (try have ht_wa_wb : wa.heap.size + 1 < wb.heap.size := (by omega)); have hc_wb := (fun (g i : Nat) h hne => o'.cell (b := g) (o := i) h hne); have o'' := Only.trans (by (first | (with_reducible assumption) | (with_reducible refine Only.alloc (?_) _; with_reducible assumption) | (with_reducible refine Only.drew (?_); with_reducible assumption) | (with_reducible refine Only.alloc (Only.alloc (?_) _) _; with_reducible assumption) | (with_reducible refine Only.alloc (Only.drew (?_)) _; with_reducible assumption) | (with_reducible refine Only.drew (Only.alloc (?_) _); with_reducible assumption) | (with_reducible refine Only.alloc (Only.alloc (Only.drew (?_)) _) _; with_reducible assumption)) : Only rb w2 _) o'; have hwr := IntWalk.i64_in (qb * 15) (by omega))
      | ((try go_simp); go_at_call 41; (with_reducible refine (C3.out _ (by (first | (with_reducible assumption) | (with_reducible refine Rd.alloc (?_) _; with_reducible assumption) | (with_reducible refine Rd.drew (?_); with_reducible assumption) | (with_reducible refine Rd.alloc (Rd.alloc (?_) _) _; with_reducible assumption) | (with_reducible refine Rd.alloc (Rd.drew (?_)) _; with_reducible assumption) | (with_reducible refine Rd.drew (Rd.alloc (?_) _); with_reducible assumption) | (with_reducible refine Rd.alloc (Rd.alloc (Rd.drew (?_)) _) _; with_reducible assumption)))).mono ?_); rintro e wd ⟨qc, rfl, q0_qc, q1, r', o'⟩; have cq_qc : qc ≤ 6 := (by omega); have hl_wd := r'.lt; have hne0 : ¬ wd.heap.size = rb := (by omega); have hne1 : ¬ wd.heap.size + 1 = rb := (by omega); have hz_wd := o'.size; (try simp at hz_wd); (try have hs_w2_wd : w2.heap.size < wd.heap.size := (by omega)); (try have ht_w2_wd : w2.heap.size + 1 < wd.heap.size := (by omega)); (try have hs_wa_wd : wa.heap.size < wd.heap.size := (by omega)); (try have ht_wa_wd : wa.heap.size + 1 < wd.heap.size := (by omega)); (try have hs_wb_wd : wb.heap.size < wd.heap.size := (by omega)); (try have ht_wb_wd : wb.heap.size + 1 < wd.heap.size := (by omega)); have hc_wd := (fun (g i : Nat) h hne => o'.cell (b := g) (o := i) h hne); have o'' := Only.trans (by (first | (with_reducible assumption) | (with_reducible refine Only.alloc (?_) _; with_reducible assumption) | (with_reducible refine Only.drew (?_); with_reducible assumption) | (with_reducible refine Only.alloc (Only.alloc (?_) _) _; with_reducible assumption) | (with_reducible refine Only.alloc (Only.drew (?_)) _; with_reducible assumption) | (with_reducible refine Only.drew (Only.alloc (?_) _); with_reducible assumption) | (with_reducible refine Only.alloc (Only.alloc (Only.drew (?_)) _) _; with_reducible assumption)) : Only rb w2 _) o'; obtain ⟨x, hx, x0, x1⟩ := getD_smallV [0, 0, 1, 1, 2, 3, 4] 0 4 (by simp) qc q0_qc (by simp; omega); obtain ⟨y, hy, y0, y1⟩ := getD_smallV [qa, qb * 15, 4092, 4093, -1] (-1) 4093 (by simp; omega) x x0 (by simp; omega); have x5 : x < 5 := (by omega); have cq7 : qc < 7 := (by omega); simp only [List.map] at hx hy; obtain ⟨_, hxe⟩ := List.getElem?_eq_some_iff.1 hx; obtain ⟨_, hye⟩ := List.getElem?_eq_some_iff.1 hy)
      | fail))
    all_goals (go_wp2_with fail; go_meet; exact ⟨rfl, y, rfl, y0, y1, Lib.hid (by (first | (with_reducible assumption) | (with_reducible refine Only.alloc (?_) _; with_reducible assumption) | (with_reducible refine Only.drew (?_); with_reducible assumption) | (with_reducible refine Only.alloc (Only.alloc (?_) _) _; with_reducible assumption) | (with_reducible refine Only.alloc (Only.drew (?_)) _; with_reducible assumption) | (with_reducible refine Only.drew (Only.alloc (?_) _); with_reducible assumption) | (with_reducible refine Only.alloc (Only.alloc (Only.drew (?_)) _) _; with_reducible assumption)))⟩)
  case rest =>
    obtain ⟨rfl, v, rfl, v0, v1, ho⟩ := hcut
    have hb := b2.out
    have hsz := hb.size
    have O3 := Lib.hid (hb.trans (Only.toBelow ho.out (B := w.heap.size) (by rw [← HRB.out]; omega) hsz))
    have HS3 := Lib.hid (HS.out.only ho.out (fun e => by have := HF.out _ e; have := HRB.out; omega))
    clear ho hb b2 HS
    go_wp2
    exact bodyPost_ret (v := .tuple #[.slice A' n c, .int .i64 v]) (by simp [results, Try.results29, go_sem]) rfl ⟨A', n, c, xs, v, rfl, HS3.out, hn, HCAP.out, v0, v1, O3.out⟩
end Go.Proofs.Ytkhjkfamekjbnaa

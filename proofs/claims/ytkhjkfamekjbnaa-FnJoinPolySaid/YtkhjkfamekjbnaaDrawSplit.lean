/-
  CONTRACT of DrawSplitPoly. Printed by gen_drawsplit.py.
-/
import Derived.Test.YtkhjkfamekjbnaaDrawPolyB
namespace Go.Proofs.Ytkhjkfamekjbnaa
open Go.RowKit
set_option linter.unusedVariables false
set_option linter.unusedSimpArgs false

/-- a list and a small number drawn -/
def DSn (w : World) (e : Ending) (w' : World) : Prop := ∃ (A : Option Addr) (n c : Nat) (xs : List Int) (v : Int), e = .returned (.tuple #[.slice A n c, .int .i64 v]) ∧ SI w' A n xs ∧ n ≤ 6 ∧ (n ≤ c ∧ c ≤ maxLen) ∧ 0 ≤ v ∧ v ≤ 9 ∧ Below w.heap.size w w'
set_option maxHeartbeats 8000000 in
theorem s_DrawSplitPoly (A : Option Addr) (len cap : Nat) (w : World) (hl : len ≤ cap) (hm : cap ≤ maxLen) (hr : Bytes w w.heap.size A len) (h0 : A = none → cap = 0) : Calls Try.prog 30 #[.slice A len cap] w (DSn w) := by
  go_enter Try.func30, Try.ntmps30
  go_wp2_with fail
  refine (s_l20Open A len cap w hl hm hr h0).mono ?_
  rintro e w1 ⟨rfl, r1, b1, hlt⟩
  clear hr h0 hl hm
  go_wp2_with fail
  refine (s_l20Powers w.heap.size 0 9 (by omega) w1 r1 (by omega)).mono ?_
  rintro e w2 ⟨A', n, c, xs, rfl, hs, hn, hcap, _, hf, r2, o2⟩
  have b2 := Lib.hid (b1.trans (Only.toBelow o2 (B := w.heap.size) (by omega) (by omega)))
  have HS := Lib.hid hs
  have HF := Lib.hid hf
  have HCAP := Lib.hid hcap
  have hl2 := r2.lt
  have hlt1 := Nat.le_trans (Nat.le_of_lt hlt) (Nat.le_refl _)
  clear r1 b1 o2 hs hf hcap
  obtain ⟨rb, hrb⟩ : ∃ rb, rb = w.heap.size := ⟨_, rfl⟩
  rw [← hrb] at r2 hl2 ⊢
  have HRB := Lib.hid hrb
  clear hrb
  go_upto_region 3 with fail
  go_cut [2, 3] (fun s2 s3 wx => s2 = .slice A' n c ∧ ∃ v : Int, s3 = .int .i64 v ∧ 0 ≤ v ∧ v ≤ 9 ∧ Hid (Only rb w2 wx))
  case first =>
    have O2 : Only rb w2 w2 := Only.refl _ _
    have C1 : Hid (∀ W : World, Rd W rb 16 → Calls Try.prog 41 #[.pointer (some ⟨rb, 0, none⟩), .int .i64 8] W (Pk W rb 17 8)) := fun W h => s_pick rb 16 8 W h (by omega)
    have C2 : Hid (∀ W : World, Rd W rb 17 → Calls Try.prog 41 #[.pointer (some ⟨rb, 0, none⟩), .int .i64 6] W (Pk W rb 18 6)) := fun W h => s_pick rb 17 6 W h (by omega)
    have r2 : Rd w2 rb 16 := r2
    have hne0 : ¬ w2.heap.size = rb := by omega
    go_region_with ((first
      | ((try go_simp); go_at_call 41; (with_reducible refine (C1.out _ (by (first | (with_reducible assumption) | (with_reducible refine Rd.alloc (?_) _; with_reducible assumption) | (with_reducible refine Rd.drew (?_); with_reducible assumption) | (with_reducible refine Rd.alloc (Rd.alloc (?_) _) _; with_reducible assumption) | (with_reducible refine Rd.alloc (Rd.drew (?_)) _; with_reducible assumption) | (with_reducible refine Rd.drew (Rd.alloc (?_) _); with_reducible assumption) | (with_reducible refine Rd.alloc (Rd.alloc (Rd.drew (?_)) _) _; with_reducible assumption)))).mono ?_); rintro e wa ⟨qa, rfl, q0_qa, q1, r', o'⟩; have cq_qa : qa ≤ 7 := (by omega); have hl_wa := r'.lt; have hne0 : ¬ wa.heap.size = rb := (by omega); have hne1 : ¬ wa.heap.size + 1 = rb := (by omega); have hz_wa := o'.size; (try simp at hz_wa); (try have hs_w2_wa : w2.heap.size < wa.heap.size := (by omega)); (try have ht_w2_wa : w2.heap.size + 1 < wa.heap.size := (by omega)); have hc_wa := (fun (g i : Nat) h hne => o'.cell (b := g) (o := i) h hne); have o'' := Only.trans ((by (first | (with_reducible assumption) | (with_reducible refine Only.alloc (?_) _; with_reducible assumption) | (with_reducible refine Only.drew (?_); with_reducible assumption) | (with_reducible refine Only.alloc (Only.alloc (?_) _) _; with_reducible assumption) | (with_reducible refine Only.alloc (Only.drew (?_)) _; with_reducible assumption) | (with_reducible refine Only.drew (Only.alloc (?_) _); with_reducible assumption) | (with_reducible refine Only.alloc (Only.alloc (Only.drew (?_)) _) _; with_reducible assumption))) : Only rb w2 _) o'; have hwr := IntWalk.i64_in (1 + qa) (by omega))
      | ((try go_simp); go_at_call 41; (with_reducible refine (C2.out _ (by (first | (with_reducible assumption) | (with_reducible refine Rd.alloc (?_) _; with_reducible assumption) | (with_reducible refine Rd.drew (?_); with_reducible assumption) | (with_reducible refine Rd.alloc (Rd.alloc (?_) _) _; with_reducible assumption) | (with_reducible refine Rd.alloc (Rd.drew (?_)) _; with_reducible assumption) | (with_reducible refine Rd.drew (Rd.alloc (?_) _); with_reducible assumption) | (with_reducible refine Rd.alloc (Rd.alloc (Rd.drew (?_)) _) _; with_reducible assumption)))).mono ?_); rintro e wd ⟨qc, rfl, q0_qc, q1, r', o'⟩; have cq_qc : qc ≤ 5 := (by omega); have hl_wd := r'.lt; have hne0 : ¬ wd.heap.size = rb := (by omega); have hne1 : ¬ wd.heap.size + 1 = rb := (by omega); have hz_wd := o'.size; (try simp at hz_wd); (try have hs_w2_wd : w2.heap.size < wd.heap.size := (by omega)); (try have ht_w2_wd : w2.heap.size + 1 < wd.heap.size := (by omega)); (try have hs_wa_wd : wa.heap.size < wd.heap.size := (by omega)); (try have ht_wa_wd : wa.heap.size + 1 < wd.heap.size := (by omega)); have hc_wd := (fun (g i : Nat) h hne => o'.cell (b := g) (o := i) h hne); have o'' := Only.trans ((by (first | (with_reducible assumption) | (with_reducible refine Only.alloc (?_) _; with_reducible assumption) | (with_reducible refine Only.drew (?_); with_reducible assumption) | (with_reducible refine Only.alloc (Only.alloc (?_) _) _; with_reducible assumption) | (with_reducible refine Only.alloc (Only.drew (?_)) _; with_reducible assumption) | (with_reducible refine Only.drew (Only.alloc (?_) _); with_reducible assumption) | (with_reducible refine Only.alloc (Only.alloc (Only.drew (?_)) _) _; with_reducible assumption))) : Only rb w2 _) o'; obtain ⟨x, hx, x0, x1⟩ := getD_smallV [0, 0, 0, 0, 1, 2] 0 2 (by simp) qc q0_qc (by simp; omega); obtain ⟨y, hy, y0, y1⟩ := getD_smallV [1 + qa, 0, 9] 0 9 (by simp; omega) x x0 (by simp; omega); have x5 : x < 3 := (by omega); have cq7 : qc < 6 := (by omega); simp only [List.map] at hx hy; obtain ⟨_, hxe⟩ := List.getElem?_eq_some_iff.1 hx; obtain ⟨_, hye⟩ := List.getElem?_eq_some_iff.1 hy)
      | fail))
    all_goals (go_wp2_with fail; go_meet; exact ⟨rfl, y, rfl, y0, y1, Lib.hid (by (first | (with_reducible assumption) | (with_reducible refine Only.alloc (?_) _; with_reducible assumption) | (with_reducible refine Only.drew (?_); with_reducible assumption) | (with_reducible refine Only.alloc (Only.alloc (?_) _) _; with_reducible assumption) | (with_reducible refine Only.alloc (Only.drew (?_)) _; with_reducible assumption) | (with_reducible refine Only.drew (Only.alloc (?_) _); with_reducible assumption) | (with_reducible refine Only.alloc (Only.alloc (Only.drew (?_)) _) _; with_reducible assumption)))⟩)
  case rest =>
    obtain ⟨rfl, v, rfl, v0, v1, ho⟩ := hcut
    have hb := b2.out
    have hsz := hb.size
    have O3 := Lib.hid (hb.trans (Only.toBelow ho.out (B := w.heap.size) (by rw [← HRB.out]; omega) hsz))
    have HS3 := Lib.hid (HS.out.only ho.out (fun e => by have := HF.out _ e; have := HRB.out; omega))
    clear ho hb b2 HS
    go_wp2
    exact bodyPost_ret (v := .tuple #[.slice A' n c, .int .i64 v]) (by simp [results, Try.results30, go_sem]) rfl ⟨A', n, c, xs, v, rfl, HS3.out, hn, HCAP.out, v0, v1, O3.out⟩
end Go.Proofs.Ytkhjkfamekjbnaa

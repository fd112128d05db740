/-
  CONTRACT of DrawOpenMessages. Printed by gen_drawopen.py.
-/
import Derived.Test.YtoeffaalihndoaaDrawList
namespace Go.Proofs.Ytoeffaalihndoaa
open Go.RowKit
set_option linter.unusedVariables false
set_option linter.unusedSimpArgs false

theorem getD_smallV (l : List Int) (lo hi : Int) (h : ∀ x ∈ l, lo ≤ x ∧ x ≤ hi) (v : Int) (h0 : 0 ≤ v) (h1 : v < l.length) : ∃ x, (l.map (Value.int .i64))[v.toNat]? = some (.int .i64 x) ∧ lo ≤ x ∧ x ≤ hi := by
  obtain ⟨x, hx, a, b⟩ := getD_small l lo hi h v h0 h1
  exact ⟨x, by rw [List.getElem?_map, hx]; rfl, a, b⟩
/-- a round and a list drawn -/
def Dom (w : World) (e : Ending) (w' : World) : Prop := ∃ (v : Int) (A : Option Addr) (n c : Nat) (ps : List (Int × Int)), e = .returned (.tuple #[.int .i64 v, .slice A n c]) ∧ (-1 ≤ v ∧ v ≤ 1001) ∧ ps.length = n ∧ n ≤ 6 ∧ EO 30 2 w' w.heap.size A n c (flat ps) ∧ Below w.heap.size w w'
set_option maxHeartbeats 16000000 in
theorem s_DrawOpenMessages (A : Option Addr) (len cap : Nat) (w : World) (hl : len ≤ cap) (hm : cap ≤ maxLen) (hr : Bytes w w.heap.size A len) (h0 : A = none → cap = 0) : Calls Try.prog 50 #[.slice A len cap] w (Dom w) := by
  go_enter Try.func50, Try.ntmps50
  go_wp2_with fail
  refine (s_l20Open A len cap w hl hm hr h0).mono ?_
  rintro e w1 ⟨rfl, r1, b1, hlt⟩
  clear hr h0 hl hm
  have HB1 := Lib.hid b1
  clear b1
  obtain ⟨rb, hrb⟩ : ∃ rb, rb = w.heap.size := ⟨_, rfl⟩
  rw [← hrb] at r1 hlt ⊢
  have HRB := Lib.hid hrb
  clear hrb
  go_upto_region 2 with fail
  go_cut [2, 3] (fun s2 s3 wx => ∃ (v : Int) (A3 : Option Addr) (n3 c3 : Nat) (ps : List (Int × Int)), s2 = .int .i64 v ∧ -1 ≤ v ∧ v ≤ 1001 ∧ s3 = .slice A3 n3 c3 ∧ ps.length = n3 ∧ n3 ≤ 6 ∧ Hid (EO 30 2 wx w1.heap.size A3 n3 c3 (flat ps)) ∧ Hid (Only rb w1 wx))
  case first =>
    have O2 : Only rb w1 w1 := Only.refl _ _
    have C1 : Hid (∀ W : World, Rd W rb 0 → Calls Try.prog 77 #[.pointer (some ⟨rb, 0, none⟩), .int .i64 20] W (Pk W rb 1 20)) := fun W h => s_pick rb 0 20 W h (by omega)
    have C2 : Hid (∀ W : World, Rd W rb 1 → Calls Try.prog 77 #[.pointer (some ⟨rb, 0, none⟩), .int .i64 7] W (Pk W rb 2 7)) := fun W h => s_pick rb 1 7 W h (by omega)
    have C3 : Hid (∀ W : World, Rd W rb 2 → Calls Try.prog 79 #[.pointer (some ⟨rb, 0, none⟩), .int .i64 40] W (Ls W rb 93 40)) := fun W h => s_l20List rb 2 40 (by omega) W h (by omega)
    have hl1 := r1.lt
    have hne0 : ¬ w1.heap.size = rb := by omega
    go_region_with ((first
      | ((try go_simp); go_at_call 77; (with_reducible refine (C1.out _ (by (first | (with_reducible assumption) | (with_reducible refine Rd.alloc (?_) _; with_reducible assumption) | (with_reducible refine Rd.drew (?_); with_reducible assumption) | (with_reducible refine Rd.alloc (Rd.alloc (?_) _) _; with_reducible assumption) | (with_reducible refine Rd.alloc (Rd.drew (?_)) _; with_reducible assumption) | (with_reducible refine Rd.drew (Rd.alloc (?_) _); with_reducible assumption) | (with_reducible refine Rd.alloc (Rd.alloc (Rd.drew (?_)) _) _; with_reducible assumption)))).mono ?_); rintro e wa ⟨qa, rfl, q0_qa, q1, r', o'⟩; have cq_qa : qa ≤ 19 := (by omega); have hl_wa := r'.lt; have hne0 : ¬ wa.heap.size = rb := (by omega); have hne1 : ¬ wa.heap.size + 1 = rb := (by omega); have hz_wa := o'.size; (try simp at hz_wa); (try have hs_w1_wa : w1.heap.size < wa.heap.size := (by omega)); (try have ht_w1_wa : w1.heap.size + 1 < wa.heap.size := (by omega)); have hc_wa := (fun (g i : Nat) h hne => o'.cell (b := g) (o := i) h hne); have o'' := Only.trans ((by (first | (with_reducible assumption) | (with_reducible refine Only.alloc (?_) _; with_reducible assumption) | (with_reducible refine Only.drew (?_); with_reducible assumption) | (with_reducible refine Only.alloc (Only.alloc (?_) _) _; with_reducible assumption) | (with_reducible refine Only.alloc (Only.drew (?_)) _; with_reducible assumption) | (with_reducible refine Only.drew (Only.alloc (?_) _); with_reducible assumption) | (with_reducible refine Only.alloc (Only.alloc (Only.drew (?_)) _) _; with_reducible assumption))) : Only rb w1 _) o')
      | ((try go_simp); go_at_call 77; (with_reducible refine (C2.out _ (by (first | (with_reducible assumption) | (with_reducible refine Rd.alloc (?_) _; with_reducible assumption) | (with_reducible refine Rd.drew (?_); with_reducible assumption) | (with_reducible refine Rd.alloc (Rd.alloc (?_) _) _; with_reducible assumption) | (with_reducible refine Rd.alloc (Rd.drew (?_)) _; with_reducible assumption) | (with_reducible refine Rd.drew (Rd.alloc (?_) _); with_reducible assumption) | (with_reducible refine Rd.alloc (Rd.alloc (Rd.drew (?_)) _) _; with_reducible assumption)))).mono ?_); rintro e wb ⟨qc, rfl, q0_qc, q1, r', o'⟩; have cq_qc : qc ≤ 6 := (by omega); have hl_wb := r'.lt; have hne0 : ¬ wb.heap.size = rb := (by omega); have hne1 : ¬ wb.heap.size + 1 = rb := (by omega); have hz_wb := o'.size; (try simp at hz_wb); (try have hs_w1_wb : w1.heap.size < wb.heap.size := (by omega)); (try have ht_w1_wb : w1.heap.size + 1 < wb.heap.size := (by omega)); (try have hs_wa_wb : wa.heap.size < wb.heap.size := (by omega)); (try have ht_wa_wb : wa.heap.size + 1 < wb.heap.size := (by omega)); have hc_wb := (fun (g i : Nat) h hne => o'.cell (b := g) (o := i) h hne); have o'' := Only.trans ((by (first | (with_reducible assumption) | (with_reducible refine Only.alloc (?_) _; with_reducible assumption) | (with_reducible refine Only.drew (?_); with_reducible assumption) | (with_reducible refine Only.alloc (Only.alloc (?_) _) _; with_reducible assumption) | (with_reducible refine Only.alloc (Only.drew (?_)) _; with_reducible assumption) | (with_reducible refine Only.drew (Only.alloc (?_) _); with_reducible assumption) | (with_reducible refine Only.alloc (Only.alloc (Only.drew (?_)) _) _; with_reducible assumption))) : Only rb w1 _) o'; obtain ⟨x, hx, x0, x1⟩ := getD_smallV [0, 0, 0, 0, 1, 2, 3] 0 3 (by simp) qc q0_qc (by simp; omega); obtain ⟨y, hy, y0, y1⟩ := getD_smallV [qa, 1000, 1001, -1] (-1) 1001 (by simp; omega) x x0 (by simp; omega); have x5 : x < 4 := (by omega); have cq7 : qc < 7 := (by omega); simp only [List.map] at hx hy; obtain ⟨_, hxe⟩ := List.getElem?_eq_some_iff.1 hx; obtain ⟨_, hye⟩ := List.getElem?_eq_some_iff.1 hy)
      | ((try go_simp); go_at_call 79; (with_reducible refine (C3.out _ (by (first | (with_reducible assumption) | (with_reducible refine Rd.alloc (?_) _; with_reducible assumption) | (with_reducible refine Rd.drew (?_); with_reducible assumption) | (with_reducible refine Rd.alloc (Rd.alloc (?_) _) _; with_reducible assumption) | (with_reducible refine Rd.alloc (Rd.drew (?_)) _; with_reducible assumption) | (with_reducible refine Rd.drew (Rd.alloc (?_) _); with_reducible assumption) | (with_reducible refine Rd.alloc (Rd.alloc (Rd.drew (?_)) _) _; with_reducible assumption)))).mono ?_); rintro e wd ⟨A3, n3, c3, ps, rfl, hlen, hosl, hn6, _, r', o'⟩; have hl_wd := r'.lt; have hne0 : ¬ wd.heap.size = rb := (by omega); have hne1 : ¬ wd.heap.size + 1 = rb := (by omega); have hz_wd := o'.size; (try simp at hz_wd); (try have hs_w1_wd : w1.heap.size < wd.heap.size := (by omega)); (try have ht_w1_wd : w1.heap.size + 1 < wd.heap.size := (by omega)); (try have hs_wa_wd : wa.heap.size < wd.heap.size := (by omega)); (try have ht_wa_wd : wa.heap.size + 1 < wd.heap.size := (by omega)); (try have hs_wb_wd : wb.heap.size < wd.heap.size := (by omega)); (try have ht_wb_wd : wb.heap.size + 1 < wd.heap.size := (by omega)); have hc_wd := (fun (g i : Nat) h hne => o'.cell (b := g) (o := i) h hne); have hose := Lib.hid (EO.mono (base' := w1.heap.size) hosl (by first | omega | (simp; done) | (simp; omega))); have o'' := Only.trans ((by (first | (with_reducible assumption) | (with_reducible refine Only.alloc (?_) _; with_reducible assumption) | (with_reducible refine Only.drew (?_); with_reducible assumption) | (with_reducible refine Only.alloc (Only.alloc (?_) _) _; with_reducible assumption) | (with_reducible refine Only.alloc (Only.drew (?_)) _; with_reducible assumption) | (with_reducible refine Only.drew (Only.alloc (?_) _); with_reducible assumption) | (with_reducible refine Only.alloc (Only.alloc (Only.drew (?_)) _) _; with_reducible assumption))) : Only rb w1 _) o')
      | fail))
    all_goals (go_wp2_with fail; go_meet; exact ⟨y, A3, n3, c3, ps, rfl, y0, y1, rfl, hlen, hn6, (by first | (with_reducible assumption) | exact Lib.hid hose.out | exact Lib.hid (hose.out.alloc _) | exact Lib.hid ((hose.out.alloc _).alloc _)), Lib.hid (by (first | (with_reducible assumption) | (with_reducible refine Only.alloc (?_) _; with_reducible assumption) | (with_reducible refine Only.drew (?_); with_reducible assumption) | (with_reducible refine Only.alloc (Only.alloc (?_) _) _; with_reducible assumption) | (with_reducible refine Only.alloc (Only.drew (?_)) _; with_reducible assumption) | (with_reducible refine Only.drew (Only.alloc (?_) _); with_reducible assumption) | (with_reducible refine Only.alloc (Only.alloc (Only.drew (?_)) _) _; with_reducible assumption)))⟩)
  case rest =>
    obtain ⟨v, A3, n3, c3, ps, rfl, v0, v1, rfl, hlen, hn6, hos, ho⟩ := hcut
    have hb := HB1.out
    have hsz := hb.size
    have O3 := Lib.hid (hb.trans (Only.toBelow ho.out (B := w.heap.size) (by rw [← HRB.out]; omega) hsz))
    have HS3 := Lib.hid (hos.out.mono hsz)
    have HLEN := Lib.hid hlen
    clear ho hb HB1 hos hlen hsz
    go_wp2
    exact bodyPost_ret (v := .tuple #[.int .i64 v, .slice A3 n3 c3]) (by simp [results, Try.results50, go_sem]) rfl ⟨v, A3, n3, c3, ps, rfl, ⟨v0, v1⟩, HLEN.out, hn6, HS3.out, O3.out⟩
end Go.Proofs.Ytoeffaalihndoaa

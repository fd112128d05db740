/-
  SplitNet of the reference.
-/
import Derived.Test.YtkpmnfegdhfhcaaSplM
import Derived.Test.YtkpmnfegdhfhcaaLayV
import Derived.Test.YtkpmnfegdhfhcaaLists
import Derived.Deep.AppendLies
namespace Go.Proofs.Ytkpmnfegdhfhcaa
open Go.RowKit
set_option linter.unusedVariables false
set_option linter.unusedSimpArgs false

def splMs : List Mx → Int → List (Mx × Mx) × Int
  | [], s => ([], s)
  | m :: ms, s => ((splM m s).1 :: (splMs ms (splM m s).2).1, (splMs ms (splM m s).2).2)
theorem splMs_snoc : ∀ (ms : List Mx) (m : Mx) (s : Int), splMs (ms ++ [m]) s = ((splMs ms s).1 ++ [(splM m (splMs ms s).2).1], (splM m (splMs ms s).2).2)
  | [], m, s => rfl
  | a :: ms, m, s => by simp [splMs, splMs_snoc ms m (splM a s).2]
theorem splMs_len : ∀ (ms : List Mx) (s : Int), (splMs ms s).1.length = ms.length
  | [], s => rfl
  | a :: ms, s => by simp [splMs, splMs_len ms]
def splL (l : Int × List Mx) (s : Int) : (Int × List (Mx × Mx)) × Int := ((l.1, (splMs l.2 s).1), (splMs l.2 s).2)
def splNs : List (Int × List Mx) → Int → List (Int × List (Mx × Mx)) × Int
  | [], s => ([], s)
  | l :: ls, s => ((splL l s).1 :: (splNs ls (splL l s).2).1, (splNs ls (splL l s).2).2)
theorem splNs_snoc : ∀ (ls : List (Int × List Mx)) (l : Int × List Mx) (s : Int), splNs (ls ++ [l]) s = ((splNs ls s).1 ++ [(splL l (splNs ls s).2).1], (splL l (splNs ls s).2).2)
  | [], l, s => rfl
  | a :: ls, l, s => by simp [splNs, splNs_snoc ls l (splL a s).2]
theorem splNs_len : ∀ (ls : List (Int × List Mx)) (s : Int), (splNs ls s).1.length = ls.length
  | [], s => rfl
  | a :: ls, s => by simp [splNs, splNs_len ls]
def netV (net : List (Int × List Mx)) (s : Int) : Bool := (net.all fun l => layB l.1 l.2) && (decide (net.length ≤ 4) && sdB s)
def splN (net : List (Int × List Mx)) (s : Int) : List (Int × List (Mx × Mx)) × Int := if netV net s = true then splNs net s else ([], 0)
theorem splN_f {net : List (Int × List Mx)} {s : Int} (h : netV net s = false) : splN net s = ([], 0) := by unfold splN; rw [h]; rfl
theorem splN_t {net : List (Int × List Mx)} {s : Int} (h : netV net s = true) : splN net s = splNs net s := by unfold splN; rw [h]; rfl
theorem netV_no {net : List (Int × List Mx)} {s : Int} {k : Nat} {l : Int × List Mx} (hk : net[k]? = some l) (h : layB l.1 l.2 = false) : netV net s = false := by
  unfold netV
  have : (net.all fun l => layB l.1 l.2) = false := List.all_eq_false.2 ⟨l, List.mem_of_getElem? hk, by rw [h]; decide⟩
  rw [this, Bool.false_and]
theorem netV_yes {net : List (Int × List Mx)} {s : Int} (h : ∀ k l, k < net.length → net[k]? = some l → layB l.1 l.2 = true) : netV net s = (decide (net.length ≤ 4) && sdB s) := by
  unfold netV
  have : (net.all fun l => layB l.1 l.2) = true := List.all_eq_true.2 fun l hm => by
    obtain ⟨k, hk⟩ := List.getElem?_of_mem hm
    exact h k l (List.getElem?_eq_some_iff.1 hk).1 hk
  rw [this, Bool.true_and]
/-- what SplitNet of the reference answers -/
def SN (net : List (Int × List Mx)) (s : Int) (w : World) (e : Ending) (w' : World) : Prop := ∃ A n c css F, e = .returned (.tuple #[.slice A n c, .int .i64 (splN net s).2]) ∧ OX (kE smE) w' w.heap.size 55 A n c css (splN net s).1 F ∧ Below w.heap.size w w'
theorem SN.no {net : List (Int × List Mx)} {s : Int} {w w1 : World} (h : netV net s = false) (hb : Below w.heap.size w w1) : SN net s w (.returned (.tuple #[.slice (some ⟨w1.heap.size, 0, none⟩) 0 0, .int .i64 0])) (w1.alloc (.cells #[] 55)) := by
  refine ⟨_, 0, 0, [], [], by rw [splN_f h], ?_, hb.alloc hb.size _⟩
  rw [splN_f h]
  exact OX.lit0 w1 hb.size _
/-- a layer under way: its block, its shared matrices -/
def NI (wo : World) (kd : Int) (ms : List Mx) (s : Int) (wi : World) (j : Nat) (A : Option Addr) (c : Nat) : Prop :=
  Blk wi wo.heap.size 55 #[.int .i64 kd, .slice A j c] ∧ (∃ css F, OX smE wi (wo.heap.size + 1) 64 A j c css (splMs (ms.take j) s).1 F) ∧ Below wo.heap.size wo wi
section
variable {wo wi w4 w1 : World} {kd s : Int} {ms : List Mx} {j c g cap : Nat} {A : Option Addr} {m : Mx} {o o' : Obj} {css : List (List Value)} {F G : List Nat} {ys : List Value}
theorem NI.start (wo : World) (kd : Int) (ms : List Mx) (s : Int) : NI wo kd ms s (wo.alloc (.cells #[.int .i64 kd, .slice none 0 0] 55)) 0 none 0 :=
  ⟨Blk.new _ _ _, ⟨[], [], OX.nil _ _ _⟩, (Below.refl _ _).alloc (Nat.le_refl _) _⟩
theorem NI.next (h1 : Blk wi wo.heap.size 55 #[.int .i64 kd, .slice A j c]) (hox : OX smE wi (wo.heap.size + 1) 64 A j c css (splMs (ms.take j) s).1 F) (h3 : Below wo.heap.size wo wi) (hb : Below wi.heap.size wi w4)
    (hm : ms[j]? = some m) (hx : smE.P w4 ys (splM m (splMs (ms.take j) s).2).1 G) (hf : Fr w4 wi.heap.size G)
    (hown : w1.ownsRow (wo.heap.size + 1) 64 smE.s (.slice (some ⟨g, 0, none⟩) (j + 1) cap) (j + 1) (css.flatten ++ ys))
    (hg : ((w4.alloc o').alloc o).grownBy w1 (Value.slice A j c).ownBlock) (hat : (Value.slice A j c).ownBlock = some g ∨ g = (w4.alloc o').heap.size + 1) :
    Blk w1 wo.heap.size 55 #[.int .i64 kd, .slice A j c] ∧ NI wo kd ms s (w1.setCell ⟨wo.heap.size, 1, none⟩ (.slice (some ⟨g, 0, none⟩) (j + 1) cap)) (j + 1) (some ⟨g, 0, none⟩) cap := by
  have hwi : wo.heap.size < wi.heap.size := h1.lt
  have hsz := hb.size
  have hb2 : Below wi.heap.size wi (w4.alloc o') := hb.alloc (by omega) _
  have hd : ∀ g', g' ∈ G → g' ∉ F ∧ blk A ≠ some g' := fun g' hg' => by
    have := (hf.2 g' hg').1
    exact ⟨fun h => by have := hox.lt g' h; omega, fun h => by have := (hox.blk_lt g' h).2; omega⟩
  have h3' : Below wo.heap.size wo (w4.alloc o') := h3.trans (hb2.mono (by omega))
  have hks : ∀ g', g' ∈ G → (w4.alloc o').heap[g']? = w4.heap[g']? := fun g' hg' => Below.heap_alloc w4 o' g' (hf.lt g' hg')
  obtain ⟨k1, k2, k3⟩ := OX.push (hox.below hb2) (smE.keep _ _ _ _ _ hx hks) ((hf.mono (by omega)).keep hks) hd h3' (by omega) (by simp; omega) hown hg hat
  have k0 := (h1.below' hb2).onlyS k3 (hox.1.blkNe h1 (by decide))
  have e : (splMs (ms.take (j + 1)) s).1 = (splMs (ms.take j) s).1 ++ [(splM m (splMs (ms.take j) s).2).1] := by rw [take_push hm, splMs_snoc]
  rw [← e] at k1
  exact ⟨k0, k0.set_ 1 _, ⟨_, _, k1.farLt (by dsimp only; omega) _⟩, k2.setCell (by dsimp only; omega) _⟩
end
set_option maxRecDepth 20000 in
set_option maxHeartbeats 8000000 in
theorem s_SplitNet (A : Option Addr) (n cap : Nat) (net : List (Int × List Mx)) (F : List Nat) (s : Int) (w : World) (hx : RI (kE mxE) w A n cap net F) (hs : netS (kS mS) net) :
    Calls Try.prog 43 #[.slice A n cap, .int .i64 s] w (SN net s w) := by
  obtain ⟨i0, hi, hz0, hz1, hz2⟩ := info_parts infoSM
  obtain ⟨i2, hi2, hy0, hy1, hy2⟩ := info_parts infoSL
  have bn : n ≤ 1048576 := by rw [← hx.1]; exact hs.1
  have HLN := Lib.hid hx.1
  have HS := Lib.hid hs.2
  have hcall : Calls Try.prog 57 #[.slice A n cap] w (fun e w' => ∃ A1 c1 F1, e = .returned (.slice A1 n c1) ∧ RI (kE mxE) w' A1 n c1 net F1 ∧ Below w.heap.size w w') := by
    refine (s_l1OwnLayerList A n cap net F w hx bn hs.2).mono ?_
    rintro e w' ⟨A1, c1, F1, he, h1, _, h3⟩
    rw [hx.1] at he h1
    exact ⟨A1, c1, F1, he, h1, h3⟩
  have HCALL := Lib.hid hcall
  clear hcall hx hs
  go_enter Try.func43, Try.ntmps43
  go_wp2_with fail
  refine HCALL.out.mono ?_
  rintro e w1 ⟨A1, c1, F1, rfl, hri, hb⟩
  have HR1 := Lib.hid hri
  have HB1 := Lib.hid hb
  have HLT : Hid (∀ g, g ∈ F1 → g < w1.heap.size) := hri.lt
  have hw1 : w.heap.size ≤ w1.heap.size := hb.size
  clear hri hb HCALL
  go_wp2
  go_loopw [7] (fun i wr => ∃ k : Nat, k ≤ n ∧ i = .int .i64 k ∧ Hid (Below w1.heap.size (w1.alloc (.cells #[] 55)) wr) ∧ Hid ((w1.alloc (.cells #[] 55)).heap.size ≤ wr.heap.size ∧ Below (w1.heap.size + 1) (w1.alloc (.cells #[] 55)) wr) ∧ Hid (∀ q l, q < k → net[q]? = some l → layB l.1 l.2 = true)) (fun i _ => n - (intOf i).toNat)
  case atStart => exact ⟨0, Nat.zero_le _, rfl, Below.refl _ _, ⟨Nat.le_refl _, Below.refl _ _⟩, fun q l hq => absurd hq (by omega)⟩
  case round =>
  obtain ⟨k, hk, rfl, hob0, hob1, hval⟩ := hrel
  have hzz : (w1.alloc (.cells #[] 55)).heap.size = w1.heap.size + 1 := by simp
  have hwr1 : w1.heap.size + 1 ≤ wr.heap.size := by have := hob1.out.1; omega
  have HOB : Hid (Below w1.heap.size w1 wr) := ((Below.refl w1.heap.size w1).alloc (Nat.le_refl _) _).trans hob0.out
  have HOW : Hid (Below w.heap.size w wr) := HB1.out.trans (HOB.out.mono hw1)
  clear hzz
  by_cases hlt : k < n
  · obtain ⟨x, hxk, hmem⟩ := get_lt (xs := net) (j := k) (by have := HLN.out; omega)
    have HXK := Lib.hid hxk
    obtain ⟨hsm, hsx⟩ := HS.out x hmem
    have HSX := Lib.hid hsx
    obtain ⟨b, off, cs, Fx, rfl, hbl, hc, _, Aw, cw, rfl, hrw⟩ := (HR1.out.below HOB.out).cells hxk 2 rfl
    have d0 : wr.cell? ⟨b, off + k * 2, none⟩ = some (.int .i64 x.1) := hc 0 (by omega)
    have d1 : wr.cell? ⟨b, off + k * 2 + 1, none⟩ = some (.slice Aw x.2.length cw) := hc 1 (by omega)
    have HRW := Lib.hid hrw
    have k0 : (0 : Int) ≤ (k : Int) := by omega
    have k1 : (k : Int) < (n : Int) := by omega
    clear hc hxk hmem hrw hsx
    go_wp2_with fail
    refine (s_LayerValid x.1 Aw x.2.length cw x.2 Fx wr HRW.out HSX.out hsm).mono ?_
    rintro e w5 ⟨rfl, hb5⟩
    have HB5 : Hid (Below w1.heap.size (w1.alloc (.cells #[] 55)) w5) := hob0.out.trans (hb5.mono (by omega))
    have HB6 : Hid ((w1.alloc (.cells #[] 55)).heap.size ≤ w5.heap.size ∧ Below (w1.heap.size + 1) (w1.alloc (.cells #[] 55)) w5) := ⟨Nat.le_trans hob1.out.1 hb5.size, hob1.out.2.trans (hb5.mono hwr1)⟩
    have HW5 : Hid (Below w.heap.size w w5) := HOW.out.trans (hb5.mono (by omega))
    clear hb5
    cases hl : layB x.1 x.2
    · have HFIN := Lib.hid (SN.no (netV_no (s := s) HXK.out hl) HW5.out)
      clear hl
      go_wp2
      go_ret2
      exact HFIN.out
    · have HV : Hid (∀ q l, q < k + 1 → net[q]? = some l → layB l.1 l.2 = true) := by
        intro q l hq hl'
        by_cases hqk : q < k
        · exact hval.out q l hqk hl'
        · obtain rfl : q = k := by omega
          rw [HXK.out] at hl'
          injection hl' with hl'
          subst hl'
          exact hl
      clear hl hval
      go_wp2
      go_roundw
      case rel => exact ⟨k + 1, by omega, by go_num, HB5, HB6, HV⟩
      case measure => simp [intOf]; omega
  · obtain rfl : k = n := by omega
    have hnv : netV net s = (decide (k ≤ 4) && sdB s) := by
      have := netV_yes (s := s) (net := net) (fun q l hq hl => hval.out q l (by rw [← HLN.out]; exact hq) hl)
      rw [HLN.out] at this
      exact this
    obtain ⟨wb, hwb⟩ : ∃ wb, wb = wr := ⟨_, rfl⟩
    have hv0 := OX.lit0 (E := kE smE) w1 (Nat.le_refl _) 55
    have HV0 : Hid (∃ css F', OX (kE smE) wr w1.heap.size 55 (some ⟨w1.heap.size, 0, none⟩) 0 0 css (splNs (net.take 0) s).1 F') := ⟨[], [], hv0.keep (by simp; omega) (fun g hl _ => hob1.out.2.block g (by simpa using hl))⟩
    have HRI : Hid (RI (kE mxE) wr A1 k c1 net F1) := HR1.out.below HOB.out
    clear hv0 hval hob0 hob1 hwb
    by_cases n4 : 4 < k
    · have HNO := Lib.hid (SN.no (by rw [hnv, decide_eq_false (by omega), Bool.false_and] : netV net s = false) HOW.out)
      have t4 : (4 : Int) < (k : Int) := by omega
      clear hnv
      go_wp2
      go_ret2
      exact HNO.out
    have t4 : (k : Int) ≤ 4 := by omega
    cases hsd : sdB s
    · have HNO := Lib.hid (SN.no (by rw [hnv, hsd, Bool.and_false] : netV net s = false) HOW.out)
      clear hnv
      go_wp2_with fail
      refine (s_l1In_sdb s hsd wr).mono ?_
      rintro e w' ⟨rfl, rfl⟩
      clear hsd
      go_wp2
      go_ret2
      exact HNO.out
    have HEQ : Hid (splN net s = splNs net s) := splN_t (by rw [hnv, hsd, decide_eq_true (by omega)]; rfl)
    clear hnv
    go_wp2_with fail
    refine (s_l1In_sdb s hsd wr).mono ?_
    rintro e w' ⟨rfl, rfl⟩
    clear hsd
    go_wp2
    go_loopw [1, 6, 8] (fun v1 v i wr => ∃ (q c' : Nat) (A' : Option Addr), q ≤ k ∧ i = .int .i64 q ∧ v1 = .int .i64 (splNs (net.take q) s).2 ∧ v = .slice A' q c' ∧ Hid (∃ css F', OX (kE smE) wr w1.heap.size 55 A' q c' css (splNs (net.take q) s).1 F') ∧ Hid (RI (kE mxE) wr A1 k c1 net F1) ∧ Hid (Below w.heap.size w wr) ∧ w1.heap.size + 1 ≤ wr.heap.size) (fun _ _ i _ => k - (intOf i).toNat)
    case atStart => exact ⟨0, 0, _, Nat.zero_le _, rfl, rfl, rfl, HV0, HRI, HOW, hwr1⟩
    case round =>
    obtain ⟨q, cA, A', hq, rfl, rfl, rfl, hox, hri, hob, hw1o⟩ := hrel
    clear HV0 HRI HOW HOB hwr1 wb
    obtain ⟨wo, rfl⟩ : ∃ u : World, u = wr := ⟨_, rfl⟩
    by_cases hqk : q < k
    · obtain ⟨x, hxk, hmem⟩ := get_lt (xs := net) (j := q) (by have := HLN.out; omega)
      have HXK := Lib.hid hxk
      obtain ⟨hsm, hsx⟩ := HS.out x hmem
      have HSX := Lib.hid hsx
      obtain ⟨b, off, cs, Fx, rfl, hbl, hc, _, Aw, cw, rfl, hrw⟩ := hri.out.cells hxk 2 rfl
      obtain ⟨m, hm⟩ : ∃ m, m = x.2.length := ⟨_, rfl⟩
      rw [← hm] at hc hrw hsm
      have HM := Lib.hid hm
      have d0 : wo.cell? ⟨b, off + q * 2, none⟩ = some (.int .i64 x.1) := hc 0 (by omega)
      have d1 : wo.cell? ⟨b, off + q * 2 + 1, none⟩ = some (.slice Aw m cw) := hc 1 (by omega)
      have HRW := Lib.hid hrw
      have k0 : (0 : Int) ≤ (q : Int) := by omega
      have k1 : (q : Int) < (k : Int) := by omega
      obtain ⟨s0, hs0⟩ : ∃ s0, s0 = (splNs (net.take q) s).2 := ⟨_, rfl⟩
      rw [← hs0]
      have HS0 := Lib.hid hs0
      have J0 : Hid (NI wo x.1 x.2 s0 (wo.alloc (.cells #[.int .i64 x.1, .slice none 0 0] 55)) 0 none 0) := NI.start wo x.1 x.2 s0
      clear hc hxk hmem hm hrw hsx hs0
      go_wp2
      go_loopw [1, 10] (fun v1 i wr => ∃ (j c' : Nat) (A'' : Option Addr), j ≤ m ∧ i = .int .i64 j ∧ v1 = .int .i64 (splMs (x.2.take j) s0).2 ∧ Hid (NI wo x.1 x.2 s0 wr j A'' c')) (fun _ i _ => m - (intOf i).toNat)
      case atStart => exact ⟨0, 0, none, Nat.zero_le _, rfl, rfl, J0⟩
      case round =>
      obtain ⟨j, cI, AI, hj, rfl, rfl, hji⟩ := hrel
      clear J0
      have cl0 : wr.cell? ⟨wo.heap.size, 0, none⟩ = some (.int .i64 x.1) := hji.out.1.cell 0
      have cl1 : wr.cell? ⟨wo.heap.size, 1, none⟩ = some (.slice AI j cI) := hji.out.1.cell 1
      have zl : wo.heap.size < wr.heap.size := hji.out.1.lt
      have zb : b < wr.heap.size := by omega
      have e1 : wr.cell? ⟨b, off + q * 2 + 1, none⟩ = some (.slice Aw m cw) := (hji.out.2.2.cell (p := ⟨b, off + q * 2 + 1, none⟩) hbl).trans d1
      by_cases hjm : j < m
      · obtain ⟨p, hpj, hpm⟩ := get_lt (xs := x.2) (j := j) (by have := HM.out; omega)
        have HPJ := Lib.hid hpj
        have hsp := HSX.out p hpm
        obtain ⟨b2, off2, cs, Fp, rfl, hbl2, hc, _, hP⟩ := (HRW.out.below hji.out.2.2).cells hpj 3 rfl
        have HP := Lib.hid hP
        obtain ⟨P1, q1, rfl, hp1⟩ := hP
        have a0 : wr.cell? ⟨b2, off2 + j * 3, none⟩ = some (.int .i64 p.r) := hc 0 (by omega)
        have a1 : wr.cell? ⟨b2, off2 + j * 3 + 1, none⟩ = some (.int .i64 p.c) := hc 1 (by omega)
        have a2 : wr.cell? ⟨b2, off2 + j * 3 + 2, none⟩ = some (.slice P1 p.v.length q1) := hc 2 (by omega)
        have j0 : (0 : Int) ≤ (j : Int) := by omega
        have j1 : (j : Int) < (m : Int) := by omega
        clear hc hpj hpm hp1
        obtain ⟨hB1, ⟨css, FI, hoxI⟩, hB3⟩ := hji.out
        have HBK := Lib.hid hB1
        have HOXI := Lib.hid hoxI
        have HB3 := Lib.hid hB3
        have hcs := hoxI.cap_le
        clear hB1 hoxI hB3
        obtain ⟨sj, hsj⟩ : ∃ sj, sj = (splMs (x.2.take j) s0).2 := ⟨_, rfl⟩
        rw [← hsj]
        have HSJ := Lib.hid hsj
        clear hsj
        go_wp2_with fail
        refine (s_SplitMatrix wr _ p _ HP.out hsp sj).mono ?_
        rintro e w4 ⟨ds, G, rfl, hQ, hG, hb4⟩
        have HQ := Lib.hid hQ
        obtain ⟨Ba, da, Bb, db, Ga, Gb, rfl, hn1, hn2, _⟩ := hQ
        obtain ⟨pp, hpp⟩ : ∃ pp, pp = splM p sj := ⟨_, rfl⟩
        rw [← hpp] at HQ
        rw [← hpp]
        have HPP := Lib.hid hpp
        have HG := Lib.hid hG
        have HB4 := Lib.hid hb4
        have h4 : wr.heap.size ≤ w4.heap.size := hb4.size
        have cl4 : w4.cell? ⟨wo.heap.size, 1, none⟩ = some (.slice AI j cI) := (HBK.out.below' hb4).cell 1
        have zl4 : wo.heap.size < w4.heap.size := by omega
        clear hG hb4 hpp hn1 hn2
        go_wp2_with (at_builtin; refine wpList_append_lies _ rfl _ _ 53 rfl (wo.heap.size + 1) 64 i0 (.agg #[.int .i64 0, .int .i64 0, .slice none 0 0, .int .i64 0, .int .i64 0, .slice none 0 0]) 6 80 Try.underlying53 hi hz0 hz1 hz2 rfl (by decide) (.slice AI j cI) j _ rfl (World.ownsRow.alloc (World.ownsRow.alloc (HOXI.out.below HB4.out).1 _) _) ⟨w4.heap.size + 1, 0, none⟩ 1 1 [.int .i64 pp.1.1.r, .int .i64 pp.1.1.c, .slice Ba pp.1.1.v.length da, .int .i64 pp.1.2.r, .int .i64 pp.1.2.c, .slice Bb pp.1.2.v.length db] rfl rfl ?c1 ?c2 ?c3 ?c4 ?c5 ?c6 (w4.heap.size + 1 + 1) ?c7 ?_)
        case c1 =>
          have h := cells_new (w4.alloc (.cells #[.int .i64 pp.1.1.r, .int .i64 pp.1.1.c, .slice Ba pp.1.1.v.length da, .int .i64 pp.1.2.r, .int .i64 pp.1.2.c, .slice Bb pp.1.2.v.length db] 64)) 64 [.int .i64 pp.1.1.r, .int .i64 pp.1.1.c, .slice Ba pp.1.1.v.length da, .int .i64 pp.1.2.r, .int .i64 pp.1.2.c, .slice Bb pp.1.2.v.length db]
          rw [World.size_alloc] at h
          exact h
        case c2 => intro u hu; simp at hu; rcases hu with rfl | rfl | rfl | rfl | rfl | rfl <;> rfl
        case c3 => omega
        case c4 => unfold maxLen; omega
        case c5 => omega
        case c6 => simp; omega
        case c7 => simp
        intro g cap5 w5 hown hgrow hat hlt5
        have hNI := NI.next (ms := x.2) (s := s0) (m := p) HBK.out HOXI.out HB3.out HB4.out HPJ.out (by rw [← HSJ.out, ← HPP.out]; exact HQ.out) HG.out hown hgrow (hat.imp id (fun h => by rw [World.size_alloc]; exact h))
        have K0 : w5.cell? ⟨wo.heap.size, 1, none⟩ = some (.slice AI j cI) := hNI.1.cell 1
        have K1 : w5.frozen? ⟨wo.heap.size, 1, none⟩ = false := hNI.1.frozen 1
        have K2 := Lib.hid hNI.2
        have k3 : pp.2 = (splMs (x.2.take (j + 1)) s0).2 := by rw [HPP.out, HSJ.out, take_push HPJ.out, splMs_snoc]
        have K3 := Lib.hid k3
        clear k3
        clear hNI hown hgrow hat HOXI HQ HG HB4 HBK
        go_wp2
        go_roundw
        case rel => exact ⟨j + 1, cap5, some ⟨g, 0, none⟩, by omega, by go_num, by rw [K3.out], K2⟩
        case measure => simp [intOf]; omega
      · obtain rfl : j = m := by omega
        obtain ⟨hB1, ⟨css, FI, hoxI⟩, hB3⟩ := hji.out
        rw [List.take_of_length_le (by rw [HM.out]; exact Nat.le_refl _)] at hoxI
        obtain ⟨F2, hr2, hf2⟩ := hoxI.ri
        have HB3 := Lib.hid hB3
        have HR2 := Lib.hid hr2
        have HF2 := Lib.hid hf2
        have HBW : Hid (Below w.heap.size w wr) := hob.out.trans (hB3.mono hob.out.size)
        clear hB1 hoxI hB3 hr2 hf2 hji
        obtain ⟨cssO, FO, hoxO⟩ := hox.out
        have HOXO := Lib.hid (hoxO.below HB3.out)
        have hml : (splMs x.2 s0).1.length = j := by rw [splMs_len, HM.out]
        have HQ : Hid ((kE smE).P wr [.int .i64 x.1, .slice AI j cI] (splL x s0).1 F2) := ⟨AI, cI, by simp [splL, hml], by have := HR2.out; simpa [splL, hml] using this⟩
        have HG : Hid (Fr wr w1.heap.size F2) := HF2.out.mono (by omega)
        have HD : Hid (∀ g, g ∈ F2 → g ∉ FO ∧ blk A' ≠ some g) := fun g hg => ⟨fun h => by have := hoxO.lt g h; have := (HF2.out.2 g hg).1; omega, fun h => by have := (hoxO.blk_lt g h).2; have := (HF2.out.2 g hg).1; omega⟩
        clear hoxO hox hml
        have hcq : q ≤ 4 := by omega
        go_wp2_with (at_builtin; refine wpList_append_lies _ rfl _ _ 27 rfl w1.heap.size 55 i2 (.agg #[.int .i64 0, .slice none 0 0]) 2 32 Try.underlying27 hi2 hy0 hy1 hy2 rfl (by decide) (.slice A' q cA) q _ rfl (World.ownsRow.alloc HOXO.out.1 _) ⟨wr.heap.size, 0, none⟩ 1 1 [.int .i64 x.1, .slice AI j cI] rfl rfl ?c1 ?c2 ?c3 ?c4 ?c5 ?c6 (wr.heap.size + 1) ?c7 ?_)
        case c1 => exact cells_new wr _ _
        case c2 => intro u hu; simp at hu; rcases hu with rfl | rfl <;> rfl
        case c3 => omega
        case c4 => unfold maxLen; omega
        case c5 => omega
        case c6 => simp; omega
        case c7 => simp
        intro g cap6 w6 hown hgrow hat hlt6
        obtain ⟨r1, r2, r3⟩ := OX.push HOXO.out HQ.out HG.out HD.out HBW.out hw1 (by omega) hown hgrow hat
        have he : (splNs (net.take (q + 1)) s) = ((splNs (net.take q) s).1 ++ [(splL x s0).1], (splL x s0).2) := by rw [take_push HXK.out, splNs_snoc, ← HS0.out]
        have K1 : Hid (∃ css F', OX (kE smE) w6 w1.heap.size 55 (some ⟨g, 0, none⟩) (q + 1) cap6 css (splNs (net.take (q + 1)) s).1 F') := by rw [he]; exact ⟨_, _, r1⟩
        have K2 := Lib.hid r2
        have K3 : Hid (RI (kE mxE) w6 (some ⟨b, off, none⟩) k c1 net F1) := (hri.out.below HB3.out).keep fun g' hg' => r3.block g' ((hri.out.below HB3.out).lt g' hg') (fun e => by have := (HOXO.out.blk_lt g' e.symm).1; have := HLT.out g' hg'; omega)
        have k4 : (splMs (x.2.take j) s0).2 = (splNs (net.take (q + 1)) s).2 := by rw [he, List.take_of_length_le (by rw [HM.out]; exact Nat.le_refl _)]; rfl
        have K4 := Lib.hid k4
        clear k4
        have hw6 : w1.heap.size + 1 ≤ w6.heap.size := by have := r3.size; omega
        clear r1 r2 r3 he hown hgrow hat HOXO HQ HG HD HBW
        go_wp2
        go_roundw
        case rel => exact ⟨q + 1, cap6, _, by omega, by go_num, by rw [K4.out], rfl, K1, K3, K2, hw6⟩
        case measure => simp [intOf]; omega
    · obtain rfl : q = k := by omega
      obtain ⟨css, F', hox'⟩ := hox.out
      rw [List.take_of_length_le (by rw [HLN.out]; exact Nat.le_refl _), ← HEQ.out] at hox'
      have HSN : Hid (SN net s w (.returned (.tuple #[.slice A' q cA, .int .i64 (splNs (net.take q) s).2])) wo) := by
        refine ⟨A', q, cA, css, F', ?_, hox'.mono hw1, hob.out⟩
        rw [List.take_of_length_le (by rw [HLN.out]; exact Nat.le_refl _), HEQ.out]
      clear hox' hox
      go_wp2
      go_ret2
      exact HSN.out
end Go.Proofs.Ytkpmnfegdhfhcaa

/- Part of the proof that the law FnExactServiceRun of the given program returns true for every input. -/
import Derived.Below
import Derived.ChangeOld
import Derived.Deep.DeepHandedRow
import Derived.LaidMore
import Derived.Lib.LaidTab
import Derived.Lib.LaidU8
import Derived.Lib.SmallJoins
import Derived.OpenShut
import Derived.ProofKit
import Derived.Shelf.Vars
import Derived.ShutString
import Derived.Stop.LaidErr
import Derived.Test.YtjciicheoghcdaaGreatDoorCards
import Derived.Test.YtjciicheoghcdaaGreatDoorTie
import Derived.WalkKit
import Derived.Test.YtjciicheoghcdaaGreatDoorYD
import Derived.Test.YtjciicheoghcdaaGreatDoorYQ
namespace Go.Proofs.YtjciicheoghcdaaGreatDoor
open Go.RowKit
set_option linter.unusedSimpArgs false
set_option linter.unusedVariables false
set_option maxRecDepth 20000
set_option maxHeartbeats 16000000
end Go.Proofs.YtjciicheoghcdaaGreatDoor
namespace Go.Proofs.YtjciicheoghcdaaGreatDoor.fnExactServiceRun
open Go.ChangeShapes Go.WideShapes Go.ChangeAt Go.RowKit Go.Joins
open Go.ChangeMaps (open_string shut_string)
theorem own:ownKnob Tryz.prog.godebug=none:=by kernel_rfl
theorem laidOut:laidOutB Tryz.prog=true:=by kernel_rfl
theorem xF:Tryz.prog.cellsOf 43=2:=by kernel_rfl
noncomputable def pt (os:Os):World :=
 let w0:=World.doorLaid Tryz.prog 34 os
 { w0 with heap:=w0.heap.modify 2 fun
  | .cells _ t frozen=> .cells (Lib.firstTab.map fun z=>Value.int .u8 z).toArray t frozen
  | o=>o }
theorem wy (os:Os) (args:Array Value):laidMetH Tryz.prog Rows.fnExactServiceRunRow.laid ((pt os).forCall (fun _ _=>0) ⟨#[],args,[]⟩).memory :=
 laidMetH_of_parts3 (fuel:=8) (laidMet_of_run' 8 (by kernel_rfl) (by kernel_rfl)) (by kernel_rfl) (by kernel_rfl)
theorem gT:Tryz.prog.globalNamed "internal/strconv.uint64pow10" = some 1:=by kernel_rfl
theorem Ah:(Tryz.prog.globals[1]?).map (·.type)=some 281:=by kernel_rfl
set_option maxRecDepth 100000 in
theorem lifted (os:Os) (started:os.Started) (H:Type) (enc:TypeId×Value->H) (F:Stop.Interp) :
  ReturnsInHanded {} Tryz.checked os 5 .any ((OpenSpec.ofChange Rows.fnExactServiceRunSpec).preRow enc Tryz.prog Tryz.f5 Rows.fnExactServiceRunRow.domain false Rows.fnExactServiceRunRow.laid) (((OpenSpec.ofChange Rows.fnExactServiceRunSpec).at F).post enc Tryz.prog Tryz.f5 false true false false):=by
 refine returnsInHanded_of_row (C:=Tryz.checked) (s:=OpenSpec.ofChange Rows.fnExactServiceRunSpec) own started (by kernel_rfl) Tryz.func5
  (ChangeSpec.witness_shaped (enc:=enc) (C:=Tryz.checked) (os:=os) (X:=fun w _=>laidMetH Tryz.prog Rows.fnExactServiceRunRow.laid w) false (pt os) #[.agg #[.slice none 0 0,.int .i64 0],.slice none 0 0] 8 rfl (World.shaped_of_RefB (by kernel_rfl) (by kernel_rfl)) (by kernel_rfl) (by kernel_rfl) (by kernel_rfl) (wy os _)) ?_
 intro W base args ds gs before hval0 hW _ _ _ hL hsh _;rw [MakeChecks.laidMetH_plain _ _ _ (by kernel_rfl)] at hL
 have htab0:Lib.TabIs Tryz.prog W "internal/strconv.uint64pow10" .u64 Lib.pow10Tab:=Lib.tabIs_of_head gT Ah Tryz.underlying281 Tryz.underlying261 (by kernel_rfl) (by kernel_rfl) hL.tail.tail
 have htab:Tab W:=Tab.of gT htab0;have hmax:iD W:=iD.of hsh;have hval:∀ (j:Nat) t v,Tryz.f5.params[j]?=some t->args[j]?=some v->Value.okWide Tryz.prog W .any base t v:=hval0;have hW':=hW;obtain ⟨p,q,hA0,hV,rfl,hfz,hnd⟩:=hW;have hA:DataW.TrodAll enc Tryz.prog W 0 (fun _=>true) true Tryz.f5.params.toList args.toList ds p:=hA0
 rw [Tryz.params5] at hA hval;obtain ⟨v0,vs0,d0,ds0,p0,q0,hargs,rfl,rfl,h0,r0⟩:=trodAll_cons hA;obtain ⟨v1,vs1,d1,ds1,p1,q1,rfl,rfl,rfl,h1,r1⟩:=trodAll_cons r0;obtain ⟨rfl,rfl,rfl⟩:=trodAll_nil r1;obtain rfl:args=#[v0,v1]:=by cases args;simp_all
 obtain ⟨rfl,rfl⟩:=trodVars_none hV;have k0:=h0;have lt0:∀ x∈p0,x.block<W.heap.size:=by obtain ⟨m,hm⟩:=k0;exact DataW.trod_lt m _ _ _ hm
 obtain ⟨c0_0,c0_1,y0_0,y0_1,m0,rfl,_,_,hy0_0,hy0_1⟩:=open_agg2 Tryz.underlying43 (by kernel_rfl) xF (hval 0 43 v0 rfl rfl) h0
 obtain ⟨b0_1,e0_1,_,w0_1⟩:=DataW.trod_int Tryz.underlying3 hy0_1
 simp at e0_1;subst e0_1
 obtain ⟨a0,len0,cap0,z0,F0,e0_0,w0⟩:=uW _ _ _ _ _ _ _ _ _ hy0_0;subst e0_0;obtain rfl:len0=z0.length:=w0.1.symm;have k1:=h1;have lt1:∀ x∈p1,x.block<W.heap.size:=by obtain ⟨m,hm⟩:=k1;exact DataW.trod_lt m _ _ _ hm
 obtain ⟨a1,len1,cap1,rfl⟩:=okWide_slice Tryz.underlying48 (hval 1 48 v1 rfl rfl);obtain ⟨z1,F1,w1,x1⟩:∃ xs F,RI txE W a1 len1 cap1 xs F/\∀ x,x∈xs->x.length<=maxLen:=by obtain ⟨fuel,hf⟩:=h1;exact Dk (by simpa [Value.cells] using hf)
 obtain rfl:len1=z1.length:=w1.1.symm;clear hA0 hval0;refine (CS a0 cap0 (z0,b0_1) F0 a1 cap1 z1 F1 W htab hmax w0 w1 x1).mono fun e W' ⟨he,bel⟩=> ?_
 subst he
 exact ⟨_,rfl,_,_,_,[],_,[],hW',trodAll_mk1 (shut_bool Tryz.underlying4 _),(trodAll_cons_mk (Below.trod laidOut (by kernel_rfl) (of_decide_eq_true (by kernel_rfl)) k0 bel lt0) (trodAll_cons_mk (Below.trod laidOut (by kernel_rfl) (of_decide_eq_true (by kernel_rfl)) k1 bel lt1) trodAll_mk0)),rfl,bel.frame _,fun h=>by cases h⟩
end Go.Proofs.YtjciicheoghcdaaGreatDoor.fnExactServiceRun
namespace Go.Proofs.YtjciicheoghcdaaGreatDoor
open Go.RowKit
set_option linter.unusedSimpArgs false
set_option linter.unusedVariables false
set_option maxRecDepth 20000
set_option maxHeartbeats 16000000
end Go.Proofs.YtjciicheoghcdaaGreatDoor

/- Part of the proof: the law FnServiceRun is true for every input. -/
import Derived.Test.YtjciicheoghcdaaGreatDoorVE
namespace Go.Proofs.YtjciicheoghcdaaGreatDoor
open Go.RowKit
set_option linter.all false
set_option maxRecDepth 20000
set_option maxHeartbeats 16000000
end Go.Proofs.YtjciicheoghcdaaGreatDoor
namespace Go.Proofs.YtjciicheoghcdaaGreatDoor.fnServiceRun
set_option maxRecDepth 100000
set_option maxHeartbeats 16000000
open Go.ChangeShapes Go.WideShapes Go.ChangeAt Go.RowKit Go.Joins
open Go.ChangeMaps (open_string shut_string)
theorem facts:joinedFacts Tryz.pinned.checked.prog 7 Tryz.f7 (OpenSpec.ofChange Rows.fnServiceRunSpec).bare Rows.fnServiceRunRow=true:=by
 unfold joinedFacts;simp only[Bool.and_eq_true]
 repeat' apply And.intro
 all_goals (first|(as_aux_lemma=>kernel_rfl)|(as_aux_lemma=>exact of_decide_eq_true (by kernel_rfl)))
end Go.Proofs.YtjciicheoghcdaaGreatDoor.fnServiceRun
namespace Go.Proofs.YtjciicheoghcdaaGreatDoor
open Go.RowKit
set_option linter.all false
set_option maxRecDepth 20000
set_option maxHeartbeats 16000000
end Go.Proofs.YtjciicheoghcdaaGreatDoor

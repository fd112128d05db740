/- Part of the proof of FnServiceAnswer. -/
import Derived.Test.YtjciicheoghcdaaGreatDoorUE
namespace Go.Proofs.YtjciicheoghcdaaGreatDoor
open Go.RowKit
set_option linter.all false
set_option maxRecDepth 20000
set_option maxHeartbeats 16000000
end Go.Proofs.YtjciicheoghcdaaGreatDoor
namespace Go.Proofs.YtjciicheoghcdaaGreatDoor.fnServiceAnswer
set_option maxRecDepth 100000
set_option maxHeartbeats 16000000
open Go.ChangeShapes Go.WideShapes Go.ChangeAt Go.RowKit Go.Joins
open Go.ChangeMaps (open_string shut_string)
theorem facts:joinedFacts Tryz.pinned.checked.prog 3 Tryz.f3 (OpenSpec.ofChange Rows.fnServiceAnswerSpec).bare Rows.fnServiceAnswerRow=true:=by
 unfold joinedFacts;simp only[Bool.and_eq_true]
 repeat' apply And.intro
 all_goals (first|(as_aux_lemma=>kernel_rfl)|(as_aux_lemma=>exact of_decide_eq_true (by kernel_rfl)))
end Go.Proofs.YtjciicheoghcdaaGreatDoor.fnServiceAnswer
namespace Go.Proofs.YtjciicheoghcdaaGreatDoor
open Go.RowKit
set_option linter.all false
set_option maxRecDepth 20000
set_option maxHeartbeats 16000000
end Go.Proofs.YtjciicheoghcdaaGreatDoor

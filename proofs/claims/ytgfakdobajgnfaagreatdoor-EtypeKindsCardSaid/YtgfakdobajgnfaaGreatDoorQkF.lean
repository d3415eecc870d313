/- EtypeKinds: closed facts of its row. -/
import Derived.Test.YtgfakdobajgnfaaGreatDoorRows
import Derived.Test.YtgfakdobajgnfaaGreatDoorTie
import Derived.SevenTiedAt
import Derived.JoinedOf
set_option maxRecDepth 100000
set_option maxHeartbeats 16000000
namespace Go.Proofs.YtgfakdobajgnfaaGreatDoor.etypeKinds
theorem fI:(Rows.etypeKindsRow.inPlace==Tryz.checked.prog.inPlace 12)=true:=by kernel_rfl
theorem fU:(Rows.etypeKindsRow.unfollowed==Tryz.checked.prog.unfollowed 12)=true:=by kernel_rfl
theorem fC:(Rows.etypeKindsRow.recurses==Tryz.checked.prog.recurses 12)=true:=by kernel_rfl
theorem fV:(Rows.etypeKindsRow.named==Tryz.checked.prog.varsNamed 12)=true:=by kernel_rfl
theorem closed:joinedFacts Tryz.checked.prog 12 Tryz.f12 Rows.etypeKindsSpec Rows.etypeKindsRow=true:=by
 simp only[joinedFacts,Bool.and_eq_true]
 and_intros
 all_goals first|with_reducible exact fI|with_reducible exact fU|with_reducible exact fC|with_reducible exact fV|kernel_rfl
end Go.Proofs.YtgfakdobajgnfaaGreatDoor.etypeKinds

/- EtypePairs: closed facts of its row. -/
import Derived.Test.YtmpfilddeglgbaaGreatDoorRows
import Derived.Test.YtmpfilddeglgbaaGreatDoorTie
import Derived.SevenTiedAt
import Derived.JoinedOf
set_option maxRecDepth 100000
set_option maxHeartbeats 16000000
namespace Go.Proofs.YtmpfilddeglgbaaGreatDoor.etypePairs
theorem fI:(Rows.etypePairsRow.inPlace==Tryz.checked.prog.inPlace 5)=true:=by kernel_rfl
theorem fU:(Rows.etypePairsRow.unfollowed==Tryz.checked.prog.unfollowed 5)=true:=by kernel_rfl
theorem fC:(Rows.etypePairsRow.recurses==Tryz.checked.prog.recurses 5)=true:=by kernel_rfl
theorem fV:(Rows.etypePairsRow.named==Tryz.checked.prog.varsNamed 5)=true:=by kernel_rfl
theorem closed:joinedFacts Tryz.checked.prog 5 Tryz.f5 Rows.etypePairsSpec Rows.etypePairsRow=true:=by
 simp only[joinedFacts,Bool.and_eq_true]
 and_intros
 all_goals first|with_reducible exact fI|with_reducible exact fU|with_reducible exact fC|with_reducible exact fV|kernel_rfl
end Go.Proofs.YtmpfilddeglgbaaGreatDoor.etypePairs

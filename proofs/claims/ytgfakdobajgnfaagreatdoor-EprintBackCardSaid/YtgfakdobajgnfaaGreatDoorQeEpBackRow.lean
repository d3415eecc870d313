/- EprintBack. -/
import Derived.Test.YtgfakdobajgnfaaGreatDoorCards
import Derived.Test.YtgfakdobajgnfaaGreatDoorTie
import Derived.Test.YtgfakdobajgnfaaGreatDoorQe34
import Derived.Test.YtgfakdobajgnfaaGreatDoorQe33
set_option maxRecDepth 100000
set_option maxHeartbeats 16000000
namespace Go.Proofs.YtgfakdobajgnfaaGreatDoor.eprintBack
open Go.ChangeShapes Go.WideShapes Go.ChangeAt Go.RowKit Go.Lib Go.ChangeMaps
abbrev laidL:List (String×DataW Unit):=Rows.eprintBackRow.laid
theorem lifted (os:Os)(started:os.Started)(H:Type)(enc:TypeId×Value->H):
 ReturnsInHanded {} Tryz.checked os 6 .any (fun w args=>(Rows.eprintBackSpec.pre enc Tryz.prog Tryz.f6 [] false w args/\laidMetH Tryz.prog laidL w)/\sizedMet enc Tryz.prog Tryz.f6 (OpenSpec.ofChange Rows.eprintBackSpec) false w args)
  (Rows.eprintBackSpec.post enc Tryz.prog Tryz.f6 false true false false):=by
 refine Mx (C:=Tryz.checked) (X:=fun w _=>laidMetH Tryz.prog laidL w) (fun _ _ _ hh h=>h.of_heap hh) own started qZ Tryz.func6
  (ChangeSpec.witness_shaped (enc:=enc) (C:=Tryz.checked) (os:=os) (X:=fun w _=>laidMetH Tryz.prog laidL w) false (World.laidAll Tryz.prog os laidL) #[.string ⟨#[]⟩,.int .i64 0] 8 (World.laidAll_os _ _ _)
   (World.shaped_of_ZipB qZ qZ) qZ qZ qZ
   sA) ?_
 intro W base args ds gs before hval0 hW hsh hL;rw[MakeChecks.laidMetH_plain _ _ _ qZ] at hL;have hR:Rd W:=lH hL hsh (.tail _ (.tail _ (.head _))) (.tail _ (.tail _ (.tail _ (.tail _ (.head _))))) (.tail _ (.tail _ (.tail _ (.tail _ (.tail _ (.head _))))))
 have hval:∀(j:Nat) t v,Tryz.f6.params[j]? =some t->args[j]? =some v->Value.okWide Tryz.prog W .any base t v:=hval0
 have hW':=hW;obtain⟨p,q,hA0,hV,rfl,_,_⟩:=hW
 have hA:DataW.TrodAll enc Tryz.prog W 0 (fun _=>true) true Tryz.f6.params.toList args.toList ds p:=hA0
 have hA1:=hA;rw[Tryz.params6] at hA hval;obtain⟨v0,vs0,d0,ds0,p0,q0,hargs,rfl,rfl,h0,r0⟩:=trodAll_cons hA;obtain⟨v1,vs1,d1,ds1,p1,q1,rfl,rfl,rfl,h1,r1⟩:=trodAll_cons r0;obtain⟨rfl,rfl,rfl⟩:=trodAll_nil r1
 obtain rfl:args= #[v0,v1]:=by cases args;simp_all
 obtain⟨rfl,rfl⟩:=trodVars_none hV;obtain⟨s0,rfl,rfl,rfl,z0⟩:=open_string Tryz.underlying9 (hval 0 9 v0 rfl rfl) h0;obtain⟨a1,rfl,rfl,rfl,w1⟩:=open_int Tryz.underlying3 (hval 1 3 v1 rfl rfl) h1
 refine(aL s0 a1 W hR).mono fun e W' ⟨he,hg⟩=>?_
 subst he
 exact⟨_,rfl,K4 (pv:=[]) hW' (fun _ _ _=>trodAll_cons_mk (shut_bool Tryz.underlying4 _) trodAll_mk0)
  (fun sp hs=>Iu kY hg (by rw[Tryz.params6];intro t ht;simp only[List.mem_cons,List.not_mem_nil,or_false] at ht;rcases ht with rfl|rfl<;>exact⟨by kernel_rfl,of_decide_eq_true qZ⟩) hA1 (fun x hx=>⟨hW'.lt x (List.mem_append_left _ hx),hs x (List.mem_append_left _ hx)⟩))
  (fun _ _=>rfl) rfl hg (ok_one qZ rfl (okWide_bool_mk Tryz.underlying4 _))⟩
theorem holds:Rows.EprintBackSaid:=
 OpenClaim.holds_of_wide 6 Tryz.f6 rfl rfl rfl rfl rfl rfl rfl ⟨rfl,rfl,rfl,rfl,rfl⟩ rfl rfl rfl rfl rfl qZ Tryz.func6 qZ
  (of_decide_eq_true qZ) (by unfold Func.isWrapper;first|(rw[if_pos uA];kernel_rfl)|(rw[if_neg uA];exact⟨rfl,rfl⟩))
  (fun os started H enc _=>lifted os started H enc)
theorem proved:Rows.EprintBackCardSaid:=
 Claim7.holds_tied_plain_at .later [] [.data,.data,.data,.data,.sentinel,.sentinel,.pinned] true Rows.eprintBackCard.stood.harness true
  holds (fun _ h=>by cases h) qZ (fun _ h=>by cases h) eprintBack_row_tie rfl ⟨rfl,rfl⟩ qZ rfl
  (fun f fn hf hfn=>by
   obtain rfl:f=6:=Option.some.inj ((show Tryz.prog.funcNamed "witan/witanlaw08.EprintBack" =some 6 by kernel_rfl).symm.trans hf)|>.symm
   obtain rfl:fn=Tryz.f6:=(Option.some.inj (Tryz.func6.symm.trans hfn)).symm
   exact⟨by kernel_rfl,fun j t ht=>by
    rw[Tryz.params6] at ht
    exact zx3⟩)
  qZ
#print axioms proved
end Go.Proofs.YtgfakdobajgnfaaGreatDoor.eprintBack

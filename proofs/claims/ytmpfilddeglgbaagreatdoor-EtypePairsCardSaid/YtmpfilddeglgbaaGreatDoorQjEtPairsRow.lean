/- EtypePairs: of two texts that have kinds: their sum has the kind that the table says, or is ErrKind; so have one of both by a truth, and whether both are the same. For every argument; the library's listed tables as the program's text lays them. -/
import Derived.Test.YtmpfilddeglgbaaGreatDoorCards
import Derived.Test.YtmpfilddeglgbaaGreatDoorTie
import Derived.Test.YtmpfilddeglgbaaGreatDoorQj34
import Derived.Test.YtmpfilddeglgbaaGreatDoorQjF
set_option maxRecDepth 100000
set_option maxHeartbeats 16000000
namespace Go.Proofs.YtmpfilddeglgbaaGreatDoor.etypePairs
open Go.ChangeShapes Go.WideShapes Go.ChangeAt Go.RowKit Go.Lib Go.ChangeMaps
abbrev laidL:List (String×DataW Unit):=Rows.etypePairsRow.laid
theorem lifted (os:Os)(started:os.Started)(H:Type)(enc:TypeId×Value->H):
 ReturnsInHanded {} Tryz.checked os 5 .any (fun w args=>(Rows.etypePairsSpec.pre enc Tryz.prog Tryz.f5 [] false w args/\laidMetH Tryz.prog laidL w)/\sizedMet enc Tryz.prog Tryz.f5 (OpenSpec.ofChange Rows.etypePairsSpec) false w args)
  (Rows.etypePairsSpec.post enc Tryz.prog Tryz.f5 false true false false):=by
 refine Y3 (C:=Tryz.checked) (X:=fun w _=>laidMetH Tryz.prog laidL w) (fun _ _ _ hh h=>h.of_heap hh) own started tF Tryz.func5
  (ChangeSpec.witness_shaped (enc:=enc) (C:=Tryz.checked) (os:=os) (X:=fun w _=>laidMetH Tryz.prog laidL w) false (World.laidAll Tryz.prog os laidL) #[.string ⟨#[]⟩,.string ⟨#[]⟩,.agg #[.slice none 0 0,.int .u8 0]] 8 (World.laidAll_os _ _ _)
   (World.shaped_of_ZipB tF tF) tF tF tF
   (by rw[MakeChecks.laidMetH_plain _ _ _ tF];exact laidMet_laidAll _ tF tF)) ?_
 intro W base args ds gs before hval0 hW hsh hL;rw[MakeChecks.laidMetH_plain _ _ _ tF] at hL;have hR:Rd W:=sM hL hsh (.tail _ (.tail _ (.head _))) (.tail _ (.tail _ (.tail _ (.tail _ (.head _))))) (.tail _ (.tail _ (.tail _ (.tail _ (.tail _ (.head _))))));have hval:∀(j:Nat) t v,Tryz.f5.params[j]? =some t->args[j]? =some v->Value.okWide Tryz.prog W .any base t v:=hval0;have hW':=hW;obtain⟨p,q,hA0,hV,rfl,_,_⟩:=hW;have hA:DataW.TrodAll enc Tryz.prog W 0 (fun _=>true) true Tryz.f5.params.toList args.toList ds p:=hA0;have hA1:=hA;rw[Tryz.params5] at hA hval;obtain⟨v0,vs0,d0,ds0,p0,q0,hargs,rfl,rfl,h0,r0⟩:=trodAll_cons hA;obtain⟨v1,vs1,d1,ds1,p1,q1,rfl,rfl,rfl,h1,r1⟩:=trodAll_cons r0;obtain⟨v2,vs2,d2,ds2,p2,q2,rfl,rfl,rfl,h2,r2⟩:=trodAll_cons r1;obtain⟨rfl,rfl,rfl⟩:=trodAll_nil r2;obtain rfl:args= #[v0,v1,v2]:=by cases args;simp_all
 obtain⟨rfl,rfl⟩:=trodVars_none hV;obtain⟨s0,rfl,rfl,rfl,z0⟩:=open_string Tryz.underlying9 (hval 0 9 v0 rfl rfl) h0;obtain⟨s1,rfl,rfl,rfl,z1⟩:=open_string Tryz.underlying9 (hval 1 9 v1 rfl rfl) h1;obtain⟨sa,vars,sc,sf,rfl,hsf,hS⟩:=cQ (hval 2 45 v2 rfl rfl) h2;refine(aM (s:=s0) (t:=s1) hsf.1 W hS hR).mono fun e W' ⟨he,hg⟩=>?_
 subst he
 exact⟨_,rfl,Uo (pv:=[]) hW' (fun _ _ _=>trodAll_cons_mk (shut_bool Tryz.underlying4 _) trodAll_mk0)
  (fun sp hs=>Oa sW hg (by rw[Tryz.params5];intro t ht;simp only[List.mem_cons,List.not_mem_nil,or_false] at ht;rcases ht with rfl|rfl|rfl<;>exact⟨by kernel_rfl,of_decide_eq_true tF⟩) hA1 (fun x hx=>⟨hW'.lt x (List.mem_append_left _ hx),hs x (List.mem_append_left _ hx)⟩))
  (fun _ _=>rfl) rfl hg (ok_one tF rfl (okWide_bool_mk Tryz.underlying4 _))⟩
theorem holds:Rows.EtypePairsSaid:=
 OpenClaim.holds_of_wide 5 Tryz.f5 rfl rfl rfl rfl rfl rfl rfl ⟨rfl,rfl,rfl,rfl,rfl⟩ rfl rfl rfl rfl rfl tF Tryz.func5 closed
  (of_decide_eq_true tF) (by unfold Func.isWrapper;first|(rw[Ap (by decide+kernel)];kernel_rfl)|(rw[Ao (by decide+kernel)];exact⟨rfl,rfl⟩))
  (fun os started H enc _=>lifted os started H enc)
theorem proved:Rows.EtypePairsCardSaid:=
 Claim7.holds_tied_plain_at .later [] [.data,.data,.data,.data,.sentinel,.sentinel,.pinned] true Rows.etypePairsCard.stood.harness true
  holds (fun _ h=>by cases h) tF (fun _ h=>by cases h) etypePairs_row_tie rfl ⟨rfl,rfl⟩ tF rfl
  (fun f fn hf hfn=>by
   obtain rfl:f=5:=Option.some.inj ((show Tryz.prog.funcNamed "witan/witanlaw09.EtypePairs" =some 5 by kernel_rfl).symm.trans hf)|>.symm;obtain rfl:fn=Tryz.f5:=(Option.some.inj (Tryz.func5.symm.trans hfn)).symm
   exact⟨by kernel_rfl,fun j t ht=>by
    rw[Tryz.params5] at ht;have hm:t∈[9,9,45]:=by have:=Array.mem_of_getElem? ht;simpa using this
    have hall:([9,9,45].all fun u=>!Tryz.prog.wantsStandIn u)=true:=by kernel_rfl
    exact(show Tryz.prog.wantsStandIn t=false by simpa using List.all_eq_true.1 hall t hm)⟩)
  tF
#print axioms proved
end Go.Proofs.YtmpfilddeglgbaaGreatDoor.etypePairs

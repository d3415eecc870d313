/- EprintTexts: the text of any nodes, or that they are no expression, and any op's sign, are the document's; nodes stay. For every argument; the library's listed tables as the program's text lays them. -/
import Derived.Test.YtgfakdobajgnfaaGreatDoorCards
import Derived.Test.YtgfakdobajgnfaaGreatDoorTie
import Derived.Test.YtgfakdobajgnfaaGreatDoorQt36
set_option maxRecDepth 100000
set_option maxHeartbeats 16000000
namespace Go.Proofs.YtgfakdobajgnfaaGreatDoor.eprintTexts
open Go.ChangeShapes Go.WideShapes Go.ChangeAt Go.RowKit Go.Lib Go.ChangeMaps
abbrev laidL:List (String×DataW Unit):=Rows.eprintTextsRow.laid
theorem lifted (os:Os)(started:os.Started)(H:Type)(enc:TypeId×Value->H):
 ReturnsInHanded {} Tryz.checked os 8 .any (fun w args=>(Rows.eprintTextsSpec.pre enc Tryz.prog Tryz.f8 [] false w args/\laidMetH Tryz.prog laidL w)/\sizedMet enc Tryz.prog Tryz.f8 (OpenSpec.ofChange Rows.eprintTextsSpec) false w args)
  (Rows.eprintTextsSpec.post enc Tryz.prog Tryz.f8 false true false false):=by
 refine Vh (C:=Tryz.checked) (X:=fun w _=>laidMetH Tryz.prog laidL w) (fun _ _ _ hh h=>h.of_heap hh) own started qN Tryz.func8
  (ChangeSpec.witness_shaped (enc:=enc) (C:=Tryz.checked) (os:=os) (X:=fun w _=>laidMetH Tryz.prog laidL w) false (World.laidAll Tryz.prog os laidL) #[.slice none 0 0,.int .u8 0] 8 (World.laidAll_os _ _ _)
   (World.shaped_of_ZipB qN qN) qN qN qN
   (by rw[MakeChecks.laidMetH_plain _ _ _ qN];exact laidMet_laidAll _ qN qN)) ?_
 intro W base args ds gs before hval0 hW hsh hL hwt;rw[MakeChecks.laidMetH_plain _ _ _ qN] at hL;have hR:Rd W:=pY hL hsh (.tail _ (.tail _ (.head _))) (.tail _ (.tail _ (.tail _ (.tail _ (.head _))))) (.tail _ (.tail _ (.tail _ (.tail _ (.tail _ (.head _))))));have hval:∀(j:Nat) t v,Tryz.f8.params[j]? =some t->args[j]? =some v->Value.okWide Tryz.prog W .any base t v:=hval0;have hW':=hW;obtain⟨p,q,hA0,hV,rfl,_,_⟩:=hW;have hA:DataW.TrodAll enc Tryz.prog W 0 (fun _=>true) true Tryz.f8.params.toList args.toList ds p:=hA0;have hA1:=hA;rw[Tryz.params8] at hA hval;obtain⟨v0,vs0,d0,ds0,p0,q0,hargs,rfl,rfl,h0,r0⟩:=trodAll_cons hA;obtain⟨v1,vs1,d1,ds1,p1,q1,rfl,rfl,rfl,h1,r1⟩:=trodAll_cons r0;obtain⟨rfl,rfl,rfl⟩:=trodAll_nil r1;obtain rfl:args= #[v0,v1]:=by cases args;simp_all
 obtain⟨rfl,rfl⟩:=trodVars_none hV;obtain⟨l0,hl0⟩:=fV (hval 0 31 v0 rfl rfl) h0 (hwt 0 31 _ (by rw[Tryz.params8];rfl) rfl);obtain⟨a1,rfl,rfl,rfl,w1⟩:=open_int Tryz.underlying5 (hval 1 5 v1 rfl rfl) h1;refine(Zo v0 l0 a1 (pD w1).1 W hl0 hR).mono fun e W' ⟨he,hg⟩=>?_
 subst he
 exact⟨_,rfl,Tn (pv:=[]) hW' (fun _ _ _=>trodAll_cons_mk (shut_bool Tryz.underlying4 _) trodAll_mk0)
  (fun sp hs=>Nn qF hg (by rw[Tryz.params8];intro t ht;simp only[List.mem_cons,List.not_mem_nil,or_false] at ht;rcases ht with rfl|rfl<;>exact⟨by kernel_rfl,of_decide_eq_true qN⟩) hA1 (fun x hx=>⟨hW'.lt x (List.mem_append_left _ hx),hs x (List.mem_append_left _ hx)⟩))
  (fun _ _=>rfl) rfl hg (ok_one qN rfl (okWide_bool_mk Tryz.underlying4 _))⟩
theorem holds:Rows.EprintTextsSaid:=
 OpenClaim.holds_of_wide 8 Tryz.f8 rfl rfl rfl rfl rfl rfl rfl ⟨rfl,rfl,rfl,rfl,rfl⟩ rfl rfl rfl rfl rfl qN Tryz.func8 qN
  (of_decide_eq_true qN) (by unfold Func.isWrapper;first|(rw[Ap (by decide+kernel)];kernel_rfl)|(rw[Ao (by decide+kernel)];exact⟨rfl,rfl⟩))
  (fun os started H enc _=>lifted os started H enc)
theorem proved:Rows.EprintTextsCardSaid:=
 Claim7.holds_tied_plain_at .later [] [.data,.data,.data,.data,.sentinel,.sentinel,.pinned] true Rows.eprintTextsCard.stood.harness true
  holds (fun _ h=>by cases h) qN (fun _ h=>by cases h) eprintTexts_row_tie rfl ⟨rfl,rfl⟩ qN rfl
  (fun f fn hf hfn=>by
   obtain rfl:f=8:=Option.some.inj ((show Tryz.prog.funcNamed "witan/witanlaw08.EprintTexts" =some 8 by kernel_rfl).symm.trans hf)|>.symm;obtain rfl:fn=Tryz.f8:=(Option.some.inj (Tryz.func8.symm.trans hfn)).symm
   exact⟨by kernel_rfl,fun j t ht=>by
    rw[Tryz.params8] at ht;have hm:t∈[31,5]:=by simpa using Array.mem_of_getElem? ht
    have hall:([31,5].all fun u=>!Tryz.prog.wantsStandIn u)=true:=by kernel_rfl
    exact(show Tryz.prog.wantsStandIn t=false by simpa using List.all_eq_true.1 hall t hm)⟩)
  qN
#print axioms proved
end Go.Proofs.YtgfakdobajgnfaaGreatDoor.eprintTexts

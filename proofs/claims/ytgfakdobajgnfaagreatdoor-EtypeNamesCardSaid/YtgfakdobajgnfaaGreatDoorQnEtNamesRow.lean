/- EtypeNames: an expression's kind hangs on the variables that it names alone: one more of another name, ahead or behind, changes nothing; without one that it names it is ErrScope, or something ahead is wrong. For every argument; the library's listed tables as the program's text lays them. -/
import Derived.Test.YtgfakdobajgnfaaGreatDoorCards
import Derived.Test.YtgfakdobajgnfaaGreatDoorTie
import Derived.Test.YtgfakdobajgnfaaGreatDoorQn32
set_option maxRecDepth 100000
set_option maxHeartbeats 16000000
namespace Go.Proofs.YtgfakdobajgnfaaGreatDoor.etypeNames
open Go.ChangeShapes Go.WideShapes Go.ChangeAt Go.RowKit Go.Lib Go.ChangeMaps
abbrev laidL:List (String×DataW Unit):=Rows.etypeNamesRow.laid
theorem lifted (os:Os)(started:os.Started)(H:Type)(enc:TypeId×Value->H):
 ReturnsInHanded {} Tryz.checked os 13 .any (fun w args=>(Rows.etypeNamesSpec.pre enc Tryz.prog Tryz.f13 [] false w args/\laidMetH Tryz.prog laidL w)/\sizedMet enc Tryz.prog Tryz.f13 (OpenSpec.ofChange Rows.etypeNamesSpec) false w args)
  (Rows.etypeNamesSpec.post enc Tryz.prog Tryz.f13 false true false false):=by
 refine T8 (C:=Tryz.checked) (X:=fun w _=>laidMetH Tryz.prog laidL w) (fun _ _ _ hh h=>h.of_heap hh) own started nT Tryz.func13
  (ChangeSpec.witness_shaped (enc:=enc) (C:=Tryz.checked) (os:=os) (X:=fun w _=>laidMetH Tryz.prog laidL w) false (World.laidAll Tryz.prog os laidL) #[.slice none 0 0,.agg #[.slice none 0 0,.int .u8 0],.agg #[.string ⟨#[]⟩,.int .u8 0],.int .i64 0] 8 (World.laidAll_os _ _ _)
   (World.shaped_of_ZipB nT nT) nT nT nT
   (by rw[MakeChecks.laidMetH_plain _ _ _ nT];exact laidMet_laidAll _ nT nT)) ?_
 intro W base args ds gs before hval0 hW hsh hL hwt;rw[MakeChecks.laidMetH_plain _ _ _ nT] at hL;have hR:Rd W:=nD hL hsh (.tail _ (.tail _ (.head _))) (.tail _ (.tail _ (.tail _ (.tail _ (.head _))))) (.tail _ (.tail _ (.tail _ (.tail _ (.tail _ (.head _))))));have hval:∀(j:Nat) t v,Tryz.f13.params[j]? =some t->args[j]? =some v->Value.okWide Tryz.prog W .any base t v:=hval0;have hW':=hW;obtain⟨p,q,hA0,hV,rfl,_,_⟩:=hW;have hA:DataW.TrodAll enc Tryz.prog W 0 (fun _=>true) true Tryz.f13.params.toList args.toList ds p:=hA0;have hA1:=hA;rw[Tryz.params13] at hA hval;obtain⟨v0,vs0,d0,ds0,p0,q0,hargs,rfl,rfl,h0,r0⟩:=trodAll_cons hA;obtain⟨v1,vs1,d1,ds1,p1,q1,rfl,rfl,rfl,h1,r1⟩:=trodAll_cons r0;obtain⟨v2,vs2,d2,ds2,p2,q2,rfl,rfl,rfl,h2,r2⟩:=trodAll_cons r1;obtain⟨v3,vs3,d3,ds3,p3,q3,rfl,rfl,rfl,h3,r3⟩:=trodAll_cons r2;obtain⟨rfl,rfl,rfl⟩:=trodAll_nil r3;obtain rfl:args= #[v0,v1,v2,v3]:=by cases args;simp_all
 obtain⟨rfl,rfl⟩:=trodVars_none hV;obtain⟨l0,hl0⟩:=bL (hval 0 31 v0 rfl rfl) h0 (hwt 0 31 _ (by rw[Tryz.params13];rfl) rfl);obtain⟨sa,vars,sc,sf,rfl,hsf,hS⟩:=Xt (hval 1 59 v1 rfl rfl) h1;obtain⟨on,okd,rfl,hok⟩:=cU (hval 2 71 v2 rfl rfl) h2;obtain⟨a3,rfl,rfl,rfl,w3⟩:=open_int Tryz.underlying3 (hval 3 3 v3 rfl rfl) h3;refine(Yb hsf.1 hok.1 W hl0 hS hR).mono fun e W' ⟨he,hg⟩=>?_
 subst he
 exact⟨_,rfl,R4 (pv:=[]) hW' (fun _ _ _=>trodAll_cons_mk (shut_bool Tryz.underlying4 _) trodAll_mk0)
  (fun sp hs=>Lx nJ hg (by rw[Tryz.params13];intro t ht;simp only[List.mem_cons,List.not_mem_nil,or_false] at ht;rcases ht with rfl|rfl|rfl|rfl<;>exact⟨by kernel_rfl,of_decide_eq_true nT⟩) hA1 (fun x hx=>⟨hW'.lt x (List.mem_append_left _ hx),hs x (List.mem_append_left _ hx)⟩))
  (fun _ _=>rfl) rfl hg (ok_one nT rfl (okWide_bool_mk Tryz.underlying4 _))⟩
theorem holds:Rows.EtypeNamesSaid:=
 OpenClaim.holds_of_wide 13 Tryz.f13 rfl rfl rfl rfl rfl rfl rfl ⟨rfl,rfl,rfl,rfl,rfl⟩ rfl rfl rfl rfl rfl nT Tryz.func13 nT
  (of_decide_eq_true nT) (by unfold Func.isWrapper;first|(rw[Ap (by decide+kernel)];kernel_rfl)|(rw[Ao (by decide+kernel)];exact⟨rfl,rfl⟩))
  (fun os started H enc _=>lifted os started H enc)
theorem proved:Rows.EtypeNamesCardSaid:=
 Claim7.holds_tied_plain_at .later [] [.data,.data,.data,.data,.sentinel,.sentinel,.pinned] true Rows.etypeNamesCard.stood.harness true
  holds (fun _ h=>by cases h) nT (fun _ h=>by cases h) etypeNames_row_tie rfl ⟨rfl,rfl⟩ nT rfl
  (fun f fn hf hfn=>by
   obtain rfl:f=13:=Option.some.inj ((show Tryz.prog.funcNamed "witan/witanlaw09.EtypeNames" =some 13 by kernel_rfl).symm.trans hf)|>.symm;obtain rfl:fn=Tryz.f13:=(Option.some.inj (Tryz.func13.symm.trans hfn)).symm
   exact⟨by kernel_rfl,fun j t ht=>by
    rw[Tryz.params13] at ht;have hm:t∈[31,59,71,3]:=by simpa using Array.mem_of_getElem? ht
    have hall:([31,59,71,3].all fun u=>!Tryz.prog.wantsStandIn u)=true:=by kernel_rfl
    exact(show Tryz.prog.wantsStandIn t=false by simpa using List.all_eq_true.1 hall t hm)⟩)
  nT
#print axioms proved
end Go.Proofs.YtgfakdobajgnfaaGreatDoor.etypeNames

/- EtypeSelf: the kind of an expression in which no self stands hangs on no self; one in which it stands is wrong without one. For every argument; the library's listed tables as the program's text lays them. -/
import Derived.Test.YtgfakdobajgnfaaGreatDoorCards
import Derived.Test.YtgfakdobajgnfaaGreatDoorTie
import Derived.Test.YtgfakdobajgnfaaGreatDoorQs31
set_option maxRecDepth 100000
set_option maxHeartbeats 16000000
namespace Go.Proofs.YtgfakdobajgnfaaGreatDoor.etypeSelf
open Go.ChangeShapes Go.WideShapes Go.ChangeAt Go.RowKit Go.Lib Go.ChangeMaps
abbrev laidL:List (String×DataW Unit):=Rows.etypeSelfRow.laid
theorem lifted (os:Os)(started:os.Started)(H:Type)(enc:TypeId×Value->H):
 ReturnsInHanded {} Tryz.checked os 11 .any (fun w args=>(Rows.etypeSelfSpec.pre enc Tryz.prog Tryz.f11 [] false w args/\laidMetH Tryz.prog laidL w)/\sizedMet enc Tryz.prog Tryz.f11 (OpenSpec.ofChange Rows.etypeSelfSpec) false w args)
  (Rows.etypeSelfSpec.post enc Tryz.prog Tryz.f11 false true false false):=by
 refine Tj (C:=Tryz.checked) (X:=fun w _=>laidMetH Tryz.prog laidL w) (fun _ _ _ hh h=>h.of_heap hh) own started mM Tryz.func11
  (ChangeSpec.witness_shaped (enc:=enc) (C:=Tryz.checked) (os:=os) (X:=fun w _=>laidMetH Tryz.prog laidL w) false (World.laidAll Tryz.prog os laidL) #[.slice none 0 0,.agg #[.slice none 0 0,.int .u8 0],.int .u8 0] 8 (World.laidAll_os _ _ _)
   (World.shaped_of_ZipB mM mM) mM mM mM
   (by rw[MakeChecks.laidMetH_plain _ _ _ mM];exact laidMet_laidAll _ mM mM)) ?_
 intro W base args ds gs before hval0 hW hsh hL hwt;rw[MakeChecks.laidMetH_plain _ _ _ mM] at hL;have hR:Rd W:=mG hL hsh (.tail _ (.tail _ (.head _))) (.tail _ (.tail _ (.tail _ (.tail _ (.head _))))) (.tail _ (.tail _ (.tail _ (.tail _ (.tail _ (.head _))))));have hval:∀(j:Nat) t v,Tryz.f11.params[j]? =some t->args[j]? =some v->Value.okWide Tryz.prog W .any base t v:=hval0;have hW':=hW;obtain⟨p,q,hA0,hV,rfl,_,_⟩:=hW;have hA:DataW.TrodAll enc Tryz.prog W 0 (fun _=>true) true Tryz.f11.params.toList args.toList ds p:=hA0;have hA1:=hA;rw[Tryz.params11] at hA hval;obtain⟨v0,vs0,d0,ds0,p0,q0,hargs,rfl,rfl,h0,r0⟩:=trodAll_cons hA;obtain⟨v1,vs1,d1,ds1,p1,q1,rfl,rfl,rfl,h1,r1⟩:=trodAll_cons r0;obtain⟨v2,vs2,d2,ds2,p2,q2,rfl,rfl,rfl,h2,r2⟩:=trodAll_cons r1;obtain⟨rfl,rfl,rfl⟩:=trodAll_nil r2;obtain rfl:args= #[v0,v1,v2]:=by cases args;simp_all
 obtain⟨rfl,rfl⟩:=trodVars_none hV;obtain⟨l0,hl0⟩:=aP (hval 0 31 v0 rfl rfl) h0 (hwt 0 31 _ (by rw[Tryz.params11];rfl) rfl);obtain⟨sa,vars,sc,sf,rfl,hsf,hS⟩:=Xh (hval 1 59 v1 rfl rfl) h1;obtain⟨a2,rfl,rfl,rfl,w2⟩:=open_int Tryz.underlying5 (hval 2 5 v2 rfl rfl) h2;refine(aV hsf.1 (gO w2).1 W hl0 hS hR).mono fun e W' ⟨he,hg⟩=>?_
 subst he
 exact⟨_,rfl,Ri (pv:=[]) hW' (fun _ _ _=>trodAll_cons_mk (shut_bool Tryz.underlying4 _) trodAll_mk0)
  (fun sp hs=>Li mC hg (by rw[Tryz.params11];intro t ht;simp only[List.mem_cons,List.not_mem_nil,or_false] at ht;rcases ht with rfl|rfl|rfl<;>exact⟨by kernel_rfl,of_decide_eq_true mM⟩) hA1 (fun x hx=>⟨hW'.lt x (List.mem_append_left _ hx),hs x (List.mem_append_left _ hx)⟩))
  (fun _ _=>rfl) rfl hg (ok_one mM rfl (okWide_bool_mk Tryz.underlying4 _))⟩
theorem holds:Rows.EtypeSelfSaid:=
 OpenClaim.holds_of_wide 11 Tryz.f11 rfl rfl rfl rfl rfl rfl rfl ⟨rfl,rfl,rfl,rfl,rfl⟩ rfl rfl rfl rfl rfl mM Tryz.func11 mM
  (of_decide_eq_true mM) (by unfold Func.isWrapper;first|(rw[Ap (by decide+kernel)];kernel_rfl)|(rw[Ao (by decide+kernel)];exact⟨rfl,rfl⟩))
  (fun os started H enc _=>lifted os started H enc)
theorem proved:Rows.EtypeSelfCardSaid:=
 Claim7.holds_tied_plain_at .later [] [.data,.data,.data,.data,.sentinel,.sentinel,.pinned] true Rows.etypeSelfCard.stood.harness true
  holds (fun _ h=>by cases h) mM (fun _ h=>by cases h) etypeSelf_row_tie rfl ⟨rfl,rfl⟩ mM rfl
  (fun f fn hf hfn=>by
   obtain rfl:f=11:=Option.some.inj ((show Tryz.prog.funcNamed "witan/witanlaw09.EtypeSelf" =some 11 by kernel_rfl).symm.trans hf)|>.symm;obtain rfl:fn=Tryz.f11:=(Option.some.inj (Tryz.func11.symm.trans hfn)).symm
   exact⟨by kernel_rfl,fun j t ht=>by
    rw[Tryz.params11] at ht;have hm:t∈[31,59,5]:=by simpa using Array.mem_of_getElem? ht
    have hall:([31,59,5].all fun u=>!Tryz.prog.wantsStandIn u)=true:=by kernel_rfl
    exact(show Tryz.prog.wantsStandIn t=false by simpa using List.all_eq_true.1 hall t hm)⟩)
  mM
#print axioms proved
end Go.Proofs.YtgfakdobajgnfaaGreatDoor.etypeSelf

/- EtypeKinds: the kind of any expression in any scope, or what is wrong, and where, and the names that it has, are the document's. For every argument; the library's listed tables as the program's text lays them. -/
import Derived.Test.YtgfakdobajgnfaaGreatDoorCards
import Derived.Test.YtgfakdobajgnfaaGreatDoorTie
import Derived.Test.YtgfakdobajgnfaaGreatDoorQk37
import Derived.Test.YtgfakdobajgnfaaGreatDoorQkF
set_option maxRecDepth 100000
set_option maxHeartbeats 16000000
namespace Go.Proofs.YtgfakdobajgnfaaGreatDoor.etypeKinds
open Go.ChangeShapes Go.WideShapes Go.ChangeAt Go.RowKit Go.Lib Go.ChangeMaps
abbrev laidL:List (String×DataW Unit):=Rows.etypeKindsRow.laid
theorem lifted (os:Os)(c:os.Started)(H:Type)(enc:TypeId×Value->H):
 ReturnsInHanded {} Tryz.checked os 12 .any (fun w args=>(Rows.etypeKindsSpec.pre enc Tryz.prog Tryz.f12 [] false w args/\laidMetH Tryz.prog laidL w)/\sizedMet enc Tryz.prog Tryz.f12 (OpenSpec.ofChange Rows.etypeKindsSpec) false w args)
  (Rows.etypeKindsSpec.post enc Tryz.prog Tryz.f12 false true false false):=by
 refine Uv (C:=Tryz.checked) (X:=fun w _=>laidMetH Tryz.prog laidL w) (fun _ _ _ I h=>h.of_heap I) own c rG Tryz.func12
  (ChangeSpec.witness_shaped (enc:=enc) (C:=Tryz.checked) (os:=os) (X:=fun w _=>laidMetH Tryz.prog laidL w) false (World.laidAll Tryz.prog os laidL) #[.slice none 0 0,.agg #[.slice none 0 0,.int .u8 0]] 8 (World.laidAll_os _ _ _)
   (World.shaped_of_ZipB rG rG) rG rG rG
   (by rw[MakeChecks.laidMetH_plain _ _ _ rG];exact laidMet_laidAll _ rG rG)) ?_
 intro W base args L gs before f A i D k;rw[MakeChecks.laidMetH_plain _ _ _ rG] at D;have M:Rd W:=qL D i (.tail _ (.tail _ (.head _))) (.tail _ (.tail _ (.tail _ (.tail _ (.head _))))) (.tail _ (.tail _ (.tail _ (.tail _ (.tail _ (.head _))))));have d:∀(j:Nat) t v,Tryz.f12.params[j]? =some t->args[j]? =some v->Value.okWide Tryz.prog W .any base t v:=f;have g:=A;obtain⟨p,q,m,N,rfl,_,_⟩:=A;have n:DataW.TrodAll enc Tryz.prog W 0 (fun _=>true) true Tryz.f12.params.toList args.toList L p:=m;have o:=n;rw[Tryz.params12] at n d;obtain⟨v0,O,d0,R,p0,q0,r,rfl,rfl,T,U⟩:=trodAll_cons n;obtain⟨v1,V,d1,Y,p1,q1,rfl,rfl,rfl,Z,r1⟩:=trodAll_cons U;obtain⟨rfl,rfl,rfl⟩:=trodAll_nil r1;obtain rfl:args= #[v0,v1]:=by cases args;simp_all
 obtain⟨rfl,rfl⟩:=trodVars_none N;obtain⟨l0,u⟩:=dU (d 0 31 v0 rfl rfl) T (k 0 31 _ (by rw[Tryz.params12];rfl) rfl);obtain⟨sa,vars,sc,sf,rfl,y,hS⟩:=Y2 (d 1 59 v1 rfl rfl) Z;refine(aH y.1 W u hS M).mono fun e W' ⟨he,E⟩=>?_
 subst he
 exact⟨_,rfl,S6 (pv:=[]) g (fun _ _ _=>trodAll_cons_mk (shut_bool Tryz.underlying4 _) trodAll_mk0)
  (fun sp hs=>Ml qI E (by rw[Tryz.params12];intro t F;simp only[List.mem_cons,List.not_mem_nil,or_false] at F;rcases F with rfl|rfl<;>exact⟨by kernel_rfl,of_decide_eq_true rG⟩) o (fun x G=>⟨g.lt x (List.mem_append_left _ G),hs x (List.mem_append_left _ G)⟩))
  (fun _ _=>rfl) rfl E (ok_one rG rfl (okWide_bool_mk Tryz.underlying4 _))⟩
theorem holds:Rows.EtypeKindsSaid:=
 OpenClaim.holds_of_wide 12 Tryz.f12 rfl rfl rfl rfl rfl rfl rfl ⟨rfl,rfl,rfl,rfl,rfl⟩ rfl rfl rfl rfl rfl rG Tryz.func12 closed
  (of_decide_eq_true rG) (by unfold Func.isWrapper;first|(rw[Ap (by decide+kernel)];kernel_rfl)|(rw[Ao (by decide+kernel)];exact⟨rfl,rfl⟩))
  (fun os c H enc _=>lifted os c H enc)
theorem proved:Rows.EtypeKindsCardSaid:=
 Claim7.holds_tied_plain_at .later [] [.data,.data,.data,.data,.sentinel,.sentinel,.pinned] true Rows.etypeKindsCard.stood.harness true
  holds (fun _ h=>by cases h) rG (fun _ h=>by cases h) etypeKinds_row_tie rfl ⟨rfl,rfl⟩ rG rfl
  (fun f fn g d=>by
   obtain rfl:f=12:=Option.some.inj ((show Tryz.prog.funcNamed "witan/witanlaw09.EtypeKinds" =some 12 by kernel_rfl).symm.trans g)|>.symm;obtain rfl:fn=Tryz.f12:=(Option.some.inj (Tryz.func12.symm.trans d)).symm
   exact⟨by kernel_rfl,fun j t e=>by
    rw[Tryz.params12] at e;have i:t∈[31,59]:=by simpa using Array.mem_of_getElem? e
    have c:([31,59].all fun u=>!Tryz.prog.wantsStandIn u)=true:=by kernel_rfl
    exact(show Tryz.prog.wantsStandIn t=false by simpa using List.all_eq_true.1 c t i)⟩)
  rG
#print axioms proved
end Go.Proofs.YtgfakdobajgnfaaGreatDoor.etypeKinds

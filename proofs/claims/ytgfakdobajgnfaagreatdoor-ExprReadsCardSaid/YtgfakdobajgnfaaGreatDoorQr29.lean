import Derived.Lay
import Derived.SevenTiedAt
import Derived.HandedShaped
import Derived.LaidLaws
import Derived.Lib.LaidU8
import Derived.Lib.LaidTab
import Derived.Deep.Slices
import Derived.Deep.Fields
import Derived.Test.YtgfakdobajgnfaaGreatDoorRows
import Derived.Test.YtgfakdobajgnfaaGreatDoorQr5
import Derived.Test.YtgfakdobajgnfaaGreatDoorQr28
import Derived.Test.YtgfakdobajgnfaaGreatDoorQr0
namespace Go.Proofs.YtgfakdobajgnfaaGreatDoor
open Go Go.ChangeShapes Go.WideShapes Go.ChangeAt Go.RowKit Go.Lib Go.ChangeMaps
theorem handed_both {H:Type}{enc:TypeId×Value→H}{a:Assume}{C:Checked}{os:Os}{f:FuncId}{fn:Func}{s:ChangeSpec}{conds:List PathCond}{apart fresh handsOn again:Bool}{X:World→Array Value→Prop}
 (hX:∀(w w':World) (args:Array Value),w.heap=w'.heap→X w args→X w' args)
 (own:ownKnob C.prog.godebug=none) (started:os.Started) (noInit:C.prog.inits.idxOf? f=none) (hfn:C.prog.funcs[f]? =some fn)
 (witness:∃(w:World) (tape:Tape) (i:Input),w.os=os∧(w.forCall tape i).Shaped C.prog∧i.vars=[]∧Input.okWide C.prog (w.forCall tape i) .any w.heap.size f i∧
  ((s.pre enc C.prog fn conds apart (w.forCall tape i).memory i.args∧X (w.forCall tape i).memory i.args)∧sizedMet enc C.prog fn (OpenSpec.ofChange s) apart (w.forCall tape i).memory i.args)∧a.holds C.prog (lone (Frame.enter C.prog f i.args .normal) [] (w.forCall tape i)))
 (contract:∀(W:World) (base:Nat) (args:Array Value) (ds gs:List (DataW H)) (before:List MemPlace),
  (∀(j:Nat) t v,fn.params[j]? =some t→args[j]? =some v→Value.okWide C.prog W .any base t v)→
  DataW.Whole enc C.prog fn.params.toList s.vars apart W args.toList ds gs before→W.ShapedOpen C.prog→X W args→
  Calls C.prog f args W fun e W'=>∃v,e= .returned v∧s.post enc C.prog fn apart fresh handsOn again W args v W'):
 ReturnsInHanded a C os f .any (fun w args=>(s.pre enc C.prog fn conds apart w args∧X w args)∧sizedMet enc C.prog fn (OpenSpec.ofChange s) apart w args) (s.post enc C.prog fn apart fresh handsOn again):=by
 refine returnsInHanded_of_calls own started noInit witness ?_
 intro w tape i _ hshape _ hin hp _
 obtain⟨_,_,_,g,hg,_,_,_,_,hv⟩:=hin
 obtain rfl:g=fn:=Option.some.inj (hg.symm.trans hfn)
 obtain⟨⟨⟨ds,gs,before,hw,_⟩,hx⟩,_⟩:=hp
 refine(contract (w.forCall tape i) w.heap.size i.args ds gs before hv (DataW.Whole.of_heap (w':=w.forCall tape i) (by rfl) hw) hshape (hX _ _ _ (by rfl) hx)).mono ?_
 rintro e W' ⟨v,rfl,hq⟩
 exact ChangeSpec.post_blind hq
theorem err_of_reads {W:World}{n:String}{g:Nat}{nm:String}{d:DataW Unit}(h:Lib.VarReads Tryz.prog W n (.iface nm d))(hg:Tryz.prog.globalNamed n=some g)(ht:(Tryz.prog.globals[g]?).map (·.type)=some 119):
 ∃ev,W.cell? ⟨g,0,none⟩=some ev∧(ev= .nilIface∨∃te pe,ev= .iface te pe):=by
 obtain⟨g',t,cs,fuel,p,hg',ht',hv,hd⟩:=h
 obtain rfl:g'=g:=Option.some.inj (hg'.symm.trans hg)
 obtain rfl:t=119:=Option.some.inj (ht'.symm.trans ht)
 obtain⟨f1,u,v,hc,_,_⟩:=iface_of_trod Tryz.underlying119 hd
 refine⟨.iface u v,?_,.inr ⟨u,v,rfl⟩⟩
 have h0:=World.var?_cell hg hv 0
 rw[h0,←Array.getElem?_toList,hc]
 rfl
theorem pow_eq:Rows.laid_internal_strconv_uint64pow10=Lib.tabData (H:=Unit) .u64 Lib.pow10Tab:=by kernel_rfl
theorem rd_of {W:World}{l:List (String×DataW Unit)}(hL:laidMet Tryz.prog l W)(hsh:W.ShapedOpen Tryz.prog)
 (h1:("internal/strconv.uint64pow10",Rows.laid_internal_strconv_uint64pow10)∈l) (h2:("strconv.ErrRange",Rows.laid_strconv_ErrRange)∈l) (h3:("strconv.ErrSyntax",Rows.laid_strconv_ErrSyntax)∈l):Rd W:=by
 refine⟨Go.Proofs.cell_of_shapedOpen_int (zero:= #[.int .i64 0]) (t:=3) hsh (of_decide_eq_true (by kernel_rfl)) (by kernel_rfl) rfl (by kernel_rfl) (by kernel_rfl) Tryz.underlying3,?_,?_,?_⟩
 ·have h:=Lib.laidMet.reads hL h1
  rw[pow_eq] at h
  obtain⟨g,t,cs,fuel,p,hg,ht,hv,hd⟩:=h
  obtain rfl:g=1:=Option.some.inj (hg.symm.trans (by kernel_rfl))
  obtain rfl:t=205:=Option.some.inj (ht.symm.trans (by kernel_rfl))
  unfold Lib.TabIs
  rw[hv,←Lib.cells_of_tab Tryz.underlying205 Tryz.underlying55 (by kernel_rfl) (by kernel_rfl) hd]
 ·exact err_of_reads (Lib.laidMet.reads hL h2) (by kernel_rfl) (by kernel_rfl)
 ·exact err_of_reads (Lib.laidMet.reads hL h3) (by kernel_rfl) (by kernel_rfl)
open Go Go.ChangeShapes Go.WideShapes Go.ChangeAt Go.RowKit Go.Deep
section
variable {H:Type} {enc:TypeId×Value→H} {P:Program} {w:World} {base:Nat} {spare:Nat→Bool} {held:Bool}
theorem trodAll_below {W W':World}(hl:laidOutB P=true)(hb:Below W.heap.size W W'){sp':Nat→Bool}:∀{ts:List TypeId} {vs:List Value} {ds:List (DataW H)} {ps:List MemPlace},
 (∀t∈ts,P.readableRec t=true∧t<P.types.size)→DataW.TrodAll enc P W 0 (fun _=>true) true ts vs ds ps→(∀p∈ps,p.block<W.heap.size∧sp' p.block=true)→DataW.TrodAll enc P W' 0 sp' true ts vs ds ps
 |[],[],[],_,_,h,_=>h
 |_::_,_::_,_::_,_,hT,⟨p,q,h1,h2,e⟩,hs=>⟨p,q,WideElems.Trod_stays hl (hT _ (.head _)).1 (hT _ (.head _)).2 h1 (fun x hx=>hb.same (hs x (by rw[e];exact List.mem_append_left _ hx)).1) (fun x hx=>(hs x (by rw[e];exact List.mem_append_left _ hx)).2),
   trodAll_below hl hb (fun t ht=>hT t (.tail _ ht)) h2 (fun x hx=>hs x (by rw[e];exact List.mem_append_right _ hx)),e⟩
end
theorem laidB:laidOutB Tryz.prog=true:=by kernel_rfl
end Go.Proofs.YtgfakdobajgnfaaGreatDoor

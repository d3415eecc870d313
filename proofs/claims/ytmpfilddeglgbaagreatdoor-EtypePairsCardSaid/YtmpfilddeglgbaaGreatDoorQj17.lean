import Derived.ProofKit
import Derived.OpenShut
import Derived.Lib.LaidU8
import Derived.Deep.Fields
import Derived.Deep.CutRange
import Derived.Test.YtmpfilddeglgbaaGreatDoorQj16
import Derived.Test.YtmpfilddeglgbaaGreatDoorRows
set_option maxRecDepth 100000
set_option maxHeartbeats 16000000
namespace Go.Proofs.YtmpfilddeglgbaaGreatDoor
open Go Go.RowKit Go.Lib
def KAt (w:World)(b:Nat)(l:List Int):Prop:=w.heap[b]? =some (.cells (l.map (Value.int .u8)).toArray 5 (0,0))
theorem KAt.cell {w:World}{b:Nat}{l:List Int}(h:KAt w b l){i:Nat}{x:Int}(hx:l[i]? =some x):w.cell? ⟨b,i,none⟩=some (.int .u8 x)/\w.frozen? ⟨b,i,none⟩=false:=by
 unfold KAt at h;simp only[World.cell?,World.frozen?,h];simp [hx]
theorem KAt.set {w:World}{b:Nat}{l:List Int}(h:KAt w b l)(i:Nat)(x:Int):KAt (w.setCell ⟨b,i,none⟩ (.int .u8 x)) b (l.set i x):=by
 unfold KAt at h ⊢;rw[A2 h];congr 2;apply Array.ext';simp [List.map_set]
theorem KAt.below {w w':World}{b:Nat}{l:List Int}(h:KAt w b l)(hb:Below w.heap.size w w'):KAt w' b l:=(hb.block b (Ay h)).trans h
theorem rO:(Tryz.prog.info? 5).map (fun i=>(i.zero,i.size,i.bytes))=some (some (.int .u8 0),1,1):=by kernel_rfl
theorem aC:∃i,Tryz.prog.info? 5=some i/\i.zero=some (.int .u8 0)/\i.size=1/\i.bytes=1:=by
 have h:=rO;cases hi:Tryz.prog.info? 5 with
 |none=>simp [hi] at h
 |some i=>
  exact zx4
theorem qT (n:Nat)(hn:n<=1000000)(w:World):∃w',(Instr.makeSlice 106 (.int .i64 (n:Int)) (.int .i64 (n:Int))).run Tryz.prog w= .ok (.slice (some ⟨w.heap.size,0,none⟩) n n) w'/\Below w.heap.size w w'/\KAt w' w.heap.size (List.replicate n 0):=by
 obtain⟨i0,hi,hz0,hz1,hz2⟩:=aC;obtain⟨w',hrun,hown,hg⟩:=run_make_full (P:=Tryz.prog) w w.heap.size 106 5 i0 (.int .u8 0) 1 Tryz.underlying106 hi hz0 hz1 .i64 .i64 n (by rw[hz2];omega) tQ (Ak _);refine⟨w',hrun,(Bc.of_grown hg [] (fun k e=>by cases e)).below,?_⟩;rcases hown.2 with ⟨e,_⟩|⟨g,cap,cur,e,_,hgb,_,_,hcs,hct⟩
 ·cases e
 injection e with e1 _ e3;injection e1 with e1;injection e1 with e1;subst e1;subst e3;unfold KAt;rw[hgb];congr 2;apply Array.ext';rw[List.take_of_length_le wH] at hct;rw[hct];simp [madeCells];rw[List.eq_replicate_iff];refine⟨by simp,fun u hu=>?_⟩;obtain⟨x,_,rfl⟩:=List.mem_map.1 hu
 show(#[Value.int .u8 0]:Array Value)[x % 1]! =_
 rw[Nat.mod_one];rfl
theorem Pe {op:Int}{ks:List Int}(h0:∀x∈ks,0<=x):0<=Fa op ks:=by
 have hnum:∀(l:List Int) (k:Int),0<=k->0<=Fx k l:=by
  intro l
  induction l with
  |nil=>intro k hk;exact hk
  |cons x l ih=>
   intro k hk;unfold Fx
   split
   ·omega
   exact ih _ tE
 have hg:∀i,0<=ks.getD i 0:=fun i=>by
  rw[List.getD_eq_getElem?_getD];cases e:ks[i]? with
  |none=>exact Int.le_refl 0
  |some x=>exact h0 x (List.mem_of_getElem? e)
 unfold Fa;cases hc:J1 op with
 |some c=>
  simp only
  split
  ·unfold J1 at hc
   repeat' split at hc
   all_goals first|(cases hc;done)|(injection hc with hc;subst hc;decide)
  omega
 |none=>
  simp only;have g1:=hg 1;have g2:=hg 2
  repeat' split
  all_goals first|omega|exact hnum ks 0 (Int.le_refl 0)
theorem Vk {n:List UInt8}:∀{l:List (List UInt8×Int)} {k:Int},Ma n l=some k->∃x∈l,x.2=k
 |[],k,h=>by cases h
 |x::l,k,h=>by
  unfold Ma at h
  split at h
  ·injection h with h;exact⟨x,.head _,h⟩
  obtain⟨y,hy,e⟩:=Vk h;exact⟨y,.tail _ hy,e⟩
theorem Pj {vars:List (List UInt8×Int)}{self:Int}{ks:List Int}{x:Nz}(hv:∀y∈vars,0<=y.2)(hs:0<=self)(h0:∀y∈ks,0<=y)(hl:x.h.op=1->0<=x.h.v.1):0<=(Ks vars self ks x).1:=by
 have hsc:∀k:Int,0<=k->0<=(L5 k).1:=fun k hk=>by
  unfold L5
  split
  ·exact Int.le_refl 0
  exact hk
 unfold Ks
 split
 ·unfold Mk
  split
  ·rename_i h
   exact hl h
  split
  ·cases e:Ma x.h.name vars with
   |none=>exact Int.le_refl 0
   |some k=>
    obtain⟨y,hy,rfl⟩:=Vk e;exact hsc _ (hv y hy)
  split
  ·exact Int.le_refl 0
  exact hsc _ hs
 split
 ·exact Int.le_refl 0
 refine Pe fun y hy=>?_
 obtain⟨j,_,rfl⟩:=List.mem_map.1 hy;rw[List.getD_eq_getElem?_getD];cases e:ks[j.toNat]? with
 |none=>exact Int.le_refl 0
 |some z=>exact h0 z (List.mem_of_getElem? e)
open Go Go.ChangeShapes Go.WideShapes Go.ChangeAt Go.RowKit
section
variable {H:Type} {enc:TypeId×Value->H} {P:Program}
theorem Uo {f:Func}{s:ChangeSpec}{apart fresh handsOn again:Bool}{W W':World}{args:Array Value}{v:Value}{ds gs:List (DataW H)}{before pa pv:List MemPlace}
 (hW:DataW.Whole enc P f.params.toList s.vars apart W args.toList ds gs before)
 (hres:∀(b:Nat) (sp:Nat->Bool) (hd:Bool),DataW.TrodAll enc P W' b sp hd f.resultTypes.toList (v.resultList f.resultTypes.size) (s.fn H (ds++gs)).results [])
 (hargs:∀sp:Nat->Bool,(∀p∈before,sp p.block=true)->DataW.TrodAll enc P W' 0 sp true f.params.toList args.toList (s.fn H (ds++gs)).args pa)
 (hvars:∀sp:Nat->Bool,(∀p∈before,sp p.block=true)->DataW.TrodVars enc P W' sp s.vars (s.fn H (ds++gs)).vars pv)
 (hps:before=pa++pv) (hb:Below W.heap.size W W')
 (hok:∀(j:Nat) (t:TypeId) (r:Value),f.resultTypes[j]? =some t->(v.resultList f.resultTypes.size)[j]? =some r->Value.okWide P W' .any 0 t r):
 s.post enc P f apart fresh handsOn again W args v W':=by
 have hlt:∀p∈before,p.block<W.heap.size:=fun p hp=>hW.lt p hp
 have hold:∀p∈before,(fun b=>decide (b<W.heap.size)) p.block=true:=fun p hp=>by simpa using hlt p hp
 refine⟨ds,gs,before,[],pa,pv,hW,hres _ _ _,hargs _ hold,hvars _ hold,World.keptBut_mono (fun p hp=>⟨hp,?_⟩) (hb.frame (· ∈before)),fun _=>?_⟩
 ·rw[hps,List.mem_append] at hp;exact Or.inr hp
 obtain⟨_,_,_,_,_,hz,hn⟩:=hW;refine⟨hok,_,_,([]++pa)++pv,⟨[]++pa,pv,trodAll_append (hargs _ (fun _ _=>rfl)) (hres _ _ _),hvars _ (fun _ _=>rfl),rfl,?_,?_⟩,?_⟩
 ·intro b off hp;have hin:MemPlace.cell b off∈before:=by rw[hps];simpa using hp
  rw[hb.frozen (hlt _ hin)];exact hz b off hin
 ·intro ha
  have:=hn ha
  rw[hps] at this;simpa using this
 intro p hp _;rw[hps];simpa using hp
end
theorem own:ownKnob Tryz.prog.godebug=none:=by kernel_rfl
open Go Go.ChangeShapes Go.WideShapes Go.ChangeAt Go.RowKit Go.Lib Go.ChangeMaps
theorem Y3 {H:Type}{enc:TypeId×Value->H}{a:Assume}{C:Checked}{os:Os}{f:FuncId}{fn:Func}{s:ChangeSpec}{conds:List PathCond}{apart fresh handsOn again:Bool}{X:World->Array Value->Prop}
 (hX:∀(w w':World) (args:Array Value),w.heap=w'.heap->X w args->X w' args)
 (own:ownKnob C.prog.godebug=none) (started:os.Started) (noInit:C.prog.inits.idxOf? f=none) (hfn:C.prog.funcs[f]? =some fn)
 (witness:∃(w:World) (tape:Tape) (i:Input),w.os=os/\(w.forCall tape i).Shaped C.prog/\i.vars=[]/\Input.okWide C.prog (w.forCall tape i) .any w.heap.size f i/\
  ((s.pre enc C.prog fn conds apart (w.forCall tape i).memory i.args/\X (w.forCall tape i).memory i.args)/\sizedMet enc C.prog fn (OpenSpec.ofChange s) apart (w.forCall tape i).memory i.args)/\a.holds C.prog (lone (Frame.enter C.prog f i.args .normal) [] (w.forCall tape i)))
 (contract:∀(W:World) (base:Nat) (args:Array Value) (ds gs:List (DataW H)) (before:List MemPlace),
  (∀(j:Nat) t v,fn.params[j]? =some t->args[j]? =some v->Value.okWide C.prog W .any base t v)->
  DataW.Whole enc C.prog fn.params.toList s.vars apart W args.toList ds gs before->W.ShapedOpen C.prog->X W args->
  Calls C.prog f args W fun e W'=>∃v,e= .returned v/\s.post enc C.prog fn apart fresh handsOn again W args v W'):
 ReturnsInHanded a C os f .any (fun w args=>(s.pre enc C.prog fn conds apart w args/\X w args)/\sizedMet enc C.prog fn (OpenSpec.ofChange s) apart w args) (s.post enc C.prog fn apart fresh handsOn again):=by
 refine returnsInHanded_of_calls own started noInit witness ?_;intro w tape i _ hshape _ hin hp _;obtain⟨_,_,_,g,hg,_,_,_,_,hv⟩:=hin;obtain rfl:g=fn:=Option.some.inj (hg.symm.trans hfn);obtain⟨⟨⟨ds,gs,before,hw,_⟩,hx⟩,_⟩:=hp;refine(contract (w.forCall tape i) w.heap.size i.args ds gs before hv (DataW.Whole.of_heap (w':=w.forCall tape i) vF hw) hshape (hX _ _ _ vF hx)).mono ?_;rintro e W' ⟨v,rfl,hq⟩;exact ChangeSpec.post_blind hq
theorem Qf {W:World}{n:String}{g:Nat}{nm:String}{d:DataW Unit}(h:Lib.VarReads Tryz.prog W n (.iface nm d))(hg:Tryz.prog.globalNamed n=some g)(ht:(Tryz.prog.globals[g]?).map (·.type)=some 131):
 ∃ev,W.cell? ⟨g,0,none⟩=some ev/\(ev= .nilIface\/∃te pe,ev= .iface te pe):=by
 obtain⟨g',t,cs,fuel,p,hg',ht',hv,hd⟩:=h;obtain rfl:g'=g:=Option.some.inj (hg'.symm.trans hg);obtain rfl:t=131:=Option.some.inj (ht'.symm.trans ht);obtain⟨f1,u,v,hc,_,_⟩:=iface_of_trod Tryz.underlying131 hd;refine⟨.iface u v,?_,.inr ⟨u,v,rfl⟩⟩;have h0:=World.var?_cell hg hv 0;rw[h0,←Array.getElem?_toList,hc];rfl
theorem rW:Rows.laid_internal_strconv_uint64pow10=Lib.tabData (H:=Unit) .u64 Lib.pow10Tab:=by kernel_rfl
theorem sM {W:World}{l:List (String×DataW Unit)}(hL:laidMet Tryz.prog l W)(hsh:W.ShapedOpen Tryz.prog)
 (h1:("internal/strconv.uint64pow10",Rows.laid_internal_strconv_uint64pow10)∈l) (h2:("strconv.ErrRange",Rows.laid_strconv_ErrRange)∈l) (h3:("strconv.ErrSyntax",Rows.laid_strconv_ErrSyntax)∈l):Rd W:=by
 refine⟨Go.Proofs.cell_of_shapedOpen_int (zero:= #[.int .i64 0]) (t:=3) hsh (of_decide_eq_true tF) tF rfl tF tF Tryz.underlying3,?_,?_,?_⟩
 ·have h:=Lib.laidMet.reads hL h1;rw[rW] at h;obtain⟨g,t,cs,fuel,p,hg,ht,hv,hd⟩:=h;obtain rfl:g=3:=Option.some.inj (hg.symm.trans tF);obtain rfl:t=330:=Option.some.inj (ht.symm.trans tF);unfold Lib.TabIs;rw[hv,←Lib.cells_of_tab Tryz.underlying330 Tryz.underlying299 tF tF hd]
 ·exact Qf (Lib.laidMet.reads hL h2) tF tF
 exact Qf (Lib.laidMet.reads hL h3) tF tF
open Go Go.ChangeShapes Go.WideShapes Go.ChangeAt Go.RowKit Go.Deep
section
variable {H:Type} {enc:TypeId×Value->H} {P:Program} {w:World} {base:Nat} {spare:Nat->Bool} {held:Bool}
theorem Oa {W W':World}(hl:laidOutB P=true)(hb:Below W.heap.size W W'){sp':Nat->Bool}:∀{ts:List TypeId} {vs:List Value} {ds:List (DataW H)} {ps:List MemPlace},
 (∀t∈ts,P.readableRec t=true/\t<P.types.size)->DataW.TrodAll enc P W 0 (fun _=>true) true ts vs ds ps->(∀p∈ps,p.block<W.heap.size/\sp' p.block=true)->DataW.TrodAll enc P W' 0 sp' true ts vs ds ps
 |[],[],[],_,_,h,_=>h
 |_::_,_::_,_::_,_,hT,⟨p,q,h1,h2,e⟩,hs=>⟨p,q,WideElems.Trod_stays hl (hT _ (.head _)).1 (hT _ (.head _)).2 h1 (fun x hx=>hb.same (hs x (by rw[e];exact List.mem_append_left _ hx)).1) (fun x hx=>(hs x (by rw[e];exact List.mem_append_left _ hx)).2),
   Oa hl hb (fun t ht=>hT t (.tail _ ht)) h2 (fun x hx=>hs x (by rw[e];exact List.mem_append_right _ hx)),e⟩
theorem Vr {a:Addr}{v:Value}(h:w.cell? a=some v):a=⟨a.block,a.off,none⟩:=by
 obtain⟨b,o,s⟩:=a;simp only[World.cell?] at h;cases s with
 |none=>rfl
 |some s=>
  simp only[Option.isSome_some,if_true] at h;cases hh:w.heap[b]? with
  |none=>simp [hh] at h
  |some ob=>cases ob<;>simp [hh] at h
end
theorem sW:laidOutB Tryz.prog=true:=by kernel_rfl
theorem Mj {α:Type}(p:Nat->α->Prop):∀(n:Nat),(∀i,i<n->∃v,p i v)->∃l:List α,l.length=n/\∀i (h:i<l.length),p i l[i]
 |0,_=>⟨[],rfl,fun i h=>by simp at h⟩
 |n+1,h=>by
  obtain⟨l,hl,hp⟩:=Mj p n fun i hi=>h i tE
  obtain⟨v,hv⟩:=h n tE;refine⟨l++[v],by simp [hl],fun i hi=>?_⟩;by_cases hin:i<l.length
  ·rw[List.getElem_append_left hin];exact hp i hin
  have:i=l.length:=by simp at hi;omega
  subst this;rw[List.getElem_append_right (Ak _)];simpa[hl] using hv
open Go Go.ChangeShapes Go.WideShapes Go.ChangeAt Go.RowKit Go.Deep Go.Lib
theorem sU {n:Int}(h:(Lit.int .u8 n).wf=true):0<=n/\n<=255:=by
 simp [Lit.wf,IntKind.min,IntKind.max,IntKind.signed,IntKind.bits] at h;omega
section
variable {H:Type} {enc:TypeId×Value->H} {w:World} {base:Nat} {spare:Nat->Bool} {held:Bool}
end
open Go Go.ChangeShapes Go.WideShapes Go.ChangeAt Go.RowKit Go.Deep Go.Lib
structure Na where
 h:Hd
 a:Option Addr
 n:Nat
 c:Nat
def Na.kv (x:Na):Value:= .slice x.a x.n x.c
structure Na.Ok (w:World)(x:Na):Prop where
 op0:0<=x.h.op
 op1:x.h.op<=255
 v0: -9223372036854775808<=x.h.v.2.1
 v1:x.h.v.2.1<=9223372036854775807
 s:x.h.v.2.2.length<=reachBytes
 name:x.h.name.length<=reachBytes
 n:x.n<=reachBytes
 kids:x.n<=1000000->∃ks,ks.length=x.n/\Gg w x.kv ks
 nil:x.a=none->x.n=0/\x.c=0
def mJ (w:World)(v:Value)(l:List Na):Prop:=l.length<=maxLen/\∃a c,v= .slice a l.length c/\∀i (h:i<l.length),∃b off,a=some ⟨b,off,none⟩/\Qu w b (off+i*8) l[i].h l[i].kv/\l[i].Ok w
theorem Na.Ok.below {w w':World}{x:Na}(h:x.Ok w)(hb:Below w.heap.size w w'):x.Ok w':=
 ⟨h.op0,h.op1,h.v0,h.v1,h.s,h.name,h.n,fun q=>by obtain⟨ks,h1,h2⟩:=h.kids q;exact⟨ks,h1,h2.below hb⟩,h.nil⟩
theorem mJ.below {w w':World}{v:Value}{l:List Na}(h:mJ w v l)(hb:Below w.heap.size w w'):mJ w' v l:=by
 obtain⟨h1,a,c,h2,h3⟩:=h;refine⟨h1,a,c,h2,fun i hi=>?_⟩;obtain⟨b,off,e,hc,hk⟩:=h3 i hi;exact⟨b,off,e,hc.below hb,hk.below hb⟩
theorem mJ.z {w:World}{v:Value}{l:List Na}(h:mJ w v l)(hl:l.length<=1000000)(hk:∀x∈l,x.n<=1000000):
 ∃zs:List Nz,zs.length=l.length/\(∀i (h1:i<l.length) (h2:i<zs.length),zs[i].h=l[i].h/\zs[i].kids.length=l[i].n/\Gg w l[i].kv zs[i].kids)/\TrZ w v zs:=by
 obtain⟨h1,a,c,h2,h3⟩:=h
 obtain⟨zs,hz,hp⟩:=Mj (fun i (z:Nz)=>∃h:i<l.length,z.h=l[i].h/\z.kids.length=l[i].n/\Gg w l[i].kv z.kids) l.length (fun i hi=>by
  obtain⟨b,off,e,hc,ok⟩:=h3 i hi;obtain⟨ks,q1,q2⟩:=ok.kids (hk _ (List.getElem_mem hi))
  exact⟨⟨l[i].h,ks⟩,hi,rfl,q1,q2⟩)
 refine⟨zs,hz,fun i h1 h2=>?_,by omega,a,c,by rw[hz];exact h2,fun i hi=>?_⟩
 ·obtain⟨_,g1,g2,g3⟩:=hp i h2;exact⟨g1,g2,g3⟩
 obtain⟨b,off,e,hc,_⟩:=h3 i tE;obtain⟨_,g1,_,g3⟩:=hp i hi;exact⟨b,off,l[i].kv,e,by rw[g1];exact hc,g3⟩
section
variable {H:Type} {enc:TypeId×Value->H} {w:World} {base:Nat} {spare:Nat->Bool} {held:Bool}
end
open Go Go.ChangeShapes Go.WideShapes Go.ChangeAt Go.RowKit Go.Deep Go.Lib
def mE (w:World)(v:Value)(l:List (List UInt8×Int)):Prop:=(∀y∈l,0<=y.2/\y.2<=255)/\∃a c,v= .slice a l.length c/\(a=none->l.length=0/\c=0)/\∀i (h:i<l.length),∃b off,a=some ⟨b,off,none⟩/\w.cell? ⟨b,off+i*2,none⟩=some (.string ⟨l[i].1.toArray⟩)/\w.cell? ⟨b,off+i*2+1,none⟩=some (.int .u8 l[i].2)
theorem mE.rd {w:World}{v:Value}{l:List (List UInt8×Int)}(h:mE w v l)(hl:l.length<=1000000):Zq w v l:=by
 obtain⟨_,a,c,e,_,k⟩:=h;exact⟨hl,a,c,e,k⟩
section
variable {H:Type} {enc:TypeId×Value->H} {w:World} {base:Nat} {spare:Nat->Bool} {held:Bool}
theorem cO {fuel:Nat}{v:Value}{x:DataW H×List MemPlace}(h:DataW.trod enc Tryz.prog w base spare held fuel 43 [v]=some x):∃l,mE w v l:=by
 rcases open_slice Tryz.underlying43 h with ⟨hc,_⟩|⟨a,len,cap,m,n,D,Pl,hc,hb,hle,hcap,hm,rfl,hi⟩
 ·simp only[List.cons.injEq,and_true] at hc;subst hc;exact⟨[],by simp,none,0,rfl,fun _=>⟨rfl,rfl⟩,fun i hi=>by simp at hi⟩
 simp only[List.cons.injEq,and_true] at hc;subst hc;have hml:len<=m:=by rw[hm];split<;>omega
 have hsp:∀i,i<len->a=⟨a.block,a.off,none⟩:=by
  intro i hil;obtain⟨cs,hcs,ht⟩:=hi 0 tE;rw[show Tryz.prog.cellsOf 104=2 from by kernel_rfl] at hcs;obtain⟨hlen,hcl,hat⟩:=World.cells?_some hcs;have h0:=hat 0 tE;rw[Ag tE] at h0;exact Vr (a:=a) h0
 have hcells:∀i,i<len->∃y:List UInt8×Int,(0<=y.2/\y.2<=255)/\w.cell? ⟨a.block,a.off+i*2,none⟩=some (.string ⟨y.1.toArray⟩)/\w.cell? ⟨a.block,a.off+i*2+1,none⟩=some (.int .u8 y.2)/\w.cell? (a.add (i*2))=some (.string ⟨y.1.toArray⟩):=by
  intro i hil;obtain⟨cs,hcs,ht⟩:=hi i tE;rw[show Tryz.prog.cellsOf 104=2 from by kernel_rfl] at hcs;obtain⟨ys,n',_,hxd,hlen,hyl,hf⟩:=DataW.trod_struct Tryz.underlying104 ht;rw[show Tryz.prog.cellsOf 104=2 from by kernel_rfl] at hlen;obtain⟨_,hcl,hat⟩:=World.cells?_some hcs
  obtain⟨c0,c1,rfl⟩:∃c0 c1,cs=[c0,c1]:=by
   match cs,hlen with
   |[c0,c1],_=>exact⟨_,_,rfl⟩
  have hys:∀i,i<2->∃y,ys[i]? =some y:=fun i hi=>⟨ys[i]'(by rw[hyl];exact hi),Ag (by rw[hyl];exact hi)⟩
  obtain⟨y0,hy0⟩:=hys 0 tE;obtain⟨y1,hy1⟩:=hys 1 tE;have g0:DataW.trod enc Tryz.prog w base spare held n' 9 (([c0,c1].drop 0).take (Tryz.prog.cellsOf 9))=ys[0]?:=hf 0 _ rfl;rw[show Tryz.prog.cellsOf 9=1 from by kernel_rfl] at g0;have g1:DataW.trod enc Tryz.prog w base spare held n' 5 (([c0,c1].drop 1).take (Tryz.prog.cellsOf 5))=ys[1]?:=hf 1 _ rfl;rw[show Tryz.prog.cellsOf 5=1 from by kernel_rfl] at g1;obtain⟨nm,e0,_,_⟩:=DataW.trod_string Tryz.underlying9 (g0.trans hy0);obtain⟨k,e1,_,hk⟩:=DataW.trod_int Tryz.underlying5 (g1.trans hy1);simp only[List.drop_zero,List.drop_succ_cons,List.take_succ_cons,List.take_zero,List.cons.injEq,and_true] at e0 e1;subst e0 e1;have h0:=hat 0 tE;have h1:=hat 1 tE;rw[hsp i hil] at h0 h1 ⊢;simp only[Addr.add_lit,Nat.add_zero] at h0 h1 ⊢;exact⟨(nm.data.toList,k),sU hk,h0,h1,h0⟩
 obtain⟨l,hl,hp⟩:=Mj _ len hcells;refine⟨l,fun y hy=>?_,some a,cap,by rw[hl],(fun e=>by cases e),fun i hil=>?_⟩
 ·obtain⟨i,hi,rfl⟩:=List.getElem_of_mem hy;exact(hp i hi).1
 have hs:=Vr (hp 0 tE).2.2.2;simp only[Nat.zero_mul,Addr.add,if_true] at hs;obtain⟨_,q1,q2,_⟩:=hp i hil;exact⟨a.block,a.off,by rw[hs],q1,q2⟩
theorem cQ {r:Reach}{b0:Nat}{v:Value}{d:DataW H}{p:List MemPlace}(hv:Value.okWide Tryz.prog w r b0 45 v)(h:DataW.Trod enc Tryz.prog w base spare held 45 v d p):
 ∃a l c sf,v= .agg #[.slice a (List.length l) c,.int .u8 sf]/\(0<=sf/\sf<=255)/\mE w (.slice a (List.length l) c) l:=by
 obtain⟨v0,v1,y0,y1,n,rfl,_,_,h0,h1⟩:=Joins.open_agg2 Tryz.underlying45 tF tF hv h;obtain⟨l,hl⟩:=cO h0;obtain⟨k,e1,_,hk⟩:=DataW.trod_int Tryz.underlying5 h1;simp only[List.cons.injEq,and_true] at e1;subst e1;have hl':=hl;obtain⟨_,a,c,rfl,_⟩:=hl';exact⟨a,l,c,k,rfl,sU hk,hl⟩
end
open Go Go.RowKit Go.Lib
theorem lS (op:Int)(h9:9<=op)(h12:op<=12){v:Value}{ks:List Int}(h2:2<=ks.length)(h0:∀x∈ks,0<=x)(w:World)(h:Md w v ks):Calls Tryz.prog 44 #[.int .u8 op,v] w fun e w'=>e= .returned (.int .u8 (if Ml (ks.getD 0 0) (ks.getD 1 0) && (Fx 0 ks !=255||Qw 3 ks) then 4 else 255))/\Below w.heap.size w w':=by
 have hn:J1 op=none:=by
  rcases (show op=9\/op=10\/op=11\/op=12 by omega) with rfl|rfl|rfl|rfl<;>rfl
 have HC:=Ax (J8 op w);rw[hn] at HC;have HN:=fun V (hV:Below w.heap.size w V)=>Ax (Mt V (h.below hV))
 have HE:=fun V (hV:Below w.heap.size w V)=>Ax (Qh 3 V (h.below hV))
 obtain⟨hlm,a,cc,rfl,hcell⟩:=h;obtain⟨b,off,rfl,c0⟩:=hcell 0 tE;obtain⟨_,_,e1,c1⟩:=hcell 1 tE;injection e1 with e1;injection e1 with e2 e3;subst e2 e3;have p0:0<=ks[0]:=h0 _ (List.getElem_mem tE);have p1:0<=ks[1]:=h0 _ (List.getElem_mem tE);rw[List.getD_eq_getElem?_getD,List.getD_eq_getElem?_getD,Ag (show 0<ks.length by omega),Ag (show 1<ks.length by omega),Option.getD_some,Option.getD_some];obtain⟨x,hx⟩:∃x,ks[0]=x:=⟨_,rfl⟩;obtain⟨y,hy⟩:∃y,ks[1]=y:=⟨_,rfl⟩;rw[hx] at c0 p0 ⊢;rw[hy] at c1 p1 ⊢;have HM:=fun V=>Ax (Zz x y p0 p1 V)
 obtain⟨q,hq⟩:∃q,Ml x y=q:=⟨_,rfl⟩;obtain⟨n,hn0⟩:∃n,Fx 0 ks=n:=⟨_,rfl⟩;obtain⟨o,ho⟩:∃o,Qw 3 ks=o:=⟨_,rfl⟩;rw[hq] at HM ⊢;rw[hn0] at HN ⊢;rw[ho] at HE ⊢;rw[Nat.add_zero] at c0;have C0:=Ax c0;have C1:=Ax c1;have i0:(0:Int)<(ks.length:Int):=by omega
 have i1:(1:Int)<(ks.length:Int):=by omega
 have n0:0<ks.length:=by omega
 have n1:1<ks.length:=by omega
 have g7:(op==7)=false:=Af.2 tE;have g8:(op==8)=false:=Af.2 tE;clear hcell h0 hx hy hq hn0 ho hn c0 c1;simp only[Option.getD_none,Option.isSome_none,ofV] at HC;obtain⟨z,hz⟩:∃z:Int,(if q && (n !=255||o) then(4:Int) else 255)=z:=⟨_,rfl⟩;have HZ:=Ax hz;rw[hz];have HS:=fun(t:Bool) V=>Ax (K5 t 4 V)
 clear hz;have H9:=Ax h9;have H12:=Ax h12;clear h9 h12;go_enter Tryz.func44,Tryz.ntmps44;go_wp2_with fail;refine HC.out.mono ?_;rintro e V ⟨rfl,hb⟩;obtain⟨W1,hW1⟩:∃W1,V.alloc (.cells #[.int .u8 0,.int .u8 0] 169)=W1:=⟨_,rfl⟩;have hb1:Below V.heap.size V W1:=by rw[←hW1];exact(Aq _ V).alloc (Ak _) _
 have hb':=hb.trans (hb1.mono hb.size);have c0:=Ba hb' C0.out;have c1:=Ba hb' C1.out;have HW1:=Ax hW1;have HB1:=Ax hb';have HD:=Ax hb'.drew;clear hW1 hb1 hb hb' HC;go_upto_region 8 with fail
 rw[HW1.out];clear HW1;obtain⟨q9,hq9⟩:∃q,(op==9)=q:=⟨_,rfl⟩;obtain⟨q10,hq10⟩:∃q,(op==10)=q:=⟨_,rfl⟩;obtain⟨q11,hq11⟩:∃q,(op==11)=q:=⟨_,rfl⟩;obtain⟨q12,hq12⟩:∃q,(op==12)=q:=⟨_,rfl⟩
 have hor:(((q9||q10)||q11)||q12)=true:=by
  have:=H9.out
  have:=H12.out
  subst hq9 hq10 hq11 hq12;rcases (show op=9\/op=10\/op=11\/op=12 by omega) with rfl|rfl|rfl|rfl<;>rfl
 have HO:=Ax hor;clear hor
 go_cut [34] from 35 to 35 (fun u34 wx=>u34= .bool q9/\wx=W1)
 case first=>
  clear hq10 hq11 hq12;exact zy2
 obtain⟨rfl,hwx⟩:=hcut;rw[hwx];clear hwx
 go_upto_if 34 with fail
 go_cut [34] from 36 to 38 (fun u34 wx=>u34= .bool true/\wx=W1)
 case first=>
  cases q9 with
  |true=>
   exact zy2
  |false=>
   cases q10 with
   |true=>
    exact zy2
   |false=>
    cases q11 with
    |true=>
     exact zy2
    |false=>
     cases q12 with
     |true=>
      exact zy2
     |false=>cases HO.out
 case rest=>
  obtain⟨rfl,rfl⟩:=hcut;clear HO hq9 hq10 hq11 hq12;have HSV:Hid (∀V,Below w.heap.size w V->(Below w.heap.size w V/\V.cell? ⟨b,off,none⟩=some (.int .u8 x)/\V.cell? ⟨b,off+1,none⟩=some (.int .u8 y))):=Ax fun V hV=>⟨hV,Ba hV C0.out,Ba hV C1.out⟩
  clear c0 c1;cases q with
  |false=>
   go_upto_region 12 with fail
   refine wp_region_noPanic ?_;refine wp_region_held_drew (S:=fun V=>Below w.heap.size w V/\V.cell? ⟨b,off,none⟩=some (.int .u8 x)/\V.cell? ⟨b,off+1,none⟩=some (.int .u8 y)) tF ?_ (fun hHeld=>?_)
   ·exact HSV.out _ HD.out
   refine QH 0 ⟨some 39,_,_,_,_,_⟩ (h:=?_)
   try simp only[Act.put,Ac,Ad,Ae]
   refine QH 1 ⟨some 40,_,_,_,_,_⟩ (h:=?_)
   try simp only[Act.put,Ac,Ad,Ae]
   refine QH 2 ⟨some 41,_,_,_,_,_⟩ (h:=?_)
   try simp only[Act.put,Ac,Ad,Ae]
   refine QH 3 ⟨some 42,_,_,_,_,_⟩ (h:=?_)
   try simp only[Act.put,Ac,Ad,Ae]
   refine QH 4 ⟨some 43,_,_,_,_,_⟩ (h:=?_)
   try simp only[Act.put,Ac,Ad,Ae]
   refine QH 5 ⟨some 44,_,_,_,_,_⟩ (h:=?_)
   try simp only[Act.put,Ac,Ad,Ae]
   refine wpAnyH_ready (rs:=[6]) tF tH ?_;refine AllReadyH.cons (o:=⟨some 45,_,_,_,_,_⟩) (rs:=[]) rfl (fun K hK=>?_) AllReadyH.nil
   go_simp
   go_at_call 80
   refine(HM _).out.mono ?_;rintro e V2 ⟨rfl,hb2⟩;have HB2:=Ax (HD.out.trans (hb2.mono HD.out.size));clear hb2
   try go_wp2_with fail
   clear hHeld;refine hK.out _ _ ?_ (fun hHeld=>?_)
   ·exact HSV.out _ HB2.out
   clear hK K
   try simp only[Act.put,Ac,Ad,Ae]
   refine QH 7 ⟨some 46,_,_,_,_,_⟩ (h:=?_)
   try simp only[Act.put,Ac,Ad,Ae]
   refine QS 8 ⟨some 47,_,_,_,_,_⟩ (h:=?_)
   try simp only[Act.put,Ac,Ad,Ae]
   refine QS 9 ⟨some 48,_,_,_,_,_⟩ (h:=?_)
   try simp only[Act.put,Ac,Ad,Ae]
   refine QS 10 ⟨some 49,_,_,_,_,_⟩ (h:=?_)
   try simp only[Act.put,Ac,Ad,Ae]
   refine QS 11 ⟨some 50,_,_,_,_,_⟩ (h:=?_)
   try simp only[Act.put,Ac,Ad,Ae]
   refine QS 12 ⟨some 51,_,_,_,_,_⟩ (h:=?_)
   try simp only[Act.put,Ac,Ad,Ae]
   refine QS 13 ⟨some 52,_,_,_,_,_⟩ (h:=?_)
   try simp only[Act.put,Ac,Ad,Ae]
   refine QS 14 ⟨some 53,_,_,_,_,_⟩ (h:=?_)
   try simp only[Act.put,Ac,Ad,Ae]
   refine QH 15 ⟨some 54,_,_,_,_,_⟩ (h:=?_)
   try simp only[Act.put,Ac,Ad,Ae]
   refine wpAnyH_ready (rs:=[16]) tF tH ?_;refine AllReadyH.cons (o:=⟨some 55,_,_,_,_,_⟩) (rs:=[]) rfl (fun K hK=>?_) AllReadyH.nil
   go_simp
   go_at_call 78
   refine(HS _ _).out.mono ?_;rintro e V3 ⟨rfl,hb3⟩;have HB3:=Ax (HB2.out.trans (hb3.mono HB2.out.size));exact zyi
  |true=>
   cases hn:(n !=255) with
   |true=>
    rw[hn] at HZ;go_upto_region 12 with fail
    refine wp_region_noPanic ?_;refine wp_region_held_drew (S:=fun V=>Below w.heap.size w V/\V.cell? ⟨b,off,none⟩=some (.int .u8 x)/\V.cell? ⟨b,off+1,none⟩=some (.int .u8 y)) tF ?_ (fun hHeld=>?_)
    ·exact HSV.out _ HD.out
    refine QH 0 ⟨some 39,_,_,_,_,_⟩ (h:=?_)
    try simp only[Act.put,Ac,Ad,Ae]
    refine QH 1 ⟨some 40,_,_,_,_,_⟩ (h:=?_)
    try simp only[Act.put,Ac,Ad,Ae]
    refine QH 2 ⟨some 41,_,_,_,_,_⟩ (h:=?_)
    try simp only[Act.put,Ac,Ad,Ae]
    refine QH 3 ⟨some 42,_,_,_,_,_⟩ (h:=?_)
    try simp only[Act.put,Ac,Ad,Ae]
    refine QH 4 ⟨some 43,_,_,_,_,_⟩ (h:=?_)
    try simp only[Act.put,Ac,Ad,Ae]
    refine QH 5 ⟨some 44,_,_,_,_,_⟩ (h:=?_)
    try simp only[Act.put,Ac,Ad,Ae]
    refine wpAnyH_ready (rs:=[6]) tF tH ?_;refine AllReadyH.cons (o:=⟨some 45,_,_,_,_,_⟩) (rs:=[]) rfl (fun K hK=>?_) AllReadyH.nil
    go_simp
    go_at_call 80
    refine(HM _).out.mono ?_;rintro e V2 ⟨rfl,hb2⟩;have HB2:=Ax (HD.out.trans (hb2.mono HD.out.size));clear hb2
    try go_wp2_with fail
    clear hHeld;refine hK.out _ _ ?_ (fun hHeld=>?_)
    ·exact HSV.out _ HB2.out
    clear hK K
    try simp only[Act.put,Ac,Ad,Ae]
    refine QH 7 ⟨some 46,_,_,_,_,_⟩ (h:=?_)
    try simp only[Act.put,Ac,Ad,Ae]
    refine QH 8 ⟨some 47,_,_,_,_,_⟩ (h:=?_)
    try simp only[Act.put,Ac,Ad,Ae]
    refine wpAnyH_ready (rs:=[9]) tF tH ?_;refine AllReadyH.cons (o:=⟨some 48,_,_,_,_,_⟩) (rs:=[]) rfl (fun K hK=>?_) AllReadyH.nil
    go_simp
    go_at_call 81
    refine(HN _ HB2.out).out.mono ?_;rintro e V4 ⟨rfl,hb4⟩;have HB4:=Ax (HB2.out.trans (hb4.mono HB2.out.size));clear hb4
    try go_wp2_with fail
    clear hHeld;refine hK.out _ _ ?_ (fun hHeld=>?_)
    ·exact HSV.out _ HB4.out
    clear hK K
    try simp only[Act.put,Ac,Ad,Ae]
    refine QH 10 ⟨some 49,_,_,_,_,_⟩ (h:=?_)
    try simp only[Act.put,Ac,Ad,Ae]
    refine QH 11 ⟨some 50,_,_,_,_,_⟩ (h:=?_)
    try simp only[Act.put,Ac,Ad,Ae]
    refine QS 12 ⟨some 51,_,_,_,_,_⟩ (h:=?_)
    try simp only[Act.put,Ac,Ad,Ae]
    refine QS 13 ⟨some 52,_,_,_,_,_⟩ (h:=?_)
    try simp only[Act.put,Ac,Ad,Ae]
    refine QH 14 ⟨some 53,_,_,_,_,_⟩ (h:=?_)
    try simp only[Act.put,Ac,Ad,Ae]
    refine QH 15 ⟨some 54,_,_,_,_,_⟩ (h:=?_)
    try simp only[Act.put,Ac,Ad,Ae]
    refine wpAnyH_ready (rs:=[16]) tF tH ?_;refine AllReadyH.cons (o:=⟨some 55,_,_,_,_,_⟩) (rs:=[]) rfl (fun K hK=>?_) AllReadyH.nil
    go_simp
    go_at_call 78
    refine(HS _ _).out.mono ?_;rintro e V3 ⟨rfl,hb3⟩;have HB3:=Ax (HB4.out.trans (hb3.mono HB4.out.size));exact zyi
   |false=>
    rw[hn] at HZ;obtain⟨r,hr⟩:∃r:Int,(if o then(4:Int) else 255)=r:=⟨_,rfl⟩;have HSo:=fun V=>Ax (K5 o 4 V)
    rw[hr] at HSo;have Hr:=Ax hr;clear hr;go_upto_region 12 with fail
    refine wp_region_noPanic ?_;refine wp_region_held_drew (S:=fun V=>Below w.heap.size w V/\V.cell? ⟨b,off,none⟩=some (.int .u8 x)/\V.cell? ⟨b,off+1,none⟩=some (.int .u8 y)) tF ?_ (fun hHeld=>?_)
    ·exact HSV.out _ HD.out
    refine QH 0 ⟨some 39,_,_,_,_,_⟩ (h:=?_)
    try simp only[Act.put,Ac,Ad,Ae]
    refine QH 1 ⟨some 40,_,_,_,_,_⟩ (h:=?_)
    try simp only[Act.put,Ac,Ad,Ae]
    refine QH 2 ⟨some 41,_,_,_,_,_⟩ (h:=?_)
    try simp only[Act.put,Ac,Ad,Ae]
    refine QH 3 ⟨some 42,_,_,_,_,_⟩ (h:=?_)
    try simp only[Act.put,Ac,Ad,Ae]
    refine QH 4 ⟨some 43,_,_,_,_,_⟩ (h:=?_)
    try simp only[Act.put,Ac,Ad,Ae]
    refine QH 5 ⟨some 44,_,_,_,_,_⟩ (h:=?_)
    try simp only[Act.put,Ac,Ad,Ae]
    refine wpAnyH_ready (rs:=[6]) tF tH ?_;refine AllReadyH.cons (o:=⟨some 45,_,_,_,_,_⟩) (rs:=[]) rfl (fun K hK=>?_) AllReadyH.nil
    go_simp
    go_at_call 80
    refine(HM _).out.mono ?_;rintro e V2 ⟨rfl,hb2⟩;have HB2:=Ax (HD.out.trans (hb2.mono HD.out.size));clear hb2
    try go_wp2_with fail
    clear hHeld;refine hK.out _ _ ?_ (fun hHeld=>?_)
    ·exact HSV.out _ HB2.out
    clear hK K
    try simp only[Act.put,Ac,Ad,Ae]
    refine QH 7 ⟨some 46,_,_,_,_,_⟩ (h:=?_)
    try simp only[Act.put,Ac,Ad,Ae]
    refine QH 8 ⟨some 47,_,_,_,_,_⟩ (h:=?_)
    try simp only[Act.put,Ac,Ad,Ae]
    refine wpAnyH_ready (rs:=[9]) tF tH ?_;refine AllReadyH.cons (o:=⟨some 48,_,_,_,_,_⟩) (rs:=[]) rfl (fun K hK=>?_) AllReadyH.nil
    go_simp
    go_at_call 81
    refine(HN _ HB2.out).out.mono ?_;rintro e V4 ⟨rfl,hb4⟩;have HB4:=Ax (HB2.out.trans (hb4.mono HB2.out.size));clear hb4
    try go_wp2_with fail
    clear hHeld;refine hK.out _ _ ?_ (fun hHeld=>?_)
    ·exact HSV.out _ HB4.out
    clear hK K
    try simp only[Act.put,Ac,Ad,Ae]
    refine QH 10 ⟨some 49,_,_,_,_,_⟩ (h:=?_)
    try simp only[Act.put,Ac,Ad,Ae]
    refine QH 11 ⟨some 50,_,_,_,_,_⟩ (h:=?_)
    try simp only[Act.put,Ac,Ad,Ae]
    refine QH 12 ⟨some 51,_,_,_,_,_⟩ (h:=?_)
    try simp only[Act.put,Ac,Ad,Ae]
    refine wpAnyH_ready (rs:=[13]) tF tH ?_;refine AllReadyH.cons (o:=⟨some 52,_,_,_,_,_⟩) (rs:=[]) rfl (fun K hK=>?_) AllReadyH.nil
    go_simp
    go_at_call 79
    refine(HE _ HB4.out).out.mono ?_;rintro e V5 ⟨rfl,hb5⟩;have HB5:=Ax (HB4.out.trans (hb5.mono HB4.out.size));clear hb5
    try go_wp2_with fail
    clear hHeld;refine hK.out _ _ ?_ (fun hHeld=>?_)
    ·exact HSV.out _ HB5.out
    clear hK K
    try simp only[Act.put,Ac,Ad,Ae]
    refine QH 14 ⟨some 53,_,_,_,_,_⟩ (h:=?_)
    try simp only[Act.put,Ac,Ad,Ae]
    refine QH 15 ⟨some 54,_,_,_,_,_⟩ (h:=?_)
    try simp only[Act.put,Ac,Ad,Ae]
    refine wpAnyH_ready (rs:=[16]) tF tH ?_;refine AllReadyH.cons (o:=⟨some 55,_,_,_,_,_⟩) (rs:=[]) rfl (fun K hK=>?_) AllReadyH.nil
    go_simp
    go_at_call 78
    refine(HSo _).out.mono ?_;rintro e V3 ⟨rfl,hb3⟩;have HB3:=Ax (HB5.out.trans (hb3.mono HB5.out.size));clear hb3
    try go_wp2_with fail
    clear hHeld;refine hK.out _ _ ?_ (fun hHeld=>?_)
    ·exact HSV.out _ HB3.out
    clear hK K
    try simp only[Act.put,Ac,Ad,Ae]
    refine QH 17 ⟨some 4,_,_,_,_,_⟩ (h:=?_)
    try simp only[Act.put,Ac,Ad,Ae]
    refine wpAnyH_done tF ?_ _;refine NoPanic.normal ?_;go_wp2_with fail;go_ret;exact⟨by rw[←HZ.out,←Hr.out];cases o<;>rfl,HB3.out⟩
open Go Go.RowKit Go.Lib
theorem jX (op:Int)(hn:J1 op=none)(h7:op≠7)(h8:op≠8)(h9:¬(9<=op/\op<=12))(h26:op≠26){v:Value}{ks:List Int}(w:World)(h:Md w v ks):Calls Tryz.prog 44 #[.int .u8 op,v] w fun e w'=>e= .returned (.int .u8 (Fx 0 ks))/\Below w.heap.size w w':=by
 have HC:=Ax (J8 op w);rw[hn] at HC;have HN:=fun V (hV:Below w.heap.size w V)=>Ax (Mt V (h.below hV))
 obtain⟨_,a,cc,rfl,_⟩:=h;have g7:(op==7)=false:=Af.2 h7;have g8:(op==8)=false:=Af.2 h8;have g9:(op==9)=false:=Af.2 tE;have g10:(op==10)=false:=Af.2 tE;have g11:(op==11)=false:=Af.2 tE;have g12:(op==12)=false:=Af.2 tE;have g26:(op==26)=false:=Af.2 h26;clear hn h7 h8 h9 h26;simp only[Option.getD_none,Option.isSome_none,ofV] at HC;go_enter Tryz.func44,Tryz.ntmps44;go_wp2_with fail;refine HC.out.mono ?_;rintro e V ⟨rfl,hb⟩;obtain⟨W1,hW1⟩:∃W1,V.alloc (.cells #[.int .u8 0,.int .u8 0] 169)=W1:=⟨_,rfl⟩;have hb1:Below V.heap.size V W1:=by rw[←hW1];exact(Aq _ V).alloc (Ak _) _
 have HW1:=Ax hW1;have HB1:=Ax (hb.trans (hb1.mono hb.size));clear hW1 hb1 hb HC;go_upto_region 5 with fail
 rw[HW1.out];clear HW1;go_wp2_with fail;refine(HN _ HB1.out).out.mono ?_;rintro e V2 ⟨rfl,hb2⟩;have HB2:=Ax (HB1.out.trans (hb2.mono HB1.out.size));clear hb2;go_wp2_with fail;go_ret;exact⟨rfl,HB2.out⟩
open Go Go.RowKit Go.Lib
theorem pE {v:Value}{ks:List Int}(h3:3<=ks.length)(w:World)(h:Md w v ks):Calls Tryz.prog 44 #[.int .u8 26,v] w fun e w'=>e= .returned (.int .u8 (if Qw 4 [ks.getD 0 0] && (ks.getD 1 0==ks.getD 2 0||ks.getD 1 0==0||ks.getD 2 0==0) then max (ks.getD 1 0) (ks.getD 2 0) else 255))/\Below w.heap.size w w':=by
 have HC:=Ax (J8 26 w);obtain⟨hlm,a,cc,rfl,hcell⟩:=h;obtain⟨b,off,rfl,c0⟩:=hcell 0 tE;obtain⟨_,_,e1,c1⟩:=hcell 1 tE;injection e1 with e1;injection e1 with e2 e3;subst e2 e3;obtain⟨_,_,e1,c2⟩:=hcell 2 tE;injection e1 with e1;injection e1 with e2 e3;subst e2 e3;simp only[List.getD_eq_getElem?_getD,Ag (show 0<ks.length by omega),Ag (show 1<ks.length by omega),Ag (show 2<ks.length by omega),Option.getD_some];obtain⟨x,hx⟩:∃x,ks[0]=x:=⟨_,rfl⟩;obtain⟨y,hy⟩:∃y,ks[1]=y:=⟨_,rfl⟩;obtain⟨z,hz⟩:∃z,ks[2]=z:=⟨_,rfl⟩;rw[hx] at c0;rw[hy] at c1;rw[hz] at c2;simp only[hx,hy,hz];rw[Nat.add_zero] at c0;have C0:=Ax c0;have C1:=Ax c1;have C2:=Ax c2;have i0:(0:Int)<(ks.length:Int):=by omega
 have i1:(1:Int)<(ks.length:Int):=by omega
 have i2:(2:Int)<(ks.length:Int):=by omega
 have HE:∀V:World,Hid (Calls Tryz.prog 79 #[.int .u8 4,.slice (some ⟨V.heap.size,0,none⟩) 1 1] (V.alloc (.cells #[.int .u8 x] 5)) fun e w'=>e= .returned (.bool (Qw 4 [x]))/\Below (V.alloc (.cells #[.int .u8 x] 5)).heap.size (V.alloc (.cells #[.int .u8 x] 5)) w'):=fun V=>by
  have hp:=A1 V (.cells #[.int .u8 x] 5);refine Ax (Qh 4 _ ⟨by simp,_,_,rfl,fun i hi=>⟨V.heap.size,0,rfl,?_⟩⟩);obtain rfl:i=0:=by simpa using hi
  simp only[World.cell?,hp];rfl
 obtain⟨q,hq⟩:∃q,Qw 4 [x]=q:=⟨_,rfl⟩;obtain⟨f,hf⟩:∃f,(y==z)=f:=⟨_,rfl⟩;obtain⟨g,hg⟩:∃g,(y==0)=g:=⟨_,rfl⟩;obtain⟨t,ht⟩:∃t,(z==0)=t:=⟨_,rfl⟩;obtain⟨m,hm⟩:∃m,max y z=m:=⟨_,rfl⟩;rw[hq,hf,hg,ht,hm];rw[hq] at HE;have HS:=fun(b:Bool) V=>Ax (K5 b m V)
 clear hcell hx hy hz hq c0 c1 c2;obtain⟨r,hr⟩:∃r:Int,(if q && (f||g||t) then m else 255)=r:=⟨_,rfl⟩;have HR:=Ax hr;rw[hr];clear hr;have HC:Hid (Calls Tryz.prog 77 #[.int .u8 26] w fun e w'=>e= .returned (.tuple #[.agg #[.int .u8 0,.int .u8 0],.bool false])/\Below w.heap.size w w'):=HC;go_enter Tryz.func44,Tryz.ntmps44;go_wp2_with fail;refine HC.out.mono ?_;rintro e V ⟨rfl,hb⟩;obtain⟨W1,hW1⟩:∃W1,V.alloc (.cells #[.int .u8 0,.int .u8 0] 169)=W1:=⟨_,rfl⟩;have hb1:Below V.heap.size V W1:=by rw[←hW1];exact(Aq _ V).alloc (Ak _) _
 have hb':=hb.trans (hb1.mono hb.size);have c1:=Ba hb' C1.out;have c2:=Ba hb' C2.out;have HW1:=Ax hW1;have HB1:=Ax hb';clear hW1 hb1 hb hb' HC;go_upto_region 14 with fail
 rw[HW1.out];clear HW1;go_quiet (fail);obtain⟨W2,hW2⟩:∃W2,W1.drewN nq=W2:=⟨_,rfl⟩;have HB2:Hid (Below w.heap.size w W2):=Ax (by rw[←hW2];exact Bg HB1.out nq);rw[hW2];clear hW2 c1 c2;have c0:=Ba HB2.out C0.out;have hbA:Below w.heap.size w (W2.alloc (.cells #[.int .u8 x] 5)):=HB2.out.alloc HB2.out.size _;have HA:=Ax hbA;have HEA:=HE W2;clear hbA;cases q with
 |false=>
  exact zyg
 |true=>
  cases f
  all_goals
   cases g
   all_goals
    cases t
    all_goals
     exact zyg
open Go Go.RowKit Go.Lib
theorem gK (op:Int){v:Value}{ks:List Int}(h2:7<=op->op<=12->2<=ks.length)(h3:op=26->3<=ks.length)(h0:∀x∈ks,0<=x)(w:World)(h:Md w v ks):Calls Tryz.prog 44 #[.int .u8 op,v] w fun e w'=>e= .returned (.int .u8 (Fa op ks))/\Below w.heap.size w w':=by
 unfold Fa;cases hc:J1 op with
 |some c=>exact cC op c.1 c.2 hc w h
 |none=>
  simp only;by_cases h78:op=7\/op=8
  ·rw[Ap h78];exact fD op h78 (h2 tE tE) h0 w h
  rw[Ao h78];by_cases h9:9<=op/\op<=12
  ·rw[Ap h9];exact lS op h9.1 h9.2 (h2 tE tE) h0 w h
  rw[Ao h9];by_cases h26:op=26
  ·subst h26;rw[Ap rfl];exact pE (h3 rfl) w h
  rw[Ao h26];exact jX op hc (fun e=>h78 (.inl e)) (fun e=>h78 (.inr e)) h9 h26 w h
end Go.Proofs.YtmpfilddeglgbaaGreatDoor

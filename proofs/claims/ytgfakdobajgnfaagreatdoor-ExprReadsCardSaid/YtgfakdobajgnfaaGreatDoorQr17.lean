import Derived.Shelf.Abstract
import Derived.Shelf.RegionOpen
import Derived.OwnWalkIn
import Derived.TacticsInMore
import Derived.LoopNIn
import Derived.LoopIn
import Derived.WalkSmall
import Derived.Test.YtgfakdobajgnfaaGreatDoorQr14
import Derived.Test.YtgfakdobajgnfaaGreatDoorQr16
namespace Go.Proofs.YtgfakdobajgnfaaGreatDoor
open Go Go.RowKit Go.Lib Go.Shelf
attribute [local go_sem] Oper.semAt_some
structure It where
 ptr:Nat
 i:Nat
 line:Int
 col:Int
def itV (x:It):Array Value:= #[.pointer (some ⟨x.ptr,0,none⟩),.agg #[.int .i64 x.line,.int .i64 x.col]]
def itT:TypeId→Prop:=fun t=>t=33∨t=3
def tkOf (l:List UInt8)(x:It):Tkn:=match wordL (l.drop x.i) with
 | .ok p=>⟨p.1,x.line,x.col⟩
 | .error _=>⟨⟨0,[],v0⟩,0,0⟩
def appE (ts:List Tkn):Except (Int×Int×Int) (List Tkn)→Except (Int×Int×Int) (List Tkn)
 | .error e=> .error e
 | .ok us=> .ok (ts++us)
theorem appE_nil (x:Except (Int×Int×Int) (List Tkn)):appE [] x=x:=by cases x<;>rfl
theorem appE_cons (ts:List Tkn)(t:Tkn)(x:Except (Int×Int×Int) (List Tkn)):appE ts (consW t x)=appE (ts++[t]) x:=by
 cases x with
 |error e=>rfl
 |ok us=>show Except.ok (ts++t::us)=Except.ok (ts++[t]++us);simp
structure Offer (s:ByteArray)(n0:Nat)(pre:List It)(x:It)(W:World):Prop where
 box:W.heap[x.ptr]? =some (.cells #[.int .i64 (x.i:Nat)] 3 (0,0))
 low:n0≤x.ptr
 lt:x.i<s.size
 beg:begC (s[x.i]'lt)
 law:LX (dl s) 1 1=appE (pre.map (tkOf (dl s))) (LX ((dl s).drop x.i) x.line x.col)
 cnt:pre.length≤x.i
structure Kept (s:ByteArray)(n0 sb:Nat)(x:It)(W W':World):Prop where
 same:∀k cs t fz,n0≤k→k≠x.ptr→itT t→W.heap[k]? =some (.cells cs t fz)→W'.heap[k]? =some (.cells cs t fz)
 sbox:∀cs fz,W.heap[sb]? =some (.cells cs 9 fz)→W'.heap[sb]? =some (.cells cs 9 fz)
 done:∃wd m,wordL ((dl s).drop x.i)= .ok (wd,m)∧W'.heap[x.ptr]? =some (.cells #[.int .i64 (m:Nat)] 3 (0,0))
structure Stands (s:ByteArray)(pre:List It)(i:Nat)(line col:Int):Prop where
 law:LX (dl s) 1 1=appE (pre.map (tkOf (dl s))) (LX ((dl s).drop i) line col)
 l1:1≤line
 l2:line≤1+i
 c1:1≤col
 c2:col≤1+i
 cnt:pre.length≤i
theorem Turn.set {T:TypeId→Prop}{B k i:Nat}{W:World}{cs:Array Value}{t:TypeId}{fz:Nat×Nat}(h:W.heap[k]? =some (.cells cs t fz))(ht:T t)(hB:B≤k)(v:Value):Turn T B W (W.setCell ⟨k,i,none⟩ v):=
 ⟨some k,⟨rfl,rfl,rfl,by simp [World.setCell],fun j _ hj=>Below.heap_setCell _ _ _ _ (by rintro rfl;exact hj rfl)⟩,fun r e=>by cases e;exact⟨hB,.inr ⟨_,_,_,ht,h⟩⟩⟩
theorem Turn.drew (T:TypeId→Prop)(B:Nat)(W:World):Turn T B W W.drew:=⟨none,⟨rfl,rfl,rfl,Nat.le_refl _,fun _ _ _=>rfl⟩,fun r e=>by cases e⟩
theorem Stands.down {s:ByteArray}{pre:List It}{i:Nat}{line col:Int}(h:Stands s pre i line col){r:List UInt8}(hd:(dl s).drop i=10::r):Stands s pre (i+1) (line+1) 1:=by
 have hr:(dl s).drop (i+1)=r:=by rw[←List.drop_drop,hd];rfl
 have:=h.l1;have:=h.l2;have:=h.cnt
 refine⟨?_,by omega,by omega,by omega,by omega,by omega⟩
 rw[h.law,hd,LX_line,hr]
theorem Stands.blank {s:ByteArray}{pre:List It}{i:Nat}{line col:Int}(h:Stands s pre i line col){r:List UInt8}(hd:(dl s).drop i=32::r):Stands s pre (i+1) line (col+1):=by
 have hr:(dl s).drop (i+1)=r:=by rw[←List.drop_drop,hd];rfl
 have:=h.l1;have:=h.l2;have:=h.c1;have:=h.c2;have:=h.cnt
 refine⟨?_,by omega,by omega,by omega,by omega,by omega⟩
 rw[h.law,hd,LX_blank,hr]
theorem Stands.rem {s:ByteArray}{pre:List It}{i:Nat}{line col:Int}(h:Stands s pre i line col){r:List UInt8}(hd:(dl s).drop i=59::r):Stands s pre (i+spanL no10 ((dl s).drop i)) line (col+spanL no10 ((dl s).drop i)):=by
 have:=h.l1;have:=h.l2;have:=h.c1;have:=h.c2;have:=h.cnt
 refine⟨?_,by omega,by omega,by omega,by omega,by omega⟩
 rw[h.law,←List.drop_drop,hd,LX_rem]
theorem tkOf_ok {l:List UInt8}{x:It}{wd:Wd}{m:Nat}(h:wordL (l.drop x.i)= .ok (wd,m)):tkOf l x=⟨wd,x.line,x.col⟩:=by
 unfold tkOf
 rw[h]
theorem Stands.word {s:ByteArray}{pre:List It}{x:It}(h:Stands s pre x.i x.line x.col){c:UInt8}{r:List UInt8}(hd:(dl s).drop x.i=c::r)(hc:begC c){wd:Wd}{m:Nat}(hw:wordL ((dl s).drop x.i)= .ok (wd,m)):Stands s (pre++[x]) (x.i+m) x.line (x.col+m):=by
 have:=h.l1;have:=h.l2;have:=h.c1;have:=h.c2;have:=h.cnt
 obtain⟨hm1,_⟩:=wordL_len hw
 refine⟨?_,by omega,by omega,by omega,by omega,by simp;omega⟩
 rw[h.law,←List.drop_drop,List.map_append,List.map_singleton,tkOf_ok hw]
 rw[hd] at hw ⊢
 rw[LX_word hc hw,appE_cons]
theorem Stands.done {s:ByteArray}{pre:List It}{line col:Int}(h:Stands s pre s.size line col):LX (dl s) 1 1= .ok (pre.map (tkOf (dl s))):=by
 rw[h.law,List.drop_of_length_le (by rw[dl_size];exact Nat.le_refl _),LX_nil]
 simp [appE]
structure Gs (J:List It→World→Prop)(s:ByteArray)(B sb:Nat)(pre:List It)(line col:Int)(wr:World):Prop where
 lt:B<wr.heap.size
 at':wr.heap[B]? =some (.cells #[.int .i64 line,.int .i64 col] 33 (0,0))
 src:wr.heap[sb]? =some (.cells #[.string s] 9 (0,0))
 j:J pre wr
section
variable {J:List It→World→Prop} {s:ByteArray} {B sb:Nat} {pre:List It} {line col:Int} {wr:World}
theorem Gs.setL (h:Gs J s B sb pre line col wr)(hs:sb<B)(hJ:∀s A C,J s A→Turn itT B A C→J s C)(x:Int):Gs J s B sb pre x col (wr.setCell ⟨B,0,none⟩ (.int .i64 x)):=
 ⟨by simp [World.setCell];exact h.lt,by rw[setCell_heap h.at'];rfl,(Below.heap_setCell _ _ _ _ (by simp;omega)).trans h.src,hJ _ _ _ h.j (Turn.set h.at' (.inl rfl) (Nat.le_refl _) _)⟩
theorem Gs.setC (h:Gs J s B sb pre line col wr)(hs:sb<B)(hJ:∀s A C,J s A→Turn itT B A C→J s C)(x:Int):Gs J s B sb pre line x (wr.setCell ⟨B,1,none⟩ (.int .i64 x)):=
 ⟨by simp [World.setCell];exact h.lt,by rw[setCell_heap h.at'];rfl,(Below.heap_setCell _ _ _ _ (by simp;omega)).trans h.src,hJ _ _ _ h.j (Turn.set h.at' (.inl rfl) (Nat.le_refl _) _)⟩
theorem Gs.alloc (h:Gs J s B sb pre line col wr)(hs:sb<B)(hJ:∀s A C,J s A→Turn itT B A C→J s C)(o:Obj):Gs J s B sb pre line col (wr.alloc o):=
 ⟨by have:=h.lt;simp;omega,(Below.heap_alloc _ _ _ h.lt).trans h.at',(Below.heap_alloc _ _ _ (by have:=h.lt;omega)).trans h.src,hJ _ _ _ h.j (Turn.new _ _ _ _)⟩
theorem Gs.drew (h:Gs J s B sb pre line col wr)(hJ:∀s A C,J s A→Turn itT B A C→J s C):Gs J s B sb pre line col wr.drew:=
 ⟨h.lt,h.at',h.src,hJ _ _ _ h.j (Turn.drew _ _ _)⟩
end
set_option maxRecDepth 100000 in
set_option maxHeartbeats 8000000 in
theorem starts_tells (n:Nat)(s:ByteArray)(hs:s.size≤65536)(sb:Nat)(w:World)(hsb:w.heap[sb]? =some (.cells #[.string s] 9 (0,0)))(hn:2≤n):
 Tells Fence.wide n Tryz.prog 138 #[.pointer (some ⟨sb,0,none⟩)] itV itT (Offer s w.heap.size) (Kept s w.heap.size sb) (fun xs=>LX (dl s) 1 1= .ok (xs.map (tkOf (dl s)))) w:=by
 intro l J Jx W hW hgt hJ hJx hY h0
 have hsl:sb<w.heap.size:=lt_of_heap hsb
 have hsW:=(hW.block sb hsl).trans hsb
 have hg0:Gs J s W.heap.size sb [] 1 1 (W.alloc (.cells #[.int .i64 1,.int .i64 1] 33)):=
  ⟨by simp,(MapKept.heap_alloc W _).1,(Below.heap_alloc _ _ _ (by omega)).trans hsW,hJ _ _ _ h0 (Turn.new itT W.heap.size W _)⟩
 have HG0:=hide hg0
 have HJ:=hide hJ
 have HJx:=hide hJx
 have HY:=hide hY
 clear hg0 hJ hJx hY h0 hsW hsb hW
 refine callsIn_of_wp Tryz.func138 rfl trivial ?_ rfl
 simp only[Tryz.ntmps138,List.size_toArray,List.length_cons,List.length_nil,Nat.reduceAdd,Nat.reduceSub,Array.replicate_succ,Array.replicate_zero,List.push_toArray,List.append_toArray,List.nil_append,List.cons_append]
 gi_wp2
 gi_loopw [4] (fun v4 wr=>∃(i:Nat) (line col:Int) (pre:List It),i≤s.size∧v4= .int .i64 i∧Hid (Gs J s W.heap.size sb pre line col wr)∧Hid (Stands s pre i line col)) (fun v4 _=>s.size - (intOf v4).toNat)
 case atStart=>exact⟨0,1,1,[],Nat.zero_le _,rfl,HG0.out,⟨by rw[List.map_nil,appE_nil,List.drop_zero],by omega,by omega,by omega,by omega,by simp⟩⟩
 case round=>
  clear HG0
  obtain⟨i,line,col,pre,hi,rfl,hg,hst⟩:=hrel
  have hlt:=hg.out.lt
  have c0:wr.cell? ⟨W.heap.size,0,none⟩=some (.int .i64 line):=by simp [World.cell?,hg.out.at']
  have c1:wr.cell? ⟨W.heap.size,1,none⟩=some (.int .i64 col):=by simp [World.cell?,hg.out.at']
  have f0:∀j,wr.frozen? ⟨W.heap.size,j,none⟩=false:=fun j=>by simp [World.frozen?,hg.out.at']
  have cs:wr.cell? ⟨sb,0,none⟩=some (.string s):=by simp [World.cell?,hg.out.src]
  have hsb2:sb<wr.heap.size:=by omega
  have hsW2:sb<W.heap.size:=by omega
  have hl2:=hst.out.l2
  have hl1:=hst.out.l1
  have hc2:=hst.out.c2
  have hc1:=hst.out.c1
  by_cases hlk:i<s.size
  ·have i1:(i:Int)<(s.size:Int):=by omega
   have i0:(0:Int)≤(i:Int):=by omega
   have hdr:(dl s).drop i=s[i]::(dl s).drop (i+1):=by
    have l1:i<(dl s).length:=by rw[dl_size];exact hlk
    rw[List.drop_eq_getElem_cons l1]
    rfl
   have Hdr:=hide hdr
   clear hdr
   have hne:∀d:UInt8,s[i]≠d→((s[i].toNat:Int)==(d.toNat:Int))=false:=fun d hd=>by
    have:s[i].toNat≠d.toNat:=fun e=>hd (UInt8.toNat_inj.1 e)
    simp
    omega
   by_cases h10:s[i]=10
   ·have j1:((s[i].toNat:Int)==10)=true:=by rw[h10];rfl
    have Hst2:=hide (hst.out.down (by rw[Hdr.out,h10]))
    have Hg2:=hide (((((hg.out.setL hsW2 HJ.out (line+1)).setC hsW2 HJ.out 0).setC hsW2 HJ.out 1).alloc hsW2 HJ.out (.cells #[.int .i64 1] 3)).drew HJ.out)
    clear hne h10 Hdr
    gi_wp2
    gi_region
    all_goals
     gi_wp2
     go_roundw
     case rel=>exact⟨i+1,line+1,1,pre,by omega,by go_num,Hg2.out,Hst2.out⟩
     case measure=>simp [intOf];omega
   have j1:((s[i].toNat:Int)==10)=false:=hne 10 h10
   by_cases h59:s[i]=59
   ·have j2:((s[i].toNat:Int)==59)=true:=by rw[h59];rfl
    have hst2:=hst.out.rem (by rw[Hdr.out,h59])
    have hpos:1≤spanL no10 ((dl s).drop i):=by rw[Hdr.out];exact spanL_pos (by rw[h59];rfl)
    have hle:=spanL_le no10 ((dl s).drop i)
    rw[List.length_drop,dl_size] at hle
    have hwh:=fun V=>while_pure s 140 no10 (fun args w=>by kernel_rfl) (by omega) i V (by omega) fun c V=>line_any c V
    obtain⟨m,hm⟩:∃m,spanL no10 ((dl s).drop i)=m:=⟨_,rfl⟩
    rw[hm] at hst2 hpos hle
    simp only[hm] at hwh
    have Hst2:=hide hst2
    have Hwh:=hide hwh
    have Hg2:=hide (((hg.out.setC hsW2 HJ.out (col+m)).alloc hsW2 HJ.out (.cells #[.int .i64 (m:Nat)] 3)).drew HJ.out)
    clear hne h59 Hdr hst2 hwh hm h10
    gi_wp2
    refine⟨trivial,fun _=>by omega,?_⟩
    refine(callsIn_wide.2 (Hwh.out _)).mono ?_
    rintro e V ⟨rfl,rfl⟩
    gi_wp2
    gi_region
    all_goals
     gi_wp2
     go_roundw
     case rel=>exact⟨i+m,line,col+m,pre,by omega,by go_num,Hg2.out,Hst2.out⟩
     case measure=>simp [intOf];omega
   have j2:((s[i].toNat:Int)==59)=false:=hne 59 h59
   by_cases h32:s[i]=32
   ·have j3:((s[i].toNat:Int) !=32)=false:=by rw[h32];rfl
    have Hst2:=hide (hst.out.blank (by rw[Hdr.out,h32]))
    have Hg2:=hide (((hg.out.setC hsW2 HJ.out (col+1)).alloc hsW2 HJ.out (.cells #[.int .i64 1] 3)).drew HJ.out)
    clear hne h10 h59 h32 Hdr
    gi_wp2
    gi_region
    all_goals
     gi_wp2
     go_roundw
     case rel=>exact⟨i+1,line,col+1,pre,by omega,by go_num,Hg2.out,Hst2.out⟩
     case measure=>simp [intOf];omega
   ·have j3:((s[i].toNat:Int) !=32)=true:=by
     have:=hne 32 h32
     simpa using this
    have hbeg:begC s[i]:=⟨h10,h59,h32⟩
    have hge:=hg.out.alloc hsW2 HJ.out (.cells #[.int .i64 (i:Nat)] 3)
    have hof:Offer s w.heap.size pre ⟨wr.heap.size,i,line,col⟩ (wr.alloc (.cells #[.int .i64 (i:Nat)] 3)):=⟨(MapKept.heap_alloc wr _).1,(by simp only;omega),hlk,hbeg,hst.out.law,hst.out.cnt⟩
    obtain⟨fn,tmps,assign,body,hy,hR⟩:=HY.out pre ⟨wr.heap.size,i,line,col⟩ _ hge.j hof
    unfold itV at hy
    have Hge:=hide hge
    have HR:=hide hR
    have Hbeg:=hide hbeg
    clear hge hof hR hbeg hne h10 h59 h32
    gi_wp2
    refine⟨fun _=>by omega,?_⟩
    refine HR.out.mono ?_
    rintro e A (⟨rfl,hjA,hkp⟩|⟨rfl,hjx⟩)
    ·obtain⟨wd,m,hwd,hbox⟩:=hkp.done
     simp only at hwd hbox
     have hat:=hkp.same W.heap.size _ _ _ (by omega) (by simp only;omega) (.inl rfl) Hge.out.at'
     have hsr:=hkp.sbox _ _ Hge.out.src
     have hgA:Gs J s W.heap.size sb (pre++[⟨wr.heap.size,i,line,col⟩]) line col A:=⟨lt_of_heap hat,hat,hsr,hjA⟩
     have hst2:=Stands.word (x:=⟨wr.heap.size,i,line,col⟩) hst.out Hdr.out Hbeg.out hwd
     simp only at hst2
     obtain⟨hm1,hm2⟩:=wordL_len hwd
     rw[List.length_drop,dl_size] at hm2
     have d0:A.cell? ⟨W.heap.size,0,none⟩=some (.int .i64 line):=by simp [World.cell?,hat]
     have d1:A.cell? ⟨W.heap.size,1,none⟩=some (.int .i64 col):=by simp [World.cell?,hat]
     have g0:∀j,A.frozen? ⟨W.heap.size,j,none⟩=false:=fun j=>by simp [World.frozen?,hat]
     have d2:A.cell? ⟨wr.heap.size,0,none⟩=some (.int .i64 (m:Nat)):=by simp [World.cell?,hbox]
     have Hg2:=hide ((hgA.setC hsW2 HJ.out (col+m)).drew HJ.out)
     have Hst2:=hide hst2
     clear hwd hbox hat hsr hgA hst2 hkp hjA Hge HR hy hst hg Hdr c0 c1 f0 cs
     gi_wp2
     gi_region
     all_goals
      gi_wp2
      go_roundw
      case rel=>exact⟨i+m,line,col+m,_,by omega,by go_num,Hg2.out,Hst2.out⟩
      case measure=>simp [intOf];omega
    ·gi_wp2
     refine bodyPost_ret (results_none rfl _ _ _) rfl ?_
     exact⟨⟨_,rfl⟩,.inr ⟨_,hjx⟩⟩
  ·obtain rfl:i=s.size:=by omega
   have Hd:=hide hst.out.done
   clear hst hl1 hl2 hc1 hc2
   gi_wp2
   go_end0
   exact⟨⟨_,rfl⟩,.inl ⟨pre,Hd.out,hg.out.j⟩⟩
end Go.Proofs.YtgfakdobajgnfaaGreatDoor

import Derived.Great.BuildSlice
import Derived.Deep.WholeRow
import Derived.Deep.RegionWith
import Derived.Test.YtmpfilddeglgbaaGreatDoorQj14
set_option maxRecDepth 100000
set_option maxHeartbeats 16000000
namespace Go.Proofs.YtmpfilddeglgbaaGreatDoor
open Go Go.RowKit Go.Lib Go.Sort Go.Shelf
theorem kG {P:Program}{fn:Func}{tmps:Array Value}{W:World}{v:Value}{t:TypeId}{p:Addr}(hr:fn.results= #[.cell 0 t])(h0:tmps.getD 0 undef= .pointer (some p))(hl:(loadVar t p).run P W= .ok v W):(results fn tmps).run P W= .ok v W:=by
 have h1:(tmps[0]?.getD undef)= .pointer (some p):=by simpa using h0
 unfold results;rw[hr];simp [h1,hl,asAddr]
def Sh:Array Value:= #[.string ⟨#[]⟩,.int .i64 8,.string ⟨#[]⟩,.int .i64 8,.string ⟨#[]⟩,.int .i64 8,.string ⟨#[]⟩,.int .i64 8,.string ⟨#[111,114]⟩,.int .i64 0,.string ⟨#[97,110,100]⟩,.int .i64 1,.string ⟨#[110,111,116,32]⟩,.int .i64 2,.string ⟨#[61]⟩,.int .i64 3,.string ⟨#[60,62]⟩,.int .i64 3,.string ⟨#[60]⟩,.int .i64 3,.string ⟨#[60,61]⟩,.int .i64 3,.string ⟨#[62]⟩,.int .i64 3,.string ⟨#[62,61]⟩,.int .i64 3,.string ⟨#[43]⟩,.int .i64 4,.string ⟨#[45]⟩,.int .i64 4,.string ⟨#[42]⟩,.int .i64 5,.string ⟨#[47]⟩,.int .i64 5,.string ⟨#[45]⟩,.int .i64 6,.string ⟨#[97,98,115]⟩,.int .i64 8,.string ⟨#[109,105,110]⟩,.int .i64 8,.string ⟨#[109,97,120]⟩,.int .i64 8,.string ⟨#[109,111,100]⟩,.int .i64 8,.string ⟨#[108,101,110,103,116,104]⟩,.int .i64 8,.string ⟨#[117,112,112,101,114]⟩,.int .i64 8,.string ⟨#[99,111,110,116,97,105,110,115]⟩,.int .i64 8,.string ⟨#[115,116,97,114,116,115]⟩,.int .i64 8,.string ⟨#[105,102]⟩,.int .i64 8]
def Qc:Value:= .agg Sh
theorem cZ (w:World):Calls Tryz.prog 74 #[] w fun e w'=>e= .returned Qc/\Below w.heap.size w w':=by
 go_enter Tryz.func74,Tryz.ntmps74;go_upto_region 1 with (fail)
 refine wp_region_lit ?_;refine Great.wpList_readTo rfl (some 1) rfl (.agg #[.string ⟨#[]⟩,.int .i64 8]) tF ?_;refine Great.wpList_readTo rfl (some 2) rfl (.agg #[.string ⟨#[]⟩,.int .i64 8]) tF ?_;refine Great.wpList_readTo rfl (some 3) rfl (.agg #[.string ⟨#[]⟩,.int .i64 8]) tF ?_;refine Great.wpList_readTo rfl (some 4) rfl (.agg #[.string ⟨#[]⟩,.int .i64 8]) tF ?_;refine Great.wpList_readTo rfl (some 5) rfl (.agg #[.string ⟨#[111,114]⟩,.int .i64 0]) tF ?_;refine Great.wpList_readTo rfl (some 6) rfl (.agg #[.string ⟨#[97,110,100]⟩,.int .i64 1]) tF ?_;refine Great.wpList_readTo rfl (some 7) rfl (.agg #[.string ⟨#[110,111,116,32]⟩,.int .i64 2]) tF ?_;refine Great.wpList_readTo rfl (some 8) rfl (.agg #[.string ⟨#[61]⟩,.int .i64 3]) tF ?_;refine Great.wpList_readTo rfl (some 9) rfl (.agg #[.string ⟨#[60,62]⟩,.int .i64 3]) tF ?_;refine Great.wpList_readTo rfl (some 10) rfl (.agg #[.string ⟨#[60]⟩,.int .i64 3]) tF ?_;refine Great.wpList_readTo rfl (some 11) rfl (.agg #[.string ⟨#[60,61]⟩,.int .i64 3]) tF ?_;refine Great.wpList_readTo rfl (some 12) rfl (.agg #[.string ⟨#[62]⟩,.int .i64 3]) tF ?_;refine Great.wpList_readTo rfl (some 13) rfl (.agg #[.string ⟨#[62,61]⟩,.int .i64 3]) tF ?_;refine Great.wpList_readTo rfl (some 14) rfl (.agg #[.string ⟨#[43]⟩,.int .i64 4]) tF ?_;refine Great.wpList_readTo rfl (some 15) rfl (.agg #[.string ⟨#[45]⟩,.int .i64 4]) tF ?_;refine Great.wpList_readTo rfl (some 16) rfl (.agg #[.string ⟨#[42]⟩,.int .i64 5]) tF ?_;refine Great.wpList_readTo rfl (some 17) rfl (.agg #[.string ⟨#[47]⟩,.int .i64 5]) tF ?_;refine Great.wpList_readTo rfl (some 18) rfl (.agg #[.string ⟨#[45]⟩,.int .i64 6]) tF ?_;refine Great.wpList_readTo rfl (some 19) rfl (.agg #[.string ⟨#[97,98,115]⟩,.int .i64 8]) tF ?_;refine Great.wpList_readTo rfl (some 20) rfl (.agg #[.string ⟨#[109,105,110]⟩,.int .i64 8]) tF ?_;refine Great.wpList_readTo rfl (some 21) rfl (.agg #[.string ⟨#[109,97,120]⟩,.int .i64 8]) tF ?_;refine Great.wpList_readTo rfl (some 22) rfl (.agg #[.string ⟨#[109,111,100]⟩,.int .i64 8]) tF ?_;refine Great.wpList_readTo rfl (some 23) rfl (.agg #[.string ⟨#[108,101,110,103,116,104]⟩,.int .i64 8]) tF ?_;refine Great.wpList_readTo rfl (some 24) rfl (.agg #[.string ⟨#[117,112,112,101,114]⟩,.int .i64 8]) tF ?_;refine Great.wpList_readTo rfl (some 25) rfl (.agg #[.string ⟨#[99,111,110,116,97,105,110,115]⟩,.int .i64 8]) tF ?_;refine Great.wpList_readTo rfl (some 26) rfl (.agg #[.string ⟨#[115,116,97,114,116,115]⟩,.int .i64 8]) tF ?_;refine Great.wpList_readTo rfl (some 27) rfl (.agg #[.string ⟨#[105,102]⟩,.int .i64 8]) tF ?_;refine Great.wpList_readTo rfl (some 28) rfl (.agg Sh) tF ?_;refine wpList_store_rowTo rfl 164 (.tmp 0) (.tmp 28) rfl rfl w.heap.size Sh tF tF 164 #[.string ⟨#[]⟩,.int .i64 0,.string ⟨#[]⟩,.int .i64 0,.string ⟨#[]⟩,.int .i64 0,.string ⟨#[]⟩,.int .i64 0,.string ⟨#[]⟩,.int .i64 0,.string ⟨#[]⟩,.int .i64 0,.string ⟨#[]⟩,.int .i64 0,.string ⟨#[]⟩,.int .i64 0,.string ⟨#[]⟩,.int .i64 0,.string ⟨#[]⟩,.int .i64 0,.string ⟨#[]⟩,.int .i64 0,.string ⟨#[]⟩,.int .i64 0,.string ⟨#[]⟩,.int .i64 0,.string ⟨#[]⟩,.int .i64 0,.string ⟨#[]⟩,.int .i64 0,.string ⟨#[]⟩,.int .i64 0,.string ⟨#[]⟩,.int .i64 0,.string ⟨#[]⟩,.int .i64 0,.string ⟨#[]⟩,.int .i64 0,.string ⟨#[]⟩,.int .i64 0,.string ⟨#[]⟩,.int .i64 0,.string ⟨#[]⟩,.int .i64 0,.string ⟨#[]⟩,.int .i64 0,.string ⟨#[]⟩,.int .i64 0,.string ⟨#[]⟩,.int .i64 0,.string ⟨#[]⟩,.int .i64 0,.string ⟨#[]⟩,.int .i64 0] (A1 w _) tF tF tF ?_;rw[World.setRow_alloc_new];refine wpList_nil ?_
 rename_i K hK
 refine hK _ _ ?_;refine wp_ret ?_;show bodyPost Tryz.prog Tryz.f74 (fun e w'=>e= .returned Qc/\Below w.heap.size w w') Exit.ret _ _;refine Au (fn:=Tryz.f74) (R:=fun e w'=>e= .returned Qc/\Below w.heap.size w w') (v:=Qc) ?_ tF ⟨rfl,?_⟩
 ·exact kG rfl tF (run_loadVar_row _ _ _ _ Sh (0,0) _ (A1 w _) Tryz.underlying164 rfl tF)
 exact(Aq _ w).alloc (Ak _) _
def F2 (op:Int):Value:= .agg #[.string ⟨(C5 op).toArray⟩,.int .i64 (A8 op:Int)]
theorem Rl (op:Int)(h0:0<=op)(h1:op<=26)(w:World):(Instr.index 164 Qc (.int .u8 op)).run Tryz.prog w= .ok (F2 op) w:=by
 obtain rfl|rfl|rfl|rfl|rfl|rfl|rfl|rfl|rfl|rfl|rfl|rfl|rfl|rfl|rfl|rfl|rfl|rfl|rfl|rfl|rfl|rfl|rfl|rfl|rfl|rfl|rfl:op=0\/op=1\/op=2\/op=3\/op=4\/op=5\/op=6\/op=7\/op=8\/op=9\/op=10\/op=11\/op=12\/op=13\/op=14\/op=15\/op=16\/op=17\/op=18\/op=19\/op=20\/op=21\/op=22\/op=23\/op=24\/op=25\/op=26:=by omega
 all_goals kernel_rfl
theorem L8 (op:Int)(h0:0<=op)(w:World):Calls Tryz.prog 41 #[.int .u8 op] w fun e w'=>e= .returned (F2 op)/\Below w.heap.size w w':=by
 have hs:=Ax (cZ (w.alloc (.cells #[.string ⟨#[]⟩,.int .i64 0] 101)));have hbA:=Ax ((Aq _ w).alloc (Ak _) (.cells #[.string ⟨#[]⟩,.int .i64 0] 101));have hpA:=Ax (A1 w (.cells #[.string ⟨#[]⟩,.int .i64 0] 101));by_cases h26:op<=26
 ·have hix:=fun V=>Rl op h0 h26 V
  have i1:decide ((26:Int)<op)=false:=An tE;clear h26;unfold F2 at hix ⊢;go_enter Tryz.func41,Tryz.ntmps41;go_wp2_with fail;refine hs.out.mono ?_;rintro e V ⟨rfl,hb⟩;have hbb:Below w.heap.size w V:=hbA.out.trans (hb.mono hbA.out.size);have hp:=(hb.block _ (Ay hpA.out)).trans hpA.out;obtain⟨c0,c1,cf⟩:=Bo hp;have cf0:=cf 0;have cf1:=cf 1;have HB:=Ax hbb;clear hb hbb hp cf hbA hpA;go_wp2_with fail;refine Au (v:= .agg #[.string ⟨(C5 op).toArray⟩,.int .i64 (A8 op:Int)]) (by simp [results,Tryz.results41,go_sem, *]) rfl ⟨rfl,?_⟩;exact(HB.out.setCell (Ak _) _).setCell (Ak _) _
 have hix:=fun V=>Rl 0 tG tG V
 have i1:decide ((26:Int)<op)=true:=Am tE
 have hv:F2 op=F2 0:=by
  have:O5 op=O5 0:=by
   unfold O5
   repeat rw[Ao tE]
  unfold F2 C5 A8;rw[this]
 rw[hv];clear h26 hv;unfold F2 at hix ⊢;go_enter Tryz.func41,Tryz.ntmps41;go_wp2_with fail;refine hs.out.mono ?_;rintro e V ⟨rfl,hb⟩;have hbb:Below w.heap.size w V:=hbA.out.trans (hb.mono hbA.out.size);have hp:=(hb.block _ (Ay hpA.out)).trans hpA.out;obtain⟨c0,c1,cf⟩:=Bo hp;have cf0:=cf 0;have cf1:=cf 1;have HB:=Ax hbb;clear hb hbb hp cf hbA hpA;go_wp2_with fail;refine Au (v:= .agg #[.string ⟨(C5 0).toArray⟩,.int .i64 (A8 0:Int)]) (by simp [results,Tryz.results41,go_sem, *]) rfl ⟨rfl,?_⟩;exact(HB.out.setCell (Ak _) _).setCell (Ak _) _
open Go Go.Lib
def Nd.up (k:Nat)(n:Nd):Nd:=⟨n.h,n.kids.map (· +k)⟩
open Go Go.RowKit Go.Lib Go.Sort Go.Shelf
theorem Ii.form {w:World}{B:Nat}{X:List Nat}{v:Value}{nds:List Nd}(h:Ii w B X v nds)(hn:0<nds.length):∃g c,v= .slice (some ⟨g,0,none⟩) nds.length c/\nds.length<=c/\B<=g:=by
 obtain⟨kvs,h1,_⟩:=h;rcases h1.2 with ⟨_,h0⟩|⟨g,cap,cur,rfl,hB,_,hc,_⟩
 ·omega
 exact⟨g,cap,rfl,hc,hB⟩
theorem Ii.slice {w:World}{B:Nat}{X:List Nat}{v:Value}{nds:List Nd}(h:Ii w B X v nds):∃a c,v= .slice a nds.length c:=by
 obtain⟨kvs,h1,_⟩:=h;exact Er h1
theorem Ii.nil (w:World)(B:Nat):Ii w B [] (.slice none 0 0) []:=⟨[],World.ownsRow_nil w B 38 8,trivial⟩
theorem Z0 {B:Nat}{a b c:World}{v:Value}(h:Below B a b)(hg:b.grownBy c v.ownBlock)(hv:∀g,v.ownBlock=some g->B<=g)(hB:B<=b.heap.size):Below B a c:=
 Bv h (Bc.of_grown hg v.ownBlock.toList fun k hk=>by simp [hk]) (fun i hi=>hv i vX) hB
theorem TrZ.get {w:World}{b off n c i:Nat}{l:List Nz}{x:Nz}(h:TrZ w (.slice (some ⟨b,off,none⟩) n c) l)(hx:l[i]? =some x):∃kv,Qu w b (off+i*8) x.h kv/\Gg w kv x.kids:=by
 obtain⟨h1,a,c0,e,h2⟩:=h;injection e with e1 _ _;obtain⟨hi,rfl⟩:=List.getElem?_eq_some_iff.1 hx;obtain⟨b',off',kv,e',hn,hk⟩:=h2 i hi;rw[←e1] at e';injection e' with e';injection e' with e3 e4;subst e3 e4;exact⟨kv,hn,hk⟩
open Go Go.RowKit Go.Lib Go.Sort Go.Shelf
def Sb (w:World)(tb:Nat)(ts:List (List UInt8)):Prop:=∀(j:Nat) t,ts[j]? =some t->w.cell? ⟨tb,j,none⟩=some (.string ⟨t.toArray⟩)
theorem Sb.below {w w':World}{tb:Nat}{ts:List (List UInt8)}(h:Sb w tb ts)(hb:Below w.heap.size w w'):Sb w' tb ts:=fun j t hj=>Ba hb (h j t hj)
structure Pq (w:World)(b:Nat)(tv:Value)(tb:Nat)(l:List Nz)(ts:List (List UInt8)):Prop where
 tree:TrZ w tv l
 c0:w.cell? ⟨b,0,none⟩=some tv
 c1:w.cell? ⟨b,1,none⟩=some (.slice (some ⟨tb,0,none⟩) l.length l.length)
 texts:Sb w tb ts
 few:ts.length<=l.length
 ops:∀x∈l,0<=x.h.op
 short:∀t∈ts,t.length<=65536
theorem Pq.below {w w':World}{b tb:Nat}{tv:Value}{l:List Nz}{ts:List (List UInt8)}(h:Pq w b tv tb l ts)(hb:Below w.heap.size w w'):Pq w' b tv tb l ts:=
 ⟨h.tree.below hb,Ba hb h.c0,Ba hb h.c1,h.texts.below hb,h.few,h.ops,h.short⟩
def Dy (l:List Nz)(ts:List (List UInt8))(kids:List Int)(k least:Nat):List UInt8:=match kids[k]? with
 |none=>[]
 |some c=>if 0<=c/\c<(ts.length:Int) then(match l[c.toNat]?,ts[c.toNat]? with
  |some x,some t=>if A8 x.h.op<least then Nc t else t
  |_,_=>[]) else[]
theorem Eh (a b:Value)(w:World):(Instr.field 101 (.agg #[a,b]) 0).run Tryz.prog w= .ok a w:=by kernel_rfl
theorem D3 (a b:Value)(w:World):(Instr.field 101 (.agg #[a,b]) 1).run Tryz.prog w= .ok b w:=by kernel_rfl
theorem TrZ.slice {w:World}{v:Value}{l:List Nz}(h:TrZ w v l):∃a c,v= .slice a l.length c:=by
 obtain⟨_,a,c,rfl,_⟩:=h;exact⟨a,c,rfl⟩
theorem TrZ.some {w:World}{v:Value}{l:List Nz}(h:TrZ w v l)(hn:0<l.length):∃b off c,v= .slice (some ⟨b,off,none⟩) l.length c:=by
 obtain⟨_,a,c,rfl,h2⟩:=h;obtain⟨b,off,_,rfl,_⟩:=h2 0 hn;exact⟨b,off,c,rfl⟩
theorem cA (a b:List UInt8):(⟨a.toArray⟩++⟨b.toArray⟩:ByteArray)=⟨(a++b).toArray⟩:=by
 apply ByteArray.ext;simp
theorem rQ (t:List UInt8):(⟨#[40]⟩++⟨t.toArray⟩++⟨#[41]⟩:ByteArray)=⟨(Nc t).toArray⟩:=by
 apply ByteArray.ext;simp [Nc]
theorem Pm {w:World}{b tb:Nat}{tv:Value}{l:List Nz}{ts:List (List UInt8)}{x:Nz}(h:Pq w b tv tb l ts)(hx:l[ts.length]? =some x)(k least:Nat)(hk:k<=1000000):
 Calls Tryz.prog 131 #[.pointer (some ⟨b,0,none⟩),.int .i64 (ts.length:Int),.int .i64 (k:Int),.int .i64 (least:Int)] w fun e w'=>e= .returned (.string ⟨(Dy l ts x.kids k least).toArray⟩)/\Below w.heap.size w w':=by
 obtain⟨hi,_⟩:=List.getElem?_eq_some_iff.1 hx;obtain⟨tr,off,tc,rfl⟩:=h.tree.some tE;obtain⟨kv,hn,hki⟩:=h.tree.get hx;obtain⟨hkl,ka,kc,rfl,hkc⟩:=hki;have x5:=hn.2.2.2.2.2.1;have c0:=h.c0;have c1:=h.c1;have hlm:=h.tree.1;have i0:(0:Int)<=(ts.length:Int):=by omega
 have i1:(ts.length:Int)<(l.length:Int):=by omega
 by_cases hkk:k<x.kids.length
 ·obtain⟨kb,ko,rfl,hkcell⟩:=hkc k hkk
  have hz:Dy l ts x.kids k least=if 0<=x.kids[k]/\x.kids[k]<(ts.length:Int) then(match l[x.kids[k].toNat]?,ts[x.kids[k].toNat]? with
   |some x,some t=>if A8 x.h.op<least then Nc t else t
   |_,_=>[]) else[]:=by
   unfold Dy;rw[Ag hkk]
  rw[hz];obtain⟨c,hc⟩:∃c,x.kids[k]=c:=⟨_,rfl⟩;rw[hc] at hkcell ⊢;have j0:(0:Int)<=(k:Int):=by omega
  have j1:(k:Int)<(x.kids.length:Int):=by omega
  have j2:decide ((x.kids.length:Int)<=(k:Int))=false:=An tE;by_cases hc0:0<=c
  ·have e0:decide (c<0)=false:=An tE;by_cases hci:c<(ts.length:Int)
   ·have e1:decide ((ts.length:Int)<=c)=false:=An tE;obtain⟨m,rfl⟩:∃m:Nat,c=(m:Int):=⟨c.toNat,by omega⟩;have hm:m<ts.length:=by omega
    have hml:m<l.length:=by omega
    have hti:ts[m]? =some ts[m]:=Ag hm;have hli:l[m]? =some l[m]:=Ag hml;rw[Ap ⟨hc0,hci⟩,Int.toNat_natCast,hti,hli];simp only;have ht:=h.texts m _ hti;have hsh:=h.short _ (List.getElem_mem hm);have hop:=h.ops _ (List.getElem_mem hml);obtain⟨kv2,hn2,_⟩:=h.tree.get hli;have y0:=hn2.1;obtain⟨t,het⟩:∃t,ts[m]=t:=⟨_,rfl⟩;obtain⟨y,hey⟩:∃y,l[m]=y:=⟨_,rfl⟩;rw[het] at ht hsh ⊢;rw[hey] at y0 hop ⊢;have m0:(0:Int)<=(m:Int):=by omega
    have m1:(m:Int)<(l.length:Int):=by omega
    have ho:=fun V=>Ax (L8 y.h.op hop V)
    obtain⟨lv,hlv⟩:∃lv,A8 y.h.op=lv:=⟨_,rfl⟩;have hf1:=fun u V=>D3 u (.int .i64 (lv:Int)) V
    unfold F2 at ho;simp only[hlv] at ho ⊢;have hsz:t.length<=65536:=hsh;have HLV:=Ax hlv;have n1:decide (x.kids.length<=k)=false:=An tE;have n2:decide (ts.length<=m)=false:=An tE;have HD:=fun nq=>Ax (show Below w.heap.size w (w.drewN nq) from Below.drewN' nq (Aq _ w))
    clear h hn hkc hx hz hc hti hli het hey hn2 hlv hsh hop;by_cases hll:lv<least
    ·rw[Ap hll,←rQ];have n3:decide (lv<least)=true:=Am hll;have n4:decide ((lv:Int)<(least:Int))=true:=Am tE;exact zyf
    rw[Ao hll];have n3:decide (lv<least)=false:=An hll;have n4:decide ((lv:Int)<(least:Int))=false:=An tE;exact zyf
   rw[Ao (fun h=>hci h.2)];have e1:decide ((ts.length:Int)<=c)=true:=Am tE;clear h hn hkc hx hz hc;go_enter Tryz.func131,Tryz.ntmps131;exact zym
  rw[Ao (fun h=>hc0 h.1)];have e0:decide (c<0)=true:=Am tE;have n1:decide (x.kids.length<=k)=false:=An tE;clear h hn hkc hx hz hc;go_enter Tryz.func131,Tryz.ntmps131;exact zym
 have hz:Dy l ts x.kids k least=[]:=by
  unfold Dy;rw[List.getElem?_eq_none tE]
 rw[hz];have j2:decide ((x.kids.length:Int)<=(k:Int))=true:=Am tE;have n1:decide (x.kids.length<=k)=true:=Am tE;clear h hn hkc hx hz;go_enter Tryz.func131,Tryz.ntmps131;exact zym
open Go Go.RowKit Go.Lib Go.Sort Go.Shelf
def D9 (h:Hd)(n:Nat)(kid:Nat->Nat->List UInt8):List UInt8:=
 if h.op=1 then Da h.v.1 h.v.2.1 h.v.2.2 else if h.op=2 then 63::h.name else if h.op=3 then[63]
 else if A8 h.op=8 then C5 h.op++Nc (Gl [44,32] ((List.range n).map fun k=>kid k 0))
 else if A8 h.op=2\/A8 h.op=6 then C5 h.op++kid 0 (A8 h.op)
 else if A8 h.op=3 then kid 0 4++32::(C5 h.op++32::kid 1 4)
 else kid 0 (A8 h.op)++32::(C5 h.op++32::kid 1 (A8 h.op+1))
def O7 (h:Hd):Prop:= -9223372036854775808<=h.v.2.1/\h.v.2.1<=9223372036854775807/\h.v.2.2.length<=1000000/\h.name.length<=1000000
theorem Mi {l:List Nz}{ts:List (List UInt8)}(hs:∀t∈ts,t.length<=65536)(kids:List Int)(k least:Nat):(Dy l ts kids k least).length<=65538:=by
 unfold Dy
 split
 ·simp
 split
 ·split
  ·rename_i x t h1 h2
   have:=hs t (List.mem_of_getElem? h2)
   split
   ·unfold Nc;simp only[Aa,Ab,List.length_nil];omega
   omega
  simp
 simp
theorem Mx (op:Int):(C5 op).length<=8/\A8 op<=8:=by
 by_cases h:4<=op/\op<=26
 ·obtain rfl|rfl|rfl|rfl|rfl|rfl|rfl|rfl|rfl|rfl|rfl|rfl|rfl|rfl|rfl|rfl|rfl|rfl|rfl|rfl|rfl|rfl|rfl:op=4\/op=5\/op=6\/op=7\/op=8\/op=9\/op=10\/op=11\/op=12\/op=13\/op=14\/op=15\/op=16\/op=17\/op=18\/op=19\/op=20\/op=21\/op=22\/op=23\/op=24\/op=25\/op=26:=by omega
  all_goals decide
 have:O5 op=([],8):=by
  unfold O5
  repeat rw[Ao tE]
 unfold C5 A8;rw[this];decide
theorem nA (a b c:List UInt8):(⟨(a++32::(b++32::c)).toArray⟩:ByteArray)=⟨a.toArray⟩++⟨#[32]⟩++⟨b.toArray⟩++⟨#[32]⟩++⟨c.toArray⟩:=by
 apply ByteArray.ext;simp
theorem bH (sep:List UInt8):∀l:List (List UInt8),Lib.join l sep=Gl sep l
 |[]=>rfl
 |[x]=>by rw[Lib.join_one];rfl
 |x::y::r=>by
  show Lib.join (x::y::r) sep=x++(sep++Gl sep (y::r));rw[←bH sep (y::r)];simp [Lib.join,List.intercalate]
theorem Wt:∀(l:List (List UInt8)),(∀t∈l,t.length<=65538)->(Gl [44,32] l).length<=l.length*65540
 |[],_=>by simp [Gl]
 |[x],h=>by
  have:=h x Ai
  show x.length<=_;simp only[Aa,List.length_nil];omega
 |x::y::r,h=>by
  have h1:=h x Ai;have h2:=Wt (y::r) fun t ht=>h t (Aj _ ht)
  show(x++([44,32]++Gl [44,32] (y::r))).length<=_
  simp only[Ab,Aa,List.length_nil] at h2 ⊢;omega
theorem kU {w:World}{b tb:Nat}{tv:Value}{l:List Nz}{ts:List (List UInt8)}{x:Nz}(h:Pq w b tv tb l ts)(hx:l[ts.length]? =some x)(hR:Rd w)(hf:O7 x.h)(hop:x.h.op=1):
 Calls Tryz.prog 68 #[.pointer (some ⟨b,0,none⟩),.int .i64 (ts.length:Int)] w fun e w'=>e= .returned (.string ⟨(D9 x.h x.kids.length (Dy l ts x.kids)).toArray⟩)/\Below w.heap.size w w':=by
 obtain⟨hi,_⟩:=List.getElem?_eq_some_iff.1 hx;obtain⟨tr,off,tc,rfl⟩:=h.tree.some tE;obtain⟨kv,hn,hki⟩:=h.tree.get hx;obtain⟨hkl,ka,kc,rfl,_⟩:=hki;obtain⟨⟨op,⟨vk,vn,vs⟩,nm,ln,cl⟩,kids⟩:=x;obtain⟨x0,x1,x2,x3,x4,x5,x6,x7⟩:=hn;simp only at x0 x1 x2 x3 x4 x5 x6 x7 hkl hop;have c0:=h.c0;have hlm:=h.tree.1;have hop0:0<=op:=h.ops _ (List.mem_of_getElem? hx);have i0:(0:Int)<=(ts.length:Int):=by omega
 have i1:(ts.length:Int)<(l.length:Int):=by omega
 have hbx:=Ca x0;obtain⟨W1,hW1⟩:∃W1,(w.alloc (.cells #[.int .u8 op,.int .u8 vk,.int .i64 vn,.string ⟨vs.toArray⟩,.string ⟨nm.toArray⟩,.slice ka kids.length kc,.int .i64 ln,.int .i64 cl] 38)).drew=W1:=⟨_,rfl⟩;have hp1:(w.alloc (.cells #[.int .u8 op,.int .u8 vk,.int .i64 vn,.string ⟨vs.toArray⟩,.string ⟨nm.toArray⟩,.slice ka kids.length kc,.int .i64 ln,.int .i64 cl] 38)).drew.heap[w.heap.size]? =some (.cells #[.int .u8 op,.int .u8 vk,.int .i64 vn,.string ⟨vs.toArray⟩,.string ⟨nm.toArray⟩,.slice ka kids.length kc,.int .i64 ln,.int .i64 cl] 38 (0,0)):=A1 w (.cells #[.int .u8 op,.int .u8 vk,.int .i64 vn,.string ⟨vs.toArray⟩,.string ⟨nm.toArray⟩,.slice ka kids.length kc,.int .i64 ln,.int .i64 cl] 38);have hb1:Below w.heap.size w W1:=by rw[←hW1];exact((Aq _ w).alloc (Ak _) _).drew
 rw[hW1] at hp1;obtain⟨n0,_,_,_,_,_,_,_,_⟩:=B1 hp1;have ho:=fun V=>Ax (L8 op hop0 V)
 unfold F2 at ho;have hf0:=fun u v V=>Eh u v V
 have hf1:=fun u v V=>D3 u v V
 obtain⟨f1,f2,f3,f4⟩:=hf;simp only at f1 f2 f3 f4;subst hop;have hz:D9 ⟨1,(vk,vn,vs),nm,ln,cl⟩ kids.length (Dy l ts kids)=Da vk vn vs:=by unfold D9;rw[Ap rfl]
 rw[hz];have HT:=fun V (hV:Below w.heap.size w V)=>Ax (Sq ⟨vk,vn,⟨vs.toArray⟩⟩ V ⟨by show vs.toArray.size<=_;simp;omega,f1,f2⟩ (hR.below hV))
 have HP1:=Ax hp1;have HB1:=Ax hb1;clear h hx hR hp1 hb1 hz;go_enter Tryz.func68,Tryz.ntmps68;go_wp2_with fail
 go_region_held3 (fun V=>V.cell? ⟨w.heap.size,0,none⟩=some (.int .u8 1)) (go_keep)
  (first
   |(go_at_call 41;(with_reducible refine(ho _).out.mono ?_);rintro e V2 ⟨rfl,hb2⟩;have hc2:=Ba hb2 n0;have hB2:=Ax hb2;clear hb2)
   |(go_at_call 41;(with_reducible refine(ho _).out.mono ?_);rintro e V3 ⟨rfl,hb3⟩;have hc3:=Ba hb3 hc2;have HB3:=Ax (hB2.out.trans (hb3.mono hB2.out.size));clear hb3))
 obtain⟨m0,m1,m2,m3,m4,m5,m6,m7,_⟩:=B1 ((HB3.out.block _ (Ay HP1.out)).trans HP1.out);have HV3:=HB1.out.trans (HB3.out.mono HB1.out.size);have HT3:=HT _ HV3;have HBV:=Ax HV3;clear HT HB1 hB2 HV3;go_wp2_with fail;refine HT3.out.mono ?_;rintro e V4 ⟨rfl,hb4⟩;have HB4:=Ax (HBV.out.trans (hb4.mono HBV.out.size));clear hb4 HT3;go_wp2_with fail;go_ret;exact⟨rfl,HB4.out⟩
theorem lL {w:World}{b tb:Nat}{tv:Value}{l:List Nz}{ts:List (List UInt8)}{x:Nz}(h:Pq w b tv tb l ts)(hx:l[ts.length]? =some x)(hf:O7 x.h)(hop:x.h.op=2):
 Calls Tryz.prog 68 #[.pointer (some ⟨b,0,none⟩),.int .i64 (ts.length:Int)] w fun e w'=>e= .returned (.string ⟨(D9 x.h x.kids.length (Dy l ts x.kids)).toArray⟩)/\Below w.heap.size w w':=by
 obtain⟨hi,_⟩:=List.getElem?_eq_some_iff.1 hx;obtain⟨tr,off,tc,rfl⟩:=h.tree.some tE;obtain⟨kv,hn,hki⟩:=h.tree.get hx;obtain⟨hkl,ka,kc,rfl,_⟩:=hki;obtain⟨⟨op,⟨vk,vn,vs⟩,nm,ln,cl⟩,kids⟩:=x;obtain⟨x0,x1,x2,x3,x4,x5,x6,x7⟩:=hn;simp only at x0 x1 x2 x3 x4 x5 x6 x7 hkl hop;have c0:=h.c0;have hlm:=h.tree.1;have hop0:0<=op:=h.ops _ (List.mem_of_getElem? hx);have i0:(0:Int)<=(ts.length:Int):=by omega
 have i1:(ts.length:Int)<(l.length:Int):=by omega
 have hbx:=Ca x0;obtain⟨W1,hW1⟩:∃W1,(w.alloc (.cells #[.int .u8 op,.int .u8 vk,.int .i64 vn,.string ⟨vs.toArray⟩,.string ⟨nm.toArray⟩,.slice ka kids.length kc,.int .i64 ln,.int .i64 cl] 38)).drew=W1:=⟨_,rfl⟩;have hp1:(w.alloc (.cells #[.int .u8 op,.int .u8 vk,.int .i64 vn,.string ⟨vs.toArray⟩,.string ⟨nm.toArray⟩,.slice ka kids.length kc,.int .i64 ln,.int .i64 cl] 38)).drew.heap[w.heap.size]? =some (.cells #[.int .u8 op,.int .u8 vk,.int .i64 vn,.string ⟨vs.toArray⟩,.string ⟨nm.toArray⟩,.slice ka kids.length kc,.int .i64 ln,.int .i64 cl] 38 (0,0)):=A1 w (.cells #[.int .u8 op,.int .u8 vk,.int .i64 vn,.string ⟨vs.toArray⟩,.string ⟨nm.toArray⟩,.slice ka kids.length kc,.int .i64 ln,.int .i64 cl] 38);have hb1:Below w.heap.size w W1:=by rw[←hW1];exact((Aq _ w).alloc (Ak _) _).drew
 rw[hW1] at hp1;obtain⟨n0,_,_,_,_,_,_,_,_⟩:=B1 hp1;have ho:=fun V=>Ax (L8 op hop0 V)
 unfold F2 at ho;have hf0:=fun u v V=>Eh u v V
 have hf1:=fun u v V=>D3 u v V
 obtain⟨_,_,_,f4⟩:=hf;simp only at f4;subst hop;have hz:D9 ⟨2,(vk,vn,vs),nm,ln,cl⟩ kids.length (Dy l ts kids)=63::nm:=by unfold D9;rw[Ao (by show ¬(2:Int)=1;decide),Ap rfl]
 rw[hz,show(⟨(63::nm).toArray⟩:ByteArray)=⟨#[63]⟩++⟨nm.toArray⟩ from(cA [63] nm).symm];have HP1:=Ax hp1;have HB1:=Ax hb1;clear h hx hp1 hb1 hz;go_enter Tryz.func68,Tryz.ntmps68;go_wp2_with fail
 go_region_held3 (fun V=>V.cell? ⟨w.heap.size,0,none⟩=some (.int .u8 2)) (go_keep)
  (first
   |(go_at_call 41;(with_reducible refine(ho _).out.mono ?_);rintro e V2 ⟨rfl,hb2⟩;have hc2:=Ba hb2 n0;have hB2:=Ax hb2;clear hb2)
   |(go_at_call 41;(with_reducible refine(ho _).out.mono ?_);rintro e V3 ⟨rfl,hb3⟩;have hc3:=Ba hb3 hc2;have HB3:=Ax (hB2.out.trans (hb3.mono hB2.out.size));clear hb3))
 exact zxu
theorem fF {w:World}{b tb:Nat}{tv:Value}{l:List Nz}{ts:List (List UInt8)}{x:Nz}(h:Pq w b tv tb l ts)(hx:l[ts.length]? =some x)(hop:x.h.op=3):
 Calls Tryz.prog 68 #[.pointer (some ⟨b,0,none⟩),.int .i64 (ts.length:Int)] w fun e w'=>e= .returned (.string ⟨(D9 x.h x.kids.length (Dy l ts x.kids)).toArray⟩)/\Below w.heap.size w w':=by
 obtain⟨hi,_⟩:=List.getElem?_eq_some_iff.1 hx;obtain⟨tr,off,tc,rfl⟩:=h.tree.some tE;obtain⟨kv,hn,hki⟩:=h.tree.get hx;obtain⟨hkl,ka,kc,rfl,_⟩:=hki;obtain⟨⟨op,⟨vk,vn,vs⟩,nm,ln,cl⟩,kids⟩:=x;obtain⟨x0,x1,x2,x3,x4,x5,x6,x7⟩:=hn;simp only at x0 x1 x2 x3 x4 x5 x6 x7 hkl hop;have c0:=h.c0;have hlm:=h.tree.1;have hop0:0<=op:=h.ops _ (List.mem_of_getElem? hx);have i0:(0:Int)<=(ts.length:Int):=by omega
 have i1:(ts.length:Int)<(l.length:Int):=by omega
 have hbx:=Ca x0;obtain⟨W1,hW1⟩:∃W1,(w.alloc (.cells #[.int .u8 op,.int .u8 vk,.int .i64 vn,.string ⟨vs.toArray⟩,.string ⟨nm.toArray⟩,.slice ka kids.length kc,.int .i64 ln,.int .i64 cl] 38)).drew=W1:=⟨_,rfl⟩;have hp1:(w.alloc (.cells #[.int .u8 op,.int .u8 vk,.int .i64 vn,.string ⟨vs.toArray⟩,.string ⟨nm.toArray⟩,.slice ka kids.length kc,.int .i64 ln,.int .i64 cl] 38)).drew.heap[w.heap.size]? =some (.cells #[.int .u8 op,.int .u8 vk,.int .i64 vn,.string ⟨vs.toArray⟩,.string ⟨nm.toArray⟩,.slice ka kids.length kc,.int .i64 ln,.int .i64 cl] 38 (0,0)):=A1 w (.cells #[.int .u8 op,.int .u8 vk,.int .i64 vn,.string ⟨vs.toArray⟩,.string ⟨nm.toArray⟩,.slice ka kids.length kc,.int .i64 ln,.int .i64 cl] 38);have hb1:Below w.heap.size w W1:=by rw[←hW1];exact((Aq _ w).alloc (Ak _) _).drew
 rw[hW1] at hp1;obtain⟨n0,_,_,_,_,_,_,_,_⟩:=B1 hp1;have ho:=fun V=>Ax (L8 op hop0 V)
 unfold F2 at ho;have hf0:=fun u v V=>Eh u v V
 have hf1:=fun u v V=>D3 u v V
 subst hop;have hz:D9 ⟨3,(vk,vn,vs),nm,ln,cl⟩ kids.length (Dy l ts kids)=[63]:=by unfold D9;rw[Ao (by show ¬(3:Int)=1;decide),Ao (by show ¬(3:Int)=2;decide),Ap rfl]
 rw[hz];have HP1:=Ax hp1;have HB1:=Ax hb1;clear h hx hp1 hb1 hz;go_enter Tryz.func68,Tryz.ntmps68;go_wp2_with fail
 go_region_held3 (fun V=>V.cell? ⟨w.heap.size,0,none⟩=some (.int .u8 3)) (go_keep)
  (first
   |(go_at_call 41;(with_reducible refine(ho _).out.mono ?_);rintro e V2 ⟨rfl,hb2⟩;have hc2:=Ba hb2 n0;have hB2:=Ax hb2;clear hb2)
   |(go_at_call 41;(with_reducible refine(ho _).out.mono ?_);rintro e V3 ⟨rfl,hb3⟩;have hc3:=Ba hb3 hc2;have HB3:=Ax (hB2.out.trans (hb3.mono hB2.out.size));clear hb3))
 exact zxu
theorem gA {w:World}{b tb:Nat}{tv:Value}{l:List Nz}{ts:List (List UInt8)}{x:Nz}(h:Pq w b tv tb l ts)(hx:l[ts.length]? =some x)(ho1:x.h.op≠1)(ho2:x.h.op≠2)(ho3:x.h.op≠3)(hLV:A8 x.h.op=2):
 Calls Tryz.prog 68 #[.pointer (some ⟨b,0,none⟩),.int .i64 (ts.length:Int)] w fun e w'=>e= .returned (.string ⟨(D9 x.h x.kids.length (Dy l ts x.kids)).toArray⟩)/\Below w.heap.size w w':=by
 obtain⟨hi,_⟩:=List.getElem?_eq_some_iff.1 hx;obtain⟨tr,off,tc,rfl⟩:=h.tree.some tE;obtain⟨kv,hn,hki⟩:=h.tree.get hx;obtain⟨hkl,ka,kc,rfl,_⟩:=hki;obtain⟨⟨op,⟨vk,vn,vs⟩,nm,ln,cl⟩,kids⟩:=x;obtain⟨x0,x1,x2,x3,x4,x5,x6,x7⟩:=hn;simp only at x0 x1 x2 x3 x4 x5 x6 x7 hkl ho1 ho2 ho3 hLV;have c0:=h.c0;have hlm:=h.tree.1;have hop0:0<=op:=h.ops _ (List.mem_of_getElem? hx);have i0:(0:Int)<=(ts.length:Int):=by omega
 have i1:(ts.length:Int)<(l.length:Int):=by omega
 have hbx:=Ca x0;obtain⟨W1,hW1⟩:∃W1,(w.alloc (.cells #[.int .u8 op,.int .u8 vk,.int .i64 vn,.string ⟨vs.toArray⟩,.string ⟨nm.toArray⟩,.slice ka kids.length kc,.int .i64 ln,.int .i64 cl] 38)).drew=W1:=⟨_,rfl⟩;have hp1:(w.alloc (.cells #[.int .u8 op,.int .u8 vk,.int .i64 vn,.string ⟨vs.toArray⟩,.string ⟨nm.toArray⟩,.slice ka kids.length kc,.int .i64 ln,.int .i64 cl] 38)).drew.heap[w.heap.size]? =some (.cells #[.int .u8 op,.int .u8 vk,.int .i64 vn,.string ⟨vs.toArray⟩,.string ⟨nm.toArray⟩,.slice ka kids.length kc,.int .i64 ln,.int .i64 cl] 38 (0,0)):=A1 w (.cells #[.int .u8 op,.int .u8 vk,.int .i64 vn,.string ⟨vs.toArray⟩,.string ⟨nm.toArray⟩,.slice ka kids.length kc,.int .i64 ln,.int .i64 cl] 38);have hb1:Below w.heap.size w W1:=by rw[←hW1];exact((Aq _ w).alloc (Ak _) _).drew
 rw[hW1] at hp1;obtain⟨n0,_,_,_,_,_,_,_,_⟩:=B1 hp1;have ho:=fun V=>Ax (L8 op hop0 V)
 unfold F2 at ho;have hf0:=fun u v V=>Eh u v V
 have hf1:=fun u v V=>D3 u v V
 have o1:(op==1)=false:=by simpa using ho1
 have o2:(op==2)=false:=by simpa using ho2
 have o3:(op==3)=false:=by simpa using ho3
 obtain⟨hwl,hll⟩:=Mx op;obtain⟨lv,hlv⟩:∃lv,A8 op=lv:=⟨_,rfl⟩;obtain⟨wd,hwd⟩:∃wd,C5 op=wd:=⟨_,rfl⟩;have hK:=fun k least V (hV:Below w.heap.size w V) (hk:k<=1000000)=>Ax (Pm (h.below hV) hx k least hk)
 simp only at hK;have hKL:=fun k least=>Mi (l:=l) h.short kids k least
 simp only[hlv,hwd] at ho hwl hll hLV
 have hz:D9 ⟨op,(vk,vn,vs),nm,ln,cl⟩ kids.length (Dy l ts kids)=wd++Dy l ts kids 0 lv:=by
  unfold D9;simp only[hlv,hwd];rw[Ao ho1,Ao ho2,Ao ho3,Ao tE,Ap tE]
 rw[hz];subst hLV;have HK0:∀V,Below w.heap.size w V->Hid (Calls Tryz.prog 131 #[.pointer (some ⟨b,0,none⟩),.int .i64 (ts.length:Int),.int .i64 0,.int .i64 2] V fun e w'=>e= .returned (.string ⟨(Dy l ts kids 0 (2)).toArray⟩)/\Below V.heap.size V w'):=fun V hV=>hK 0 (2) V hV tG
 have hl0:=hKL 0 (2);obtain⟨K0,hK0⟩:∃K',Dy l ts kids 0 (2)=K':=⟨_,rfl⟩;exact zzg
theorem gY {w:World}{b tb:Nat}{tv:Value}{l:List Nz}{ts:List (List UInt8)}{x:Nz}(h:Pq w b tv tb l ts)(hx:l[ts.length]? =some x)(ho1:x.h.op≠1)(ho2:x.h.op≠2)(ho3:x.h.op≠3)(hLV:A8 x.h.op=6):
 Calls Tryz.prog 68 #[.pointer (some ⟨b,0,none⟩),.int .i64 (ts.length:Int)] w fun e w'=>e= .returned (.string ⟨(D9 x.h x.kids.length (Dy l ts x.kids)).toArray⟩)/\Below w.heap.size w w':=by
 obtain⟨hi,_⟩:=List.getElem?_eq_some_iff.1 hx;obtain⟨tr,off,tc,rfl⟩:=h.tree.some tE;obtain⟨kv,hn,hki⟩:=h.tree.get hx;obtain⟨hkl,ka,kc,rfl,_⟩:=hki;obtain⟨⟨op,⟨vk,vn,vs⟩,nm,ln,cl⟩,kids⟩:=x;obtain⟨x0,x1,x2,x3,x4,x5,x6,x7⟩:=hn;simp only at x0 x1 x2 x3 x4 x5 x6 x7 hkl ho1 ho2 ho3 hLV;have c0:=h.c0;have hlm:=h.tree.1;have hop0:0<=op:=h.ops _ (List.mem_of_getElem? hx);have i0:(0:Int)<=(ts.length:Int):=by omega
 have i1:(ts.length:Int)<(l.length:Int):=by omega
 have hbx:=Ca x0;obtain⟨W1,hW1⟩:∃W1,(w.alloc (.cells #[.int .u8 op,.int .u8 vk,.int .i64 vn,.string ⟨vs.toArray⟩,.string ⟨nm.toArray⟩,.slice ka kids.length kc,.int .i64 ln,.int .i64 cl] 38)).drew=W1:=⟨_,rfl⟩;have hp1:(w.alloc (.cells #[.int .u8 op,.int .u8 vk,.int .i64 vn,.string ⟨vs.toArray⟩,.string ⟨nm.toArray⟩,.slice ka kids.length kc,.int .i64 ln,.int .i64 cl] 38)).drew.heap[w.heap.size]? =some (.cells #[.int .u8 op,.int .u8 vk,.int .i64 vn,.string ⟨vs.toArray⟩,.string ⟨nm.toArray⟩,.slice ka kids.length kc,.int .i64 ln,.int .i64 cl] 38 (0,0)):=A1 w (.cells #[.int .u8 op,.int .u8 vk,.int .i64 vn,.string ⟨vs.toArray⟩,.string ⟨nm.toArray⟩,.slice ka kids.length kc,.int .i64 ln,.int .i64 cl] 38);have hb1:Below w.heap.size w W1:=by rw[←hW1];exact((Aq _ w).alloc (Ak _) _).drew
 rw[hW1] at hp1;obtain⟨n0,_,_,_,_,_,_,_,_⟩:=B1 hp1;have ho:=fun V=>Ax (L8 op hop0 V)
 unfold F2 at ho;have hf0:=fun u v V=>Eh u v V
 have hf1:=fun u v V=>D3 u v V
 have o1:(op==1)=false:=by simpa using ho1
 have o2:(op==2)=false:=by simpa using ho2
 have o3:(op==3)=false:=by simpa using ho3
 obtain⟨hwl,hll⟩:=Mx op;obtain⟨lv,hlv⟩:∃lv,A8 op=lv:=⟨_,rfl⟩;obtain⟨wd,hwd⟩:∃wd,C5 op=wd:=⟨_,rfl⟩;have hK:=fun k least V (hV:Below w.heap.size w V) (hk:k<=1000000)=>Ax (Pm (h.below hV) hx k least hk)
 simp only at hK;have hKL:=fun k least=>Mi (l:=l) h.short kids k least
 simp only[hlv,hwd] at ho hwl hll hLV
 have hz:D9 ⟨op,(vk,vn,vs),nm,ln,cl⟩ kids.length (Dy l ts kids)=wd++Dy l ts kids 0 lv:=by
  unfold D9;simp only[hlv,hwd];rw[Ao ho1,Ao ho2,Ao ho3,Ao tE,Ap tE]
 rw[hz];subst hLV;have HK0:∀V,Below w.heap.size w V->Hid (Calls Tryz.prog 131 #[.pointer (some ⟨b,0,none⟩),.int .i64 (ts.length:Int),.int .i64 0,.int .i64 6] V fun e w'=>e= .returned (.string ⟨(Dy l ts kids 0 (6)).toArray⟩)/\Below V.heap.size V w'):=fun V hV=>hK 0 (6) V hV tG
 have hl0:=hKL 0 (6);obtain⟨K0,hK0⟩:∃K',Dy l ts kids 0 (6)=K':=⟨_,rfl⟩;exact zzg
theorem mG {w:World}{b tb:Nat}{tv:Value}{l:List Nz}{ts:List (List UInt8)}{x:Nz}(h:Pq w b tv tb l ts)(hx:l[ts.length]? =some x)(ho1:x.h.op≠1)(ho2:x.h.op≠2)(ho3:x.h.op≠3)(hLV:A8 x.h.op=3):
 Calls Tryz.prog 68 #[.pointer (some ⟨b,0,none⟩),.int .i64 (ts.length:Int)] w fun e w'=>e= .returned (.string ⟨(D9 x.h x.kids.length (Dy l ts x.kids)).toArray⟩)/\Below w.heap.size w w':=by
 obtain⟨hi,_⟩:=List.getElem?_eq_some_iff.1 hx;obtain⟨tr,off,tc,rfl⟩:=h.tree.some tE;obtain⟨kv,hn,hki⟩:=h.tree.get hx;obtain⟨hkl,ka,kc,rfl,_⟩:=hki;obtain⟨⟨op,⟨vk,vn,vs⟩,nm,ln,cl⟩,kids⟩:=x;obtain⟨x0,x1,x2,x3,x4,x5,x6,x7⟩:=hn;simp only at x0 x1 x2 x3 x4 x5 x6 x7 hkl ho1 ho2 ho3 hLV;have c0:=h.c0;have hlm:=h.tree.1;have hop0:0<=op:=h.ops _ (List.mem_of_getElem? hx);have i0:(0:Int)<=(ts.length:Int):=by omega
 have i1:(ts.length:Int)<(l.length:Int):=by omega
 have hbx:=Ca x0;obtain⟨W1,hW1⟩:∃W1,(w.alloc (.cells #[.int .u8 op,.int .u8 vk,.int .i64 vn,.string ⟨vs.toArray⟩,.string ⟨nm.toArray⟩,.slice ka kids.length kc,.int .i64 ln,.int .i64 cl] 38)).drew=W1:=⟨_,rfl⟩;have hp1:(w.alloc (.cells #[.int .u8 op,.int .u8 vk,.int .i64 vn,.string ⟨vs.toArray⟩,.string ⟨nm.toArray⟩,.slice ka kids.length kc,.int .i64 ln,.int .i64 cl] 38)).drew.heap[w.heap.size]? =some (.cells #[.int .u8 op,.int .u8 vk,.int .i64 vn,.string ⟨vs.toArray⟩,.string ⟨nm.toArray⟩,.slice ka kids.length kc,.int .i64 ln,.int .i64 cl] 38 (0,0)):=A1 w (.cells #[.int .u8 op,.int .u8 vk,.int .i64 vn,.string ⟨vs.toArray⟩,.string ⟨nm.toArray⟩,.slice ka kids.length kc,.int .i64 ln,.int .i64 cl] 38);have hb1:Below w.heap.size w W1:=by rw[←hW1];exact((Aq _ w).alloc (Ak _) _).drew
 rw[hW1] at hp1;obtain⟨n0,_,_,_,_,_,_,_,_⟩:=B1 hp1;have ho:=fun V=>Ax (L8 op hop0 V)
 unfold F2 at ho;have hf0:=fun u v V=>Eh u v V
 have hf1:=fun u v V=>D3 u v V
 have o1:(op==1)=false:=by simpa using ho1
 have o2:(op==2)=false:=by simpa using ho2
 have o3:(op==3)=false:=by simpa using ho3
 obtain⟨hwl,hll⟩:=Mx op;obtain⟨lv,hlv⟩:∃lv,A8 op=lv:=⟨_,rfl⟩;obtain⟨wd,hwd⟩:∃wd,C5 op=wd:=⟨_,rfl⟩;have hK:=fun k least V (hV:Below w.heap.size w V) (hk:k<=1000000)=>Ax (Pm (h.below hV) hx k least hk)
 simp only at hK;have hKL:=fun k least=>Mi (l:=l) h.short kids k least
 simp only[hlv,hwd] at ho hwl hll hLV
 have hz:D9 ⟨op,(vk,vn,vs),nm,ln,cl⟩ kids.length (Dy l ts kids)=Dy l ts kids 0 4++32::(wd++32::Dy l ts kids 1 4):=by
  unfold D9;simp only[hlv,hwd];rw[Ao ho1,Ao ho2,Ao ho3,Ao tE,Ao tE,Ap tE]
 rw[hz];subst hLV;have HK0:∀V,Below w.heap.size w V->Hid (Calls Tryz.prog 131 #[.pointer (some ⟨b,0,none⟩),.int .i64 (ts.length:Int),.int .i64 0,.int .i64 4] V fun e w'=>e= .returned (.string ⟨(Dy l ts kids 0 (4)).toArray⟩)/\Below V.heap.size V w'):=fun V hV=>hK 0 (4) V hV tG
 have hl0:=hKL 0 (4);obtain⟨K0,hK0⟩:∃K',Dy l ts kids 0 (4)=K':=⟨_,rfl⟩;rw[hK0] at hl0 ⊢;simp only[hK0] at HK0;have HK1:∀V,Below w.heap.size w V->Hid (Calls Tryz.prog 131 #[.pointer (some ⟨b,0,none⟩),.int .i64 (ts.length:Int),.int .i64 1,.int .i64 4] V fun e w'=>e= .returned (.string ⟨(Dy l ts kids 1 (4)).toArray⟩)/\Below V.heap.size V w'):=fun V hV=>hK 1 (4) V hV tG
 have hl1:=hKL 1 (4);obtain⟨K1,hK1⟩:∃K',Dy l ts kids 1 (4)=K':=⟨_,rfl⟩;rw[hK1] at hl1 ⊢;simp only[hK1] at HK1;rw[nA];have HP1:=Ax hp1;have HB1:=Ax hb1;have Hlv:=Ax hlv;have Hwd:=Ax hwd;clear h hx hp1 hb1 hz hK hKL hlv hwd hK0 hK1 ho1 ho2 ho3;exact zze
theorem nT {w:World}{b tb:Nat}{tv:Value}{l:List Nz}{ts:List (List UInt8)}{x:Nz}(h:Pq w b tv tb l ts)(hx:l[ts.length]? =some x)(ho1:x.h.op≠1)(ho2:x.h.op≠2)(ho3:x.h.op≠3)(hLV:A8 x.h.op≠8/\A8 x.h.op≠2/\A8 x.h.op≠6/\A8 x.h.op≠3):
 Calls Tryz.prog 68 #[.pointer (some ⟨b,0,none⟩),.int .i64 (ts.length:Int)] w fun e w'=>e= .returned (.string ⟨(D9 x.h x.kids.length (Dy l ts x.kids)).toArray⟩)/\Below w.heap.size w w':=by
 obtain⟨hi,_⟩:=List.getElem?_eq_some_iff.1 hx;obtain⟨tr,off,tc,rfl⟩:=h.tree.some tE;obtain⟨kv,hn,hki⟩:=h.tree.get hx;obtain⟨hkl,ka,kc,rfl,_⟩:=hki;obtain⟨⟨op,⟨vk,vn,vs⟩,nm,ln,cl⟩,kids⟩:=x;obtain⟨x0,x1,x2,x3,x4,x5,x6,x7⟩:=hn;simp only at x0 x1 x2 x3 x4 x5 x6 x7 hkl ho1 ho2 ho3 hLV;have c0:=h.c0;have hlm:=h.tree.1;have hop0:0<=op:=h.ops _ (List.mem_of_getElem? hx);have i0:(0:Int)<=(ts.length:Int):=by omega
 have i1:(ts.length:Int)<(l.length:Int):=by omega
 have hbx:=Ca x0;obtain⟨W1,hW1⟩:∃W1,(w.alloc (.cells #[.int .u8 op,.int .u8 vk,.int .i64 vn,.string ⟨vs.toArray⟩,.string ⟨nm.toArray⟩,.slice ka kids.length kc,.int .i64 ln,.int .i64 cl] 38)).drew=W1:=⟨_,rfl⟩;have hp1:(w.alloc (.cells #[.int .u8 op,.int .u8 vk,.int .i64 vn,.string ⟨vs.toArray⟩,.string ⟨nm.toArray⟩,.slice ka kids.length kc,.int .i64 ln,.int .i64 cl] 38)).drew.heap[w.heap.size]? =some (.cells #[.int .u8 op,.int .u8 vk,.int .i64 vn,.string ⟨vs.toArray⟩,.string ⟨nm.toArray⟩,.slice ka kids.length kc,.int .i64 ln,.int .i64 cl] 38 (0,0)):=A1 w (.cells #[.int .u8 op,.int .u8 vk,.int .i64 vn,.string ⟨vs.toArray⟩,.string ⟨nm.toArray⟩,.slice ka kids.length kc,.int .i64 ln,.int .i64 cl] 38);have hb1:Below w.heap.size w W1:=by rw[←hW1];exact((Aq _ w).alloc (Ak _) _).drew
 rw[hW1] at hp1;obtain⟨n0,_,_,_,_,_,_,_,_⟩:=B1 hp1;have ho:=fun V=>Ax (L8 op hop0 V)
 unfold F2 at ho;have hf0:=fun u v V=>Eh u v V
 have hf1:=fun u v V=>D3 u v V
 have o1:(op==1)=false:=by simpa using ho1
 have o2:(op==2)=false:=by simpa using ho2
 have o3:(op==3)=false:=by simpa using ho3
 obtain⟨hwl,hll⟩:=Mx op;obtain⟨lv,hlv⟩:∃lv,A8 op=lv:=⟨_,rfl⟩;obtain⟨wd,hwd⟩:∃wd,C5 op=wd:=⟨_,rfl⟩;have hK:=fun k least V (hV:Below w.heap.size w V) (hk:k<=1000000)=>Ax (Pm (h.below hV) hx k least hk)
 simp only at hK;have hKL:=fun k least=>Mi (l:=l) h.short kids k least
 simp only[hlv,hwd] at ho hwl hll hLV
 have hz:D9 ⟨op,(vk,vn,vs),nm,ln,cl⟩ kids.length (Dy l ts kids)=Dy l ts kids 0 lv++32::(wd++32::Dy l ts kids 1 (lv+1)):=by
  unfold D9;simp only[hlv,hwd];rw[Ao ho1,Ao ho2,Ao ho3,Ao hLV.1,Ao tE,Ao hLV.2.2.2]
 rw[hz];have l0:((lv:Int)==8)=false:=by simp;omega
 have l1:((lv:Int)==2)=false:=by simp;omega
 have l2:((lv:Int)==6)=false:=by simp;omega
 have l3:((lv:Int)==3)=false:=by simp;omega
 have l4:((lv+1:Nat):Int)=(lv:Int)+1:=by omega
 have HK0:∀V,Below w.heap.size w V->Hid (Calls Tryz.prog 131 #[.pointer (some ⟨b,0,none⟩),.int .i64 (ts.length:Int),.int .i64 0,.int .i64 ((lv:Int))] V fun e w'=>e= .returned (.string ⟨(Dy l ts kids 0 (lv)).toArray⟩)/\Below V.heap.size V w'):=fun V hV=>hK 0 (lv) V hV tG
 have hl0:=hKL 0 (lv);obtain⟨K0,hK0⟩:∃K',Dy l ts kids 0 (lv)=K':=⟨_,rfl⟩;rw[hK0] at hl0 ⊢;simp only[hK0] at HK0;have HK1:∀V,Below w.heap.size w V->Hid (Calls Tryz.prog 131 #[.pointer (some ⟨b,0,none⟩),.int .i64 (ts.length:Int),.int .i64 1,.int .i64 ((lv:Int)+1)] V fun e w'=>e= .returned (.string ⟨(Dy l ts kids 1 (lv+1)).toArray⟩)/\Below V.heap.size V w'):=fun V hV=>hK 1 (lv+1) V hV tG
 have hl1:=hKL 1 (lv+1);obtain⟨K1,hK1⟩:∃K',Dy l ts kids 1 (lv+1)=K':=⟨_,rfl⟩;rw[hK1] at hl1 ⊢;simp only[hK1] at HK1;rw[nA];have HP1:=Ax hp1;have HB1:=Ax hb1;have Hlv:=Ax hlv;have Hwd:=Ax hwd;clear h hx hp1 hb1 hz hK hKL hlv hwd hK0 hK1 ho1 ho2 ho3 hLV;exact zze
theorem pA:(Tryz.prog.info? 9).map (fun i=>(i.zero,i.size,i.bytes))=some (some (.string ⟨#[]⟩),1,16):=by kernel_rfl
theorem N6:∃i,Tryz.prog.info? 9=some i/\i.zero=some (.string ⟨#[]⟩)/\i.size=1/\i.bytes=16:=by
 have h:=pA;cases hi:Tryz.prog.info? 9 with
 |none=>simp [hi] at h
 |some i=>
  exact zx4
def Pv (l:List (List UInt8)):List Value:=l.map fun t=>Value.string ⟨t.toArray⟩
theorem fB (l:List (List UInt8))(t:List UInt8):Pv (l++[t])=Pv l++[.string ⟨t.toArray⟩]:=by simp [Pv]
theorem Tt {α:Type}(f:Nat->α)(k:Nat):(List.range (k+1)).map f=(List.range k).map f++[f k]:=by rw[List.range_succ,List.map_append];rfl
theorem rB (a b:List UInt8):(⟨(a++Nc b).toArray⟩:ByteArray)=⟨a.toArray⟩++⟨#[40]⟩++⟨b.toArray⟩++⟨#[41]⟩:=by
 apply ByteArray.ext;simp [Nc]
theorem jB {w:World}{b tb:Nat}{tv:Value}{l:List Nz}{ts:List (List UInt8)}{x:Nz}(h:Pq w b tv tb l ts)(hx:l[ts.length]? =some x)(ho1:x.h.op≠1)(ho2:x.h.op≠2)(ho3:x.h.op≠3)(hLV:A8 x.h.op=8):
 Calls Tryz.prog 68 #[.pointer (some ⟨b,0,none⟩),.int .i64 (ts.length:Int)] w fun e w'=>e= .returned (.string ⟨(D9 x.h x.kids.length (Dy l ts x.kids)).toArray⟩)/\Below w.heap.size w w':=by
 obtain⟨hi,_⟩:=List.getElem?_eq_some_iff.1 hx;obtain⟨tr,off,tc,rfl⟩:=h.tree.some tE;obtain⟨kv,hn,hki⟩:=h.tree.get hx;obtain⟨hkl,ka,kc,rfl,_⟩:=hki;obtain⟨⟨op,⟨vk,vn,vs⟩,nm,ln,cl⟩,kids⟩:=x;obtain⟨x0,x1,x2,x3,x4,x5,x6,x7⟩:=hn;simp only at x0 x1 x2 x3 x4 x5 x6 x7 hkl ho1 ho2 ho3 hLV;have c0:=h.c0;have hlm:=h.tree.1;have hop0:0<=op:=h.ops _ (List.mem_of_getElem? hx);have i0:(0:Int)<=(ts.length:Int):=by omega
 have i1:(ts.length:Int)<(l.length:Int):=by omega
 have hbx:=Ca x0;obtain⟨W1,hW1⟩:∃W1,(w.alloc (.cells #[.int .u8 op,.int .u8 vk,.int .i64 vn,.string ⟨vs.toArray⟩,.string ⟨nm.toArray⟩,.slice ka kids.length kc,.int .i64 ln,.int .i64 cl] 38)).drew=W1:=⟨_,rfl⟩;have hp1:(w.alloc (.cells #[.int .u8 op,.int .u8 vk,.int .i64 vn,.string ⟨vs.toArray⟩,.string ⟨nm.toArray⟩,.slice ka kids.length kc,.int .i64 ln,.int .i64 cl] 38)).drew.heap[w.heap.size]? =some (.cells #[.int .u8 op,.int .u8 vk,.int .i64 vn,.string ⟨vs.toArray⟩,.string ⟨nm.toArray⟩,.slice ka kids.length kc,.int .i64 ln,.int .i64 cl] 38 (0,0)):=A1 w (.cells #[.int .u8 op,.int .u8 vk,.int .i64 vn,.string ⟨vs.toArray⟩,.string ⟨nm.toArray⟩,.slice ka kids.length kc,.int .i64 ln,.int .i64 cl] 38);have hb1:Below w.heap.size w W1:=by rw[←hW1];exact((Aq _ w).alloc (Ak _) _).drew
 rw[hW1] at hp1;obtain⟨n0,_,_,_,_,_,_,_,_⟩:=B1 hp1;have ho:=fun V=>Ax (L8 op hop0 V)
 unfold F2 at ho;have hf0:=fun u v V=>Eh u v V
 have hf1:=fun u v V=>D3 u v V
 have o1:(op==1)=false:=by simpa using ho1
 have o2:(op==2)=false:=by simpa using ho2
 have o3:(op==3)=false:=by simpa using ho3
 obtain⟨hwl,hll⟩:=Mx op;obtain⟨lv,hlv⟩:∃lv,A8 op=lv:=⟨_,rfl⟩;obtain⟨wd,hwd⟩:∃wd,C5 op=wd:=⟨_,rfl⟩;have hK:=fun k least V (hV:Below w.heap.size w V) (hk:k<=1000000)=>Ax (Pm (h.below hV) hx k least hk)
 simp only at hK;have hKL:=fun k least=>Mi (l:=l) h.short kids k least
 simp only[hlv,hwd] at ho hwl hll hLV
 have hz:D9 ⟨op,(vk,vn,vs),nm,ln,cl⟩ kids.length (Dy l ts kids)=wd++Nc (Gl [44,32] ((List.range kids.length).map fun k=>Dy l ts kids k 0)):=by
  unfold D9;simp only[hlv,hwd];rw[Ao ho1,Ao ho2,Ao ho3,Ap tE]
 rw[hz];subst hLV;obtain⟨F,hF⟩:∃F:Nat->List UInt8,F=fun k=>Dy l ts kids k 0:=⟨_,rfl⟩
 have HK:∀(k:Nat) V,k<=1000000->Below w.heap.size w V->Hid (Calls Tryz.prog 131 #[.pointer (some ⟨b,0,none⟩),.int .i64 (ts.length:Int),.int .i64 (k:Int),.int .i64 0] V fun e w'=>e= .returned (.string ⟨(F k).toArray⟩)/\Below V.heap.size V w'):=fun k V hk hV=>by rw[hF];exact hK k 0 V hV hk
 have hFl:∀k,(F k).length<=65538:=fun k=>by rw[hF];exact hKL k 0
 rw[show(fun k=>Dy l ts kids k 0)=F from hF.symm,rB]
 have hJl:=Wt ((List.range kids.length).map F) fun t ht=>by
  obtain⟨k,_,rfl⟩:=List.mem_map.1 ht;exact hFl k
 rw[List.length_map,List.length_range] at hJl;obtain⟨J,hJ⟩:∃J,Gl [44,32] ((List.range kids.length).map F)=J:=⟨_,rfl⟩;rw[hJ] at hJl ⊢;have hJb:J.length<=70000000000:=by omega
 have HJ:=Ax hJ;have HFl:=Ax hFl;have HP1:=Ax hp1;have HB1:=Ax hb1;have Hlv:=Ax hlv;have Hwd:=Ax hwd;clear h hx hp1 hb1 hz hK hKL hlv hwd ho1 ho2 ho3 hF hJ hJl hFl;go_enter Tryz.func68,Tryz.ntmps68;go_wp2_with fail
 go_region_held3 (fun V=>V.cell? ⟨w.heap.size,0,none⟩=some (.int .u8 op)) (go_keep)
  (first
   |(go_at_call 41;(with_reducible refine(ho _).out.mono ?_);rintro e V2 ⟨rfl,hb2⟩;have hc2:=Ba hb2 n0;have hB2:=Ax hb2;clear hb2)
   |(go_at_call 41;(with_reducible refine(ho _).out.mono ?_);rintro e V3 ⟨rfl,hb3⟩;have hc3:=Ba hb3 hc2;have HB3:=Ax (hB2.out.trans (hb3.mono hB2.out.size));clear hb3))
 obtain⟨m0,m1,m2,m3,m4,m5,m6,m7,_⟩:=B1 ((HB3.out.block _ (Ay HP1.out)).trans HP1.out);have hBV0:=HB1.out.trans (HB3.out.mono HB1.out.size);have HL:Hid (V3.ownsRow w.heap.size 9 1 (.slice none 0 0) 0 (Pv ((List.range 0).map F))/\Below w.heap.size w V3):=Ax ⟨World.ownsRow_nil _ _ _ _,hBV0⟩;clear HB1 hB2 hBV0;go_wp2_with fail
 go_loopw [8,63] (fun v8 v63 wr=>∃(k:Nat) (sa:Option Addr) (sc:Nat),k<=kids.length/\v63= .int .i64 k/\v8= .slice sa k sc/\Hid (wr.ownsRow w.heap.size 9 1 (.slice sa k sc) k (Pv ((List.range k).map F))/\Below w.heap.size w wr)) (fun _ v63 _=>kids.length - (intOf v63).toNat)
 case atStart=>exact⟨0,none,0,Nat.zero_le _,rfl,rfl,HL⟩
 obtain⟨k,sa,sc,hk,rfl,rfl,hq⟩:=hrel;obtain⟨hrow,hB⟩:=hq.out;clear m0 m1 m2 m3 m4 m5 m6 m7;by_cases hkl2:k<kids.length
 ·have HKk:=HK k wr tE hB;have hfl:=HFl.out k;have hms:=Tt F k;obtain⟨t,ht⟩:∃t,F k=t:=⟨_,rfl⟩;simp only[ht] at HKk;rw[ht] at hfl hms;have e3:(0:Int)<=(k:Int):=by omega
  have e9:decide ((k:Int)<(kids.length:Int))=true:=Am tE;have Hms:=Ax hms;have Hrow:=Ax hrow;have HB:=Ax hB;obtain⟨i0',hi0,hz0,hz1,hz2⟩:=N6;have Hi0:=Ax hi0;have Hy0:=Ax hz0;have Hy1:=Ax hz1;have Hy2:=Ax hz2;clear hq hrow hB ht hms hi0 hz0 hz1 hz2 HL;go_wp2_with fail;refine HKk.out.mono ?_;rintro e V ⟨rfl,hbV⟩;have hrV:=Di Hrow.out hbV;have hBV:=HB.out.trans (hbV.mono HB.out.size);have Hrow1:=Ax (hrV.alloc (.cells #[.string ⟨t.toArray⟩] 9));have HN1:=Ax (A1 V (.cells #[.string ⟨t.toArray⟩] 9));have HZ:Hid ((V.alloc (.cells #[.string ⟨t.toArray⟩] 9)).heap.size=V.heap.size+1):=Ax tH;have hsr:=hBV.size;have Hown:=Ax (C9 hrV);have HBV:=Ax hBV;clear hbV hrV hBV HKk HB Hrow;go_wp2_with ((refine wpList_append_lies _ rfl (.tmp 66) (.tmp 71) _ rfl w.heap.size 9 i0' (.string ⟨#[]⟩) 1 16 Tryz.underlying87 Hi0.out Hy0.out Hy1.out Hy2.out rfl tG (.slice sa k sc) k (Pv ((List.range k).map F)) rfl Hrow1.out ⟨V.heap.size,0,none⟩ 1 1 [.string ⟨t.toArray⟩] rfl rfl (World.news_of_block (cs:= #[.string ⟨t.toArray⟩]) HN1.out) tS tG tQ tE tV (V.heap.size+1) HZ.out ?_;intro g6 cap w6 hown6 hgrow6 hat6 hlt6));have hB6:=Z0 (v:= .slice sa k sc) (HBV.out.alloc HBV.out.size (.cells #[.string ⟨t.toArray⟩] 9)) hgrow6 Hown.out tV;rw[←fB,←Hms.out] at hown6;have HR6:Hid (w6.ownsRow w.heap.size 9 1 (.slice (some ⟨g6,0,none⟩) (k+1) cap) (k+1) (Pv ((List.range (k+1)).map F))/\Below w.heap.size w w6):=Ax ⟨hown6,hB6⟩;clear hown6 hgrow6 hat6 hlt6 hB6 Hrow1 HN1 HZ hsr Hown HBV;go_wp2_with fail;go_roundw
  case rel=>exact⟨k+1,some ⟨g6,0,none⟩,cap,by omega,by go_num,rfl,HR6⟩
  case measure=>simp [intOf];omega
 obtain rfl:k=kids.length:=by omega
 have e9:decide ((kids.length:Int)<(kids.length:Int))=false:=by simp
 have hjoin:Calls Tryz.prog 28 #[.slice sa kids.length sc,.string ⟨#[44,32]⟩] wr fun e w'=>e= .returned (.string ⟨J.toArray⟩)/\Below wr.heap.size wr w':=by
  rcases hrow.2 with ⟨e2,h0⟩|⟨g,cap,cur,e2,_,hg,hc,_⟩
  ·rw[h0] at e2 ⊢;have hj0:J=[]:=by rw[←HJ.out,h0];rfl
   rw[hj0];refine(Tryz.strings_Join_none sa sc ⟨#[44,32]⟩ wr).mono ?_;rintro e w' ⟨rfl,rfl⟩;exact⟨rfl,Aq _ _⟩
  injection e2 with e3 _ e4;subst e3 e4
  have hj:=Tryz.strings_Join g 0 sc ((List.range kids.length).map fun k=>(⟨(F k).toArray⟩:ByteArray)) ⟨#[44,32]⟩ wr (fun j x hj=>by
   obtain⟨hj1,rfl⟩:=List.getElem?_eq_some_iff.1 hj;have hj2:j<kids.length:=by simpa using hj1
   have:=hrow.cells (g:=g) rfl j (.string ⟨(F j).toArray⟩) (by simp [Pv,hj2])
   rw[Addr.add_lit] at this
   simpa using this) (Ay hg) tL (by simpa using hc) (by
   rw[List.map_map,show((fun x:ByteArray=>x.data.toList)∘fun k=>(⟨(F k).toArray⟩:ByteArray))=F from rfl,bH]
   show(Gl [44,32] ((List.range kids.length).map F)).length<=_
   rw[HJ.out]
   omega)
  rw[List.map_map,show((fun x:ByteArray=>x.data.toList)∘fun k=>(⟨(F k).toArray⟩:ByteArray))=F from rfl,bH,List.length_map,List.length_range] at hj;rw[←HJ.out];exact hj
 have Hjoin:=Ax hjoin;have HB:=Ax hB;clear hq hrow hB hkl2 HL hjoin;go_wp2_with fail;refine Hjoin.out.mono ?_;rintro e V ⟨rfl,hbV⟩;have HBV:=Ax (HB.out.trans (hbV.mono HB.out.size));clear hbV HB Hjoin;go_wp2_with fail;go_ret;exact⟨rfl,HBV.out⟩
theorem iQ {w:World}{b tb:Nat}{tv:Value}{l:List Nz}{ts:List (List UInt8)}{x:Nz}(h:Pq w b tv tb l ts)(hx:l[ts.length]? =some x)(hR:Rd w)(hf:O7 x.h):
 Calls Tryz.prog 68 #[.pointer (some ⟨b,0,none⟩),.int .i64 (ts.length:Int)] w fun e w'=>e= .returned (.string ⟨(D9 x.h x.kids.length (Dy l ts x.kids)).toArray⟩)/\Below w.heap.size w w':=by
 by_cases h1:x.h.op=1
 ·exact kU h hx hR hf h1
 by_cases h2:x.h.op=2
 ·exact lL h hx hf h2
 by_cases h3:x.h.op=3
 ·exact fF h hx h3
 by_cases l8:A8 x.h.op=8
 ·exact jB h hx h1 h2 h3 l8
 by_cases l2:A8 x.h.op=2
 ·exact gA h hx h1 h2 h3 l2
 by_cases l6:A8 x.h.op=6
 ·exact gY h hx h1 h2 h3 l6
 by_cases l3:A8 x.h.op=3
 ·exact mG h hx h1 h2 h3 l3
 exact nT h hx h1 h2 h3 ⟨l8,l2,l6,l3⟩
end Go.Proofs.YtmpfilddeglgbaaGreatDoor

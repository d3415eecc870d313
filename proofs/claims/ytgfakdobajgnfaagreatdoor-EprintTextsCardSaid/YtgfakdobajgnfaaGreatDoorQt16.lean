import Derived.BigQuiet
import Derived.Great.BuildSlice
import Derived.Deep.WholeRow
import Derived.Deep.RegionWith
import Derived.Test.YtgfakdobajgnfaaGreatDoorQt15
set_option maxRecDepth 100000
set_option maxHeartbeats 16000000
namespace Go.Proofs.YtgfakdobajgnfaaGreatDoor
open Go Go.RowKit Go.Lib Go.Sort Go.Shelf
theorem lQ {P:Program}{fn:Func}{tmps:Array Value}{W:World}{v:Value}{t:TypeId}{p:Addr}(hr:fn.results= #[.cell 0 t])(h0:tmps.getD 0 undef= .pointer (some p))(hl:(loadVar t p).run P W= .ok v W):(results fn tmps).run P W= .ok v W:=by
 have h1:(tmps[0]?.getD undef)= .pointer (some p):=by simpa using h0
 unfold results;rw[hr];simp [h1,hl,asAddr]
def Rp:Array Value:= #[.string ⟨#[]⟩,.int .i64 8,.string ⟨#[]⟩,.int .i64 8,.string ⟨#[]⟩,.int .i64 8,.string ⟨#[]⟩,.int .i64 8,.string ⟨#[111,114]⟩,.int .i64 0,.string ⟨#[97,110,100]⟩,.int .i64 1,.string ⟨#[110,111,116,32]⟩,.int .i64 2,.string ⟨#[61]⟩,.int .i64 3,.string ⟨#[60,62]⟩,.int .i64 3,.string ⟨#[60]⟩,.int .i64 3,.string ⟨#[60,61]⟩,.int .i64 3,.string ⟨#[62]⟩,.int .i64 3,.string ⟨#[62,61]⟩,.int .i64 3,.string ⟨#[43]⟩,.int .i64 4,.string ⟨#[45]⟩,.int .i64 4,.string ⟨#[42]⟩,.int .i64 5,.string ⟨#[47]⟩,.int .i64 5,.string ⟨#[45]⟩,.int .i64 6,.string ⟨#[97,98,115]⟩,.int .i64 8,.string ⟨#[109,105,110]⟩,.int .i64 8,.string ⟨#[109,97,120]⟩,.int .i64 8,.string ⟨#[109,111,100]⟩,.int .i64 8,.string ⟨#[108,101,110,103,116,104]⟩,.int .i64 8,.string ⟨#[117,112,112,101,114]⟩,.int .i64 8,.string ⟨#[99,111,110,116,97,105,110,115]⟩,.int .i64 8,.string ⟨#[115,116,97,114,116,115]⟩,.int .i64 8,.string ⟨#[105,102]⟩,.int .i64 8]
def Oy:Value:= .agg Rp
theorem aN (w:World):Calls Tryz.prog 93 #[] w fun e w'=>e= .returned Oy/\Below w.heap.size w w':=by
 go_enter Tryz.func93,Tryz.ntmps93;go_upto_region 1 with (fail)
 refine wp_region_lit ?_;refine Great.wpList_readTo rfl (some 1) rfl (.agg #[.string ⟨#[]⟩,.int .i64 8]) qN ?_;refine Great.wpList_readTo rfl (some 2) rfl (.agg #[.string ⟨#[]⟩,.int .i64 8]) qN ?_;refine Great.wpList_readTo rfl (some 3) rfl (.agg #[.string ⟨#[]⟩,.int .i64 8]) qN ?_;refine Great.wpList_readTo rfl (some 4) rfl (.agg #[.string ⟨#[]⟩,.int .i64 8]) qN ?_;refine Great.wpList_readTo rfl (some 5) rfl (.agg #[.string ⟨#[111,114]⟩,.int .i64 0]) qN ?_;refine Great.wpList_readTo rfl (some 6) rfl (.agg #[.string ⟨#[97,110,100]⟩,.int .i64 1]) qN ?_;refine Great.wpList_readTo rfl (some 7) rfl (.agg #[.string ⟨#[110,111,116,32]⟩,.int .i64 2]) qN ?_;refine Great.wpList_readTo rfl (some 8) rfl (.agg #[.string ⟨#[61]⟩,.int .i64 3]) qN ?_;refine Great.wpList_readTo rfl (some 9) rfl (.agg #[.string ⟨#[60,62]⟩,.int .i64 3]) qN ?_;refine Great.wpList_readTo rfl (some 10) rfl (.agg #[.string ⟨#[60]⟩,.int .i64 3]) qN ?_;refine Great.wpList_readTo rfl (some 11) rfl (.agg #[.string ⟨#[60,61]⟩,.int .i64 3]) qN ?_;refine Great.wpList_readTo rfl (some 12) rfl (.agg #[.string ⟨#[62]⟩,.int .i64 3]) qN ?_;refine Great.wpList_readTo rfl (some 13) rfl (.agg #[.string ⟨#[62,61]⟩,.int .i64 3]) qN ?_;refine Great.wpList_readTo rfl (some 14) rfl (.agg #[.string ⟨#[43]⟩,.int .i64 4]) qN ?_;refine Great.wpList_readTo rfl (some 15) rfl (.agg #[.string ⟨#[45]⟩,.int .i64 4]) qN ?_;refine Great.wpList_readTo rfl (some 16) rfl (.agg #[.string ⟨#[42]⟩,.int .i64 5]) qN ?_;refine Great.wpList_readTo rfl (some 17) rfl (.agg #[.string ⟨#[47]⟩,.int .i64 5]) qN ?_;refine Great.wpList_readTo rfl (some 18) rfl (.agg #[.string ⟨#[45]⟩,.int .i64 6]) qN ?_;refine Great.wpList_readTo rfl (some 19) rfl (.agg #[.string ⟨#[97,98,115]⟩,.int .i64 8]) qN ?_;refine Great.wpList_readTo rfl (some 20) rfl (.agg #[.string ⟨#[109,105,110]⟩,.int .i64 8]) qN ?_;refine Great.wpList_readTo rfl (some 21) rfl (.agg #[.string ⟨#[109,97,120]⟩,.int .i64 8]) qN ?_;refine Great.wpList_readTo rfl (some 22) rfl (.agg #[.string ⟨#[109,111,100]⟩,.int .i64 8]) qN ?_;refine Great.wpList_readTo rfl (some 23) rfl (.agg #[.string ⟨#[108,101,110,103,116,104]⟩,.int .i64 8]) qN ?_;refine Great.wpList_readTo rfl (some 24) rfl (.agg #[.string ⟨#[117,112,112,101,114]⟩,.int .i64 8]) qN ?_;refine Great.wpList_readTo rfl (some 25) rfl (.agg #[.string ⟨#[99,111,110,116,97,105,110,115]⟩,.int .i64 8]) qN ?_;refine Great.wpList_readTo rfl (some 26) rfl (.agg #[.string ⟨#[115,116,97,114,116,115]⟩,.int .i64 8]) qN ?_;refine Great.wpList_readTo rfl (some 27) rfl (.agg #[.string ⟨#[105,102]⟩,.int .i64 8]) qN ?_;refine Great.wpList_readTo rfl (some 28) rfl (.agg Rp) qN ?_;refine wpList_store_rowTo rfl 141 (.tmp 0) (.tmp 28) rfl rfl w.heap.size Rp qN qN 141 #[.string ⟨#[]⟩,.int .i64 0,.string ⟨#[]⟩,.int .i64 0,.string ⟨#[]⟩,.int .i64 0,.string ⟨#[]⟩,.int .i64 0,.string ⟨#[]⟩,.int .i64 0,.string ⟨#[]⟩,.int .i64 0,.string ⟨#[]⟩,.int .i64 0,.string ⟨#[]⟩,.int .i64 0,.string ⟨#[]⟩,.int .i64 0,.string ⟨#[]⟩,.int .i64 0,.string ⟨#[]⟩,.int .i64 0,.string ⟨#[]⟩,.int .i64 0,.string ⟨#[]⟩,.int .i64 0,.string ⟨#[]⟩,.int .i64 0,.string ⟨#[]⟩,.int .i64 0,.string ⟨#[]⟩,.int .i64 0,.string ⟨#[]⟩,.int .i64 0,.string ⟨#[]⟩,.int .i64 0,.string ⟨#[]⟩,.int .i64 0,.string ⟨#[]⟩,.int .i64 0,.string ⟨#[]⟩,.int .i64 0,.string ⟨#[]⟩,.int .i64 0,.string ⟨#[]⟩,.int .i64 0,.string ⟨#[]⟩,.int .i64 0,.string ⟨#[]⟩,.int .i64 0,.string ⟨#[]⟩,.int .i64 0,.string ⟨#[]⟩,.int .i64 0] (Az w _) qN qN qN ?_;rw[World.setRow_alloc_new];refine wpList_nil ?_
 rename_i K hK
 refine hK _ _ ?_;refine wp_ret ?_;show bodyPost Tryz.prog Tryz.f93 (fun e w'=>e= .returned Oy/\Below w.heap.size w w') Exit.ret _ _;refine Au (fn:=Tryz.f93) (R:=fun e w'=>e= .returned Oy/\Below w.heap.size w w') (v:=Oy) ?_ qN ⟨rfl,?_⟩
 ·exact lQ rfl qN (run_loadVar_row _ _ _ _ Rp (0,0) _ (Az w _) Tryz.underlying141 rfl qN)
 exact(Aq _ w).alloc (Ak _) _
def Fh (op:Int):Value:= .agg #[.string ⟨(Cc op).toArray⟩,.int .i64 (A4 op:Int)]
theorem Q6 (op:Int)(h0:0<=op)(h1:op<=26)(w:World):(Instr.index 141 Oy (.int .u8 op)).run Tryz.prog w= .ok (Fh op) w:=by
 obtain rfl|rfl|rfl|rfl|rfl|rfl|rfl|rfl|rfl|rfl|rfl|rfl|rfl|rfl|rfl|rfl|rfl|rfl|rfl|rfl|rfl|rfl|rfl|rfl|rfl|rfl|rfl:op=0\/op=1\/op=2\/op=3\/op=4\/op=5\/op=6\/op=7\/op=8\/op=9\/op=10\/op=11\/op=12\/op=13\/op=14\/op=15\/op=16\/op=17\/op=18\/op=19\/op=20\/op=21\/op=22\/op=23\/op=24\/op=25\/op=26:=by omega
 all_goals kernel_rfl
theorem Ke (op:Int)(h0:0<=op)(w:World):Calls Tryz.prog 62 #[.int .u8 op] w fun e w'=>e= .returned (Fh op)/\Below w.heap.size w w':=by
 have hs:=Ax (aN (w.alloc (.cells #[.string ⟨#[]⟩,.int .i64 0] 102)));have hbA:=Ax ((Aq _ w).alloc (Ak _) (.cells #[.string ⟨#[]⟩,.int .i64 0] 102));have hpA:=Ax (Az w (.cells #[.string ⟨#[]⟩,.int .i64 0] 102));by_cases h26:op<=26
 ·have hix:=fun V=>Q6 op h0 h26 V
  have i1:decide ((26:Int)<op)=false:=An qO;clear h26;unfold Fh at hix ⊢;go_enter Tryz.func62,Tryz.ntmps62;go_wp2_with fail;refine hs.out.mono ?_;rintro e V ⟨rfl,hb⟩;have hbb:Below w.heap.size w V:=hbA.out.trans (hb.mono hbA.out.size);have hp:=(hb.block _ (Ay hpA.out)).trans hpA.out;obtain⟨c0,c1,cf⟩:=B9 hp;have cf0:=cf 0;have cf1:=cf 1;have HB:=Ax hbb;clear hb hbb hp cf hbA hpA;go_wp2_with fail;refine Au (v:= .agg #[.string ⟨(Cc op).toArray⟩,.int .i64 (A4 op:Int)]) (by simp [results,Tryz.results62,go_sem, *]) rfl ⟨rfl,?_⟩;exact(HB.out.setCell (Ak _) _).setCell (Ak _) _
 have hix:=fun V=>Q6 0 qP qP V
 have i1:decide ((26:Int)<op)=true:=Am qO
 have hv:Fh op=Fh 0:=by
  have:K2 op=K2 0:=by
   unfold K2
   repeat rw[Ao qO]
  unfold Fh Cc A4;rw[this]
 rw[hv];clear h26 hv;unfold Fh at hix ⊢;go_enter Tryz.func62,Tryz.ntmps62;go_wp2_with fail;refine hs.out.mono ?_;rintro e V ⟨rfl,hb⟩;have hbb:Below w.heap.size w V:=hbA.out.trans (hb.mono hbA.out.size);have hp:=(hb.block _ (Ay hpA.out)).trans hpA.out;obtain⟨c0,c1,cf⟩:=B9 hp;have cf0:=cf 0;have cf1:=cf 1;have HB:=Ax hbb;clear hb hbb hp cf hbA hpA;go_wp2_with fail;refine Au (v:= .agg #[.string ⟨(Cc 0).toArray⟩,.int .i64 (A4 0:Int)]) (by simp [results,Tryz.results62,go_sem, *]) rfl ⟨rfl,?_⟩;exact(HB.out.setCell (Ak _) _).setCell (Ak _) _
def L6 (op:Int):List UInt8:=if A4 op=0\/A4 op=1\/A4 op=3\/A4 op=4\/A4 op=5 then Cc op else[]
theorem Oq (op:Int)(h0:0<=op)(w:World):Calls Tryz.prog 27 #[.int .u8 op] w fun e w'=>e= .returned (.string ⟨(L6 op).toArray⟩)/\Below w.heap.size w w':=by
 have ho0:=Ke op h0 w;obtain⟨n,hn⟩:∃n,A4 op=n:=⟨_,rfl⟩;obtain⟨x,hx⟩:∃x,Cc op=x:=⟨_,rfl⟩;unfold Fh at ho0;unfold L6;rw[hn,hx] at ho0 ⊢;have ho:=Ax ho0;clear hn hx ho0;by_cases h:n=0\/n=1\/n=3\/n=4\/n=5
 ·rw[Ap h];rcases h with rfl|rfl|rfl|rfl|rfl
  all_goals
   exact zxh
 rw[Ao h];have g0:((n:Int)==0)=false:=by simp;omega
 have g1:((n:Int)==1)=false:=by simp;omega
 have g3:((n:Int)==3)=false:=by simp;omega
 have g4:((n:Int)==4)=false:=by simp;omega
 have g5:((n:Int)==5)=false:=by simp;omega
 clear h;exact zxh
open Go Go.RowKit Go.Lib Go.Sort Go.Shelf
theorem Ig.form {w:World}{B:Nat}{X:List Nat}{v:Value}{nds:List Nd}(h:Ig w B X v nds)(hn:0<nds.length):∃g c,v= .slice (some ⟨g,0,none⟩) nds.length c/\nds.length<=c/\B<=g:=by
 obtain⟨kvs,h1,_⟩:=h;rcases h1.2 with ⟨_,h0⟩|⟨g,cap,cur,rfl,hB,_,hc,_⟩
 ·omega
 exact⟨g,cap,rfl,hc,hB⟩
theorem Ig.slice {w:World}{B:Nat}{X:List Nat}{v:Value}{nds:List Nd}(h:Ig w B X v nds):∃a c,v= .slice a nds.length c:=by
 obtain⟨kvs,h1,_⟩:=h;exact Ez h1
theorem Ig.nil (w:World)(B:Nat):Ig w B [] (.slice none 0 0) []:=⟨[],World.ownsRow_nil w B 43 8,trivial⟩
theorem Ib {B:Nat}{a b c:World}{v:Value}(h:Below B a b)(hg:b.grownBy c v.ownBlock)(hv:∀g,v.ownBlock=some g->B<=g)(hB:B<=b.heap.size):Below B a c:=
 Bz h (Bb.of_grown hg v.ownBlock.toList fun k hk=>by simp [hk]) (fun i hi=>hv i tI) hB
theorem TrZ.get {w:World}{b off n c i:Nat}{l:List Nz}{x:Nz}(h:TrZ w (.slice (some ⟨b,off,none⟩) n c) l)(hx:l[i]? =some x):∃kv,Nt w b (off+i*8) x.h kv/\En w kv x.kids:=by
 obtain⟨h1,a,c0,e,h2⟩:=h;injection e with e1 _ _;obtain⟨hi,rfl⟩:=List.getElem?_eq_some_iff.1 hx;obtain⟨b',off',kv,e',hn,hk⟩:=h2 i hi;rw[←e1] at e';injection e' with e';injection e' with e3 e4;subst e3 e4;exact⟨kv,hn,hk⟩
theorem eF (l:List Nat)(x:Nat):Eg (l++[x])=Eg l++[.int .i64 (x:Int)]:=by simp [Eg]
open Go Go.RowKit Go.Lib Go.Sort Go.Shelf
def Rw (w:World)(tb:Nat)(ts:List (List UInt8)):Prop:=∀(j:Nat) t,ts[j]? =some t->w.cell? ⟨tb,j,none⟩=some (.string ⟨t.toArray⟩)
theorem Rw.below {w w':World}{tb:Nat}{ts:List (List UInt8)}(h:Rw w tb ts)(hb:Below w.heap.size w w'):Rw w' tb ts:=fun j t hj=>A6 hb (h j t hj)
structure Oz (w:World)(b:Nat)(tv:Value)(tb:Nat)(l:List Nz)(ts:List (List UInt8)):Prop where
 tree:TrZ w tv l
 c0:w.cell? ⟨b,0,none⟩=some tv
 c1:w.cell? ⟨b,1,none⟩=some (.slice (some ⟨tb,0,none⟩) l.length l.length)
 texts:Rw w tb ts
 few:ts.length<=l.length
 ops:∀x∈l,0<=x.h.op
 short:∀t∈ts,t.length<=65536
theorem Oz.below {w w':World}{b tb:Nat}{tv:Value}{l:List Nz}{ts:List (List UInt8)}(h:Oz w b tv tb l ts)(hb:Below w.heap.size w w'):Oz w' b tv tb l ts:=
 ⟨h.tree.below hb,A6 hb h.c0,A6 hb h.c1,h.texts.below hb,h.few,h.ops,h.short⟩
def B5 (l:List Nz)(ts:List (List UInt8))(kids:List Int)(k least:Nat):List UInt8:=match kids[k]? with
 |none=>[]
 |some c=>if 0<=c/\c<(ts.length:Int) then(match l[c.toNat]?,ts[c.toNat]? with
  |some x,some t=>if A4 x.h.op<least then Kt t else t
  |_,_=>[]) else[]
theorem Ed (a b:Value)(w:World):(Instr.field 102 (.agg #[a,b]) 0).run Tryz.prog w= .ok a w:=by kernel_rfl
theorem Dz (a b:Value)(w:World):(Instr.field 102 (.agg #[a,b]) 1).run Tryz.prog w= .ok b w:=by kernel_rfl
theorem TrZ.slice {w:World}{v:Value}{l:List Nz}(h:TrZ w v l):∃a c,v= .slice a l.length c:=by
 obtain⟨_,a,c,rfl,_⟩:=h;exact⟨a,c,rfl⟩
theorem TrZ.some {w:World}{v:Value}{l:List Nz}(h:TrZ w v l)(hn:0<l.length):∃b off c,v= .slice (some ⟨b,off,none⟩) l.length c:=by
 obtain⟨_,a,c,rfl,h2⟩:=h;obtain⟨b,off,_,rfl,_⟩:=h2 0 hn;exact⟨b,off,c,rfl⟩
theorem Kj (a b:List UInt8):(⟨a.toArray⟩++⟨b.toArray⟩:ByteArray)=⟨(a++b).toArray⟩:=by
 apply ByteArray.ext;simp
theorem jC (t:List UInt8):(⟨#[40]⟩++⟨t.toArray⟩++⟨#[41]⟩:ByteArray)=⟨(Kt t).toArray⟩:=by
 apply ByteArray.ext;simp [Kt]
theorem Pk {w:World}{b tb:Nat}{tv:Value}{l:List Nz}{ts:List (List UInt8)}{x:Nz}(h:Oz w b tv tb l ts)(hx:l[ts.length]? =some x)(k least:Nat)(hk:k<=1000000):
 Calls Tryz.prog 168 #[.pointer (some ⟨b,0,none⟩),.int .i64 (ts.length:Int),.int .i64 (k:Int),.int .i64 (least:Int)] w fun e w'=>e= .returned (.string ⟨(B5 l ts x.kids k least).toArray⟩)/\Below w.heap.size w w':=by
 obtain⟨hi,_⟩:=List.getElem?_eq_some_iff.1 hx;obtain⟨tr,off,tc,rfl⟩:=h.tree.some qO;obtain⟨kv,hn,hki⟩:=h.tree.get hx;obtain⟨hkl,ka,kc,rfl,hkc⟩:=hki;have x5:=hn.2.2.2.2.2.1;have c0:=h.c0;have c1:=h.c1;have hlm:=h.tree.1;have i0:(0:Int)<=(ts.length:Int):=by omega
 have i1:(ts.length:Int)<(l.length:Int):=by omega
 by_cases hkk:k<x.kids.length
 ·obtain⟨kb,ko,rfl,hkcell⟩:=hkc k hkk
  have hz:B5 l ts x.kids k least=if 0<=x.kids[k]/\x.kids[k]<(ts.length:Int) then(match l[x.kids[k].toNat]?,ts[x.kids[k].toNat]? with
   |some x,some t=>if A4 x.h.op<least then Kt t else t
   |_,_=>[]) else[]:=by
   unfold B5;rw[Ag hkk]
  rw[hz];obtain⟨c,hc⟩:∃c,x.kids[k]=c:=⟨_,rfl⟩;rw[hc] at hkcell ⊢;have j0:(0:Int)<=(k:Int):=by omega
  have j1:(k:Int)<(x.kids.length:Int):=by omega
  have j2:decide ((x.kids.length:Int)<=(k:Int))=false:=An qO;by_cases hc0:0<=c
  ·have e0:decide (c<0)=false:=An qO;by_cases hci:c<(ts.length:Int)
   ·have e1:decide ((ts.length:Int)<=c)=false:=An qO;obtain⟨m,rfl⟩:∃m:Nat,c=(m:Int):=⟨c.toNat,by omega⟩;have hm:m<ts.length:=by omega
    have hml:m<l.length:=by omega
    have hti:ts[m]? =some ts[m]:=Ag hm;have hli:l[m]? =some l[m]:=Ag hml;rw[Ap ⟨hc0,hci⟩,Int.toNat_natCast,hti,hli];simp only;have ht:=h.texts m _ hti;have hsh:=h.short _ (List.getElem_mem hm);have hop:=h.ops _ (List.getElem_mem hml);obtain⟨kv2,hn2,_⟩:=h.tree.get hli;have y0:=hn2.1;obtain⟨t,het⟩:∃t,ts[m]=t:=⟨_,rfl⟩;obtain⟨y,hey⟩:∃y,l[m]=y:=⟨_,rfl⟩;rw[het] at ht hsh ⊢;rw[hey] at y0 hop ⊢;have m0:(0:Int)<=(m:Int):=by omega
    have m1:(m:Int)<(l.length:Int):=by omega
    have ho:=fun V=>Ax (Ke y.h.op hop V)
    obtain⟨lv,hlv⟩:∃lv,A4 y.h.op=lv:=⟨_,rfl⟩;have hf1:=fun u V=>Dz u (.int .i64 (lv:Int)) V
    unfold Fh at ho;simp only[hlv] at ho ⊢;have hsz:t.length<=65536:=hsh;have HLV:=Ax hlv;have n1:decide (x.kids.length<=k)=false:=An qO;have n2:decide (ts.length<=m)=false:=An qO;have HD:=fun nq=>Ax (show Below w.heap.size w (w.drewN nq) from Below.drewN' nq (Aq _ w))
    clear h hn hkc hx hz hc hti hli het hey hn2 hlv hsh hop;by_cases hll:lv<least
    ·rw[Ap hll,←jC];have n3:decide (lv<least)=true:=Am hll;have n4:decide ((lv:Int)<(least:Int))=true:=Am qO;exact zyd
    rw[Ao hll];have n3:decide (lv<least)=false:=An hll;have n4:decide ((lv:Int)<(least:Int))=false:=An qO;exact zyd
   rw[Ao (fun h=>hci h.2)];have e1:decide ((ts.length:Int)<=c)=true:=Am qO;clear h hn hkc hx hz hc;go_enter Tryz.func168,Tryz.ntmps168;exact zy3
  rw[Ao (fun h=>hc0 h.1)];have e0:decide (c<0)=true:=Am qO;have n1:decide (x.kids.length<=k)=false:=An qO;clear h hn hkc hx hz hc;go_enter Tryz.func168,Tryz.ntmps168;exact zy3
 have hz:B5 l ts x.kids k least=[]:=by
  unfold B5;rw[List.getElem?_eq_none qO]
 rw[hz];have j2:decide ((x.kids.length:Int)<=(k:Int))=true:=Am qO;have n1:decide (x.kids.length<=k)=true:=Am qO;clear h hn hkc hx hz;go_enter Tryz.func168,Tryz.ntmps168;exact zy3
end Go.Proofs.YtgfakdobajgnfaaGreatDoor

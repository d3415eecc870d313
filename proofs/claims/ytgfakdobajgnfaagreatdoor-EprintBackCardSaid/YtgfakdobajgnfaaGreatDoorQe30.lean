import Derived.Test.YtgfakdobajgnfaaGreatDoorQe13
import Derived.Test.YtgfakdobajgnfaaGreatDoorQe14
set_option maxRecDepth 100000
set_option maxHeartbeats 16000000
namespace Go.Proofs.YtgfakdobajgnfaaGreatDoor
open Go Go.RowKit Go.Lib Go.Sort Go.Shelf
theorem mE {P:Program}{fn:Func}{tmps:Array Value}{W:World}{v:Value}{t:TypeId}{p:Addr}(hr:fn.results= #[.cell 0 t])(h0:tmps.getD 0 undef= .pointer (some p))(hl:(loadVar t p).run P W= .ok v W):(results fn tmps).run P W= .ok v W:=by
 have h1:(tmps[0]?.getD undef)= .pointer (some p):=by simpa using h0
 unfold results
 rw[hr]
 simp [h1,hl,asAddr]
def Sk:Array Value:= #[.string ⟨#[]⟩,.int .i64 8,.string ⟨#[]⟩,.int .i64 8,.string ⟨#[]⟩,.int .i64 8,.string ⟨#[]⟩,.int .i64 8,.string ⟨#[111,114]⟩,.int .i64 0,.string ⟨#[97,110,100]⟩,.int .i64 1,.string ⟨#[110,111,116,32]⟩,.int .i64 2,.string ⟨#[61]⟩,.int .i64 3,.string ⟨#[60,62]⟩,.int .i64 3,.string ⟨#[60]⟩,.int .i64 3,.string ⟨#[60,61]⟩,.int .i64 3,.string ⟨#[62]⟩,.int .i64 3,.string ⟨#[62,61]⟩,.int .i64 3,.string ⟨#[43]⟩,.int .i64 4,.string ⟨#[45]⟩,.int .i64 4,.string ⟨#[42]⟩,.int .i64 5,.string ⟨#[47]⟩,.int .i64 5,.string ⟨#[45]⟩,.int .i64 6,.string ⟨#[97,98,115]⟩,.int .i64 8,.string ⟨#[109,105,110]⟩,.int .i64 8,.string ⟨#[109,97,120]⟩,.int .i64 8,.string ⟨#[109,111,100]⟩,.int .i64 8,.string ⟨#[108,101,110,103,116,104]⟩,.int .i64 8,.string ⟨#[117,112,112,101,114]⟩,.int .i64 8,.string ⟨#[99,111,110,116,97,105,110,115]⟩,.int .i64 8,.string ⟨#[115,116,97,114,116,115]⟩,.int .i64 8,.string ⟨#[105,102]⟩,.int .i64 8]
def Qe:Value:= .agg Sk
theorem aD (w:World):Calls Tryz.prog 93 #[] w fun e w'=>e= .returned Qe/\Below w.heap.size w w':=by
 go_enter Tryz.func93,Tryz.ntmps93
 go_upto_region 1 with (fail)
 refine wp_region_lit ?_
 refine Great.wpList_readTo rfl (some 1) rfl (.agg #[.string ⟨#[]⟩,.int .i64 8]) qZ ?_
 refine Great.wpList_readTo rfl (some 2) rfl (.agg #[.string ⟨#[]⟩,.int .i64 8]) qZ ?_
 refine Great.wpList_readTo rfl (some 3) rfl (.agg #[.string ⟨#[]⟩,.int .i64 8]) qZ ?_
 refine Great.wpList_readTo rfl (some 4) rfl (.agg #[.string ⟨#[]⟩,.int .i64 8]) qZ ?_
 refine Great.wpList_readTo rfl (some 5) rfl (.agg #[.string ⟨#[111,114]⟩,.int .i64 0]) qZ ?_
 refine Great.wpList_readTo rfl (some 6) rfl (.agg #[.string ⟨#[97,110,100]⟩,.int .i64 1]) qZ ?_
 refine Great.wpList_readTo rfl (some 7) rfl (.agg #[.string ⟨#[110,111,116,32]⟩,.int .i64 2]) qZ ?_
 refine Great.wpList_readTo rfl (some 8) rfl (.agg #[.string ⟨#[61]⟩,.int .i64 3]) qZ ?_
 refine Great.wpList_readTo rfl (some 9) rfl (.agg #[.string ⟨#[60,62]⟩,.int .i64 3]) qZ ?_
 refine Great.wpList_readTo rfl (some 10) rfl (.agg #[.string ⟨#[60]⟩,.int .i64 3]) qZ ?_
 refine Great.wpList_readTo rfl (some 11) rfl (.agg #[.string ⟨#[60,61]⟩,.int .i64 3]) qZ ?_
 refine Great.wpList_readTo rfl (some 12) rfl (.agg #[.string ⟨#[62]⟩,.int .i64 3]) qZ ?_
 refine Great.wpList_readTo rfl (some 13) rfl (.agg #[.string ⟨#[62,61]⟩,.int .i64 3]) qZ ?_
 refine Great.wpList_readTo rfl (some 14) rfl (.agg #[.string ⟨#[43]⟩,.int .i64 4]) qZ ?_
 refine Great.wpList_readTo rfl (some 15) rfl (.agg #[.string ⟨#[45]⟩,.int .i64 4]) qZ ?_
 refine Great.wpList_readTo rfl (some 16) rfl (.agg #[.string ⟨#[42]⟩,.int .i64 5]) qZ ?_
 refine Great.wpList_readTo rfl (some 17) rfl (.agg #[.string ⟨#[47]⟩,.int .i64 5]) qZ ?_
 refine Great.wpList_readTo rfl (some 18) rfl (.agg #[.string ⟨#[45]⟩,.int .i64 6]) qZ ?_
 refine Great.wpList_readTo rfl (some 19) rfl (.agg #[.string ⟨#[97,98,115]⟩,.int .i64 8]) qZ ?_
 refine Great.wpList_readTo rfl (some 20) rfl (.agg #[.string ⟨#[109,105,110]⟩,.int .i64 8]) qZ ?_
 refine Great.wpList_readTo rfl (some 21) rfl (.agg #[.string ⟨#[109,97,120]⟩,.int .i64 8]) qZ ?_
 refine Great.wpList_readTo rfl (some 22) rfl (.agg #[.string ⟨#[109,111,100]⟩,.int .i64 8]) qZ ?_
 refine Great.wpList_readTo rfl (some 23) rfl (.agg #[.string ⟨#[108,101,110,103,116,104]⟩,.int .i64 8]) qZ ?_
 refine Great.wpList_readTo rfl (some 24) rfl (.agg #[.string ⟨#[117,112,112,101,114]⟩,.int .i64 8]) qZ ?_
 refine Great.wpList_readTo rfl (some 25) rfl (.agg #[.string ⟨#[99,111,110,116,97,105,110,115]⟩,.int .i64 8]) qZ ?_
 refine Great.wpList_readTo rfl (some 26) rfl (.agg #[.string ⟨#[115,116,97,114,116,115]⟩,.int .i64 8]) qZ ?_
 refine Great.wpList_readTo rfl (some 27) rfl (.agg #[.string ⟨#[105,102]⟩,.int .i64 8]) qZ ?_
 refine Great.wpList_readTo rfl (some 28) rfl (.agg Sk) qZ ?_
 refine wpList_store_rowTo rfl 141 (.tmp 0) (.tmp 28) rfl rfl w.heap.size Sk qZ qZ 141 #[.string ⟨#[]⟩,.int .i64 0,.string ⟨#[]⟩,.int .i64 0,.string ⟨#[]⟩,.int .i64 0,.string ⟨#[]⟩,.int .i64 0,.string ⟨#[]⟩,.int .i64 0,.string ⟨#[]⟩,.int .i64 0,.string ⟨#[]⟩,.int .i64 0,.string ⟨#[]⟩,.int .i64 0,.string ⟨#[]⟩,.int .i64 0,.string ⟨#[]⟩,.int .i64 0,.string ⟨#[]⟩,.int .i64 0,.string ⟨#[]⟩,.int .i64 0,.string ⟨#[]⟩,.int .i64 0,.string ⟨#[]⟩,.int .i64 0,.string ⟨#[]⟩,.int .i64 0,.string ⟨#[]⟩,.int .i64 0,.string ⟨#[]⟩,.int .i64 0,.string ⟨#[]⟩,.int .i64 0,.string ⟨#[]⟩,.int .i64 0,.string ⟨#[]⟩,.int .i64 0,.string ⟨#[]⟩,.int .i64 0,.string ⟨#[]⟩,.int .i64 0,.string ⟨#[]⟩,.int .i64 0,.string ⟨#[]⟩,.int .i64 0,.string ⟨#[]⟩,.int .i64 0,.string ⟨#[]⟩,.int .i64 0,.string ⟨#[]⟩,.int .i64 0] (Au w _) qZ qZ qZ ?_
 rw[World.setRow_alloc_new]
 refine wpList_nil ?_
 rename_i K hK
 refine hK _ _ ?_
 refine wp_ret ?_
 show bodyPost Tryz.prog Tryz.f93 (fun e w'=>e= .returned Qe/\Below w.heap.size w w') Exit.ret _ _
 refine bodyPost_ret (fn:=Tryz.f93) (R:=fun e w'=>e= .returned Qe/\Below w.heap.size w w') (v:=Qe) ?_ qZ ⟨rfl,?_⟩
 ·exact mE rfl qZ (run_loadVar_row _ _ _ _ Sk (0,0) _ (Au w _) Tryz.underlying141 rfl qZ)
 ·exact(Below.refl _ w).alloc (Ak _) _
def F3 (op:Int):Value:= .agg #[.string ⟨(Cf op).toArray⟩,.int .i64 (Az op:Int)]
theorem R2 (op:Int)(h0:0<=op)(h1:op<=26)(w:World):(Instr.index 141 Qe (.int .u8 op)).run Tryz.prog w= .ok (F3 op) w:=by
 obtain rfl|rfl|rfl|rfl|rfl|rfl|rfl|rfl|rfl|rfl|rfl|rfl|rfl|rfl|rfl|rfl|rfl|rfl|rfl|rfl|rfl|rfl|rfl|rfl|rfl|rfl|rfl:op=0\/op=1\/op=2\/op=3\/op=4\/op=5\/op=6\/op=7\/op=8\/op=9\/op=10\/op=11\/op=12\/op=13\/op=14\/op=15\/op=16\/op=17\/op=18\/op=19\/op=20\/op=21\/op=22\/op=23\/op=24\/op=25\/op=26:=by omega
 all_goals kernel_rfl
theorem K8 (op:Int)(h0:0<=op)(w:World):Calls Tryz.prog 62 #[.int .u8 op] w fun e w'=>e= .returned (F3 op)/\Below w.heap.size w w':=by
 have hs:=Ao (aD (w.alloc (.cells #[.string ⟨#[]⟩,.int .i64 0] 102)))
 have hbA:=Ao ((Below.refl _ w).alloc (Ak _) (.cells #[.string ⟨#[]⟩,.int .i64 0] 102))
 have hpA:=Ao (Au w (.cells #[.string ⟨#[]⟩,.int .i64 0] 102))
 by_cases h26:op<=26
 ·have hix:=fun V=>R2 op h0 h26 V
  have i1:decide ((26:Int)<op)=false:=An rA
  clear h26
  unfold F3 at hix ⊢
  go_enter Tryz.func62,Tryz.ntmps62
  go_wp2_with fail
  refine hs.out.mono ?_
  rintro e V ⟨rfl,hb⟩
  have hbb:Below w.heap.size w V:=hbA.out.trans (hb.mono hbA.out.size)
  have hp:=(hb.block _ (Aq hpA.out)).trans hpA.out
  obtain⟨c0,c1,cf⟩:=B1 hp
  have cf0:=cf 0
  have cf1:=cf 1
  have HB:=Ao hbb
  clear hb hbb hp cf hbA hpA
  go_wp2_with fail
  refine bodyPost_ret (v:= .agg #[.string ⟨(Cf op).toArray⟩,.int .i64 (Az op:Int)]) (by simp [results,Tryz.results62,go_sem, *]) rfl ⟨rfl,?_⟩
  exact(HB.out.setCell (Ak _) _).setCell (Ak _) _
 ·have hix:=fun V=>R2 0 rB rB V
  have i1:decide ((26:Int)<op)=true:=Am rA
  have hv:F3 op=F3 0:=by
   have:Mj op=Mj 0:=by
    unfold Mj
    repeat rw[if_neg rA]
   unfold F3 Cf Az
   rw[this]
  rw[hv]
  clear h26 hv
  unfold F3 at hix ⊢
  go_enter Tryz.func62,Tryz.ntmps62
  go_wp2_with fail
  refine hs.out.mono ?_
  rintro e V ⟨rfl,hb⟩
  have hbb:Below w.heap.size w V:=hbA.out.trans (hb.mono hbA.out.size)
  have hp:=(hb.block _ (Aq hpA.out)).trans hpA.out
  obtain⟨c0,c1,cf⟩:=B1 hp
  have cf0:=cf 0
  have cf1:=cf 1
  have HB:=Ao hbb
  clear hb hbb hp cf hbA hpA
  go_wp2_with fail
  refine bodyPost_ret (v:= .agg #[.string ⟨(Cf 0).toArray⟩,.int .i64 (Az 0:Int)]) (by simp [results,Tryz.results62,go_sem, *]) rfl ⟨rfl,?_⟩
  exact(HB.out.setCell (Ak _) _).setCell (Ak _) _
def Fe (op:Int):List UInt8:=if Az op=0\/Az op=1\/Az op=3\/Az op=4\/Az op=5 then Cf op else[]
theorem Lz (op:Int)(h0:0<=op)(w:World):Calls Tryz.prog 27 #[.int .u8 op] w fun e w'=>e= .returned (.string ⟨(Fe op).toArray⟩)/\Below w.heap.size w w':=by
 have ho0:=K8 op h0 w
 obtain⟨n,hn⟩:∃n,Az op=n:=⟨_,rfl⟩
 obtain⟨x,hx⟩:∃x,Cf op=x:=⟨_,rfl⟩
 unfold F3 at ho0
 unfold Fe
 rw[hn,hx] at ho0 ⊢
 have ho:=Ao ho0
 clear hn hx ho0
 by_cases h:n=0\/n=1\/n=3\/n=4\/n=5
 ·rw[if_pos h]
  rcases h with rfl|rfl|rfl|rfl|rfl
  all_goals
   exact zxp
 ·rw[if_neg h]
  have g0:((n:Int)==0)=false:=by simp;omega
  have g1:((n:Int)==1)=false:=by simp;omega
  have g3:((n:Int)==3)=false:=by simp;omega
  have g4:((n:Int)==4)=false:=by simp;omega
  have g5:((n:Int)==5)=false:=by simp;omega
  clear h
  exact zxp
open Go Go.RowKit Go.Lib Go.Sort Go.Shelf
def Sf (w:World)(tb:Nat)(ts:List (List UInt8)):Prop:=∀(j:Nat) t,ts[j]? =some t->w.cell? ⟨tb,j,none⟩=some (.string ⟨t.toArray⟩)
theorem Sf.below {w w':World}{tb:Nat}{ts:List (List UInt8)}(h:Sf w tb ts)(hb:Below w.heap.size w w'):Sf w' tb ts:=fun j t hj=>A5 hb (h j t hj)
structure Qc (w:World)(b:Nat)(tv:Value)(tb:Nat)(l:List Nz)(ts:List (List UInt8)):Prop where
 tree:TrZ w tv l
 c0:w.cell? ⟨b,0,none⟩=some tv
 c1:w.cell? ⟨b,1,none⟩=some (.slice (some ⟨tb,0,none⟩) l.length l.length)
 texts:Sf w tb ts
 few:ts.length<=l.length
 ops:∀x∈l,0<=x.h.op
 short:∀t∈ts,t.length<=65536
theorem Qc.below {w w':World}{b tb:Nat}{tv:Value}{l:List Nz}{ts:List (List UInt8)}(h:Qc w b tv tb l ts)(hb:Below w.heap.size w w'):Qc w' b tv tb l ts:=
 ⟨h.tree.below hb,A5 hb h.c0,A5 hb h.c1,h.texts.below hb,h.few,h.ops,h.short⟩
def Dj (l:List Nz)(ts:List (List UInt8))(kids:List Int)(k least:Nat):List UInt8:=match kids[k]? with
 |none=>[]
 |some c=>if 0<=c/\c<(ts.length:Int) then(match l[c.toNat]?,ts[c.toNat]? with
  |some x,some t=>if Az x.h.op<least then Ms t else t
  |_,_=>[]) else[]
theorem Eo (a b:Value)(w:World):(Instr.field 102 (.agg #[a,b]) 0).run Tryz.prog w= .ok a w:=by kernel_rfl
theorem D6 (a b:Value)(w:World):(Instr.field 102 (.agg #[a,b]) 1).run Tryz.prog w= .ok b w:=by kernel_rfl
theorem TrZ.slice {w:World}{v:Value}{l:List Nz}(h:TrZ w v l):∃a c,v= .slice a l.length c:=by
 obtain⟨_,a,c,rfl,_⟩:=h
 exact⟨a,c,rfl⟩
theorem TrZ.some {w:World}{v:Value}{l:List Nz}(h:TrZ w v l)(hn:0<l.length):∃b off c,v= .slice (some ⟨b,off,none⟩) l.length c:=by
 obtain⟨_,a,c,rfl,h2⟩:=h
 obtain⟨b,off,_,rfl,_⟩:=h2 0 hn
 exact⟨b,off,c,rfl⟩
theorem aO (a b:List UInt8):(⟨a.toArray⟩++⟨b.toArray⟩:ByteArray)=⟨(a++b).toArray⟩:=by
 apply ByteArray.ext
 simp
theorem kQ (t:List UInt8):(⟨#[40]⟩++⟨t.toArray⟩++⟨#[41]⟩:ByteArray)=⟨(Ms t).toArray⟩:=by
 apply ByteArray.ext
 simp [Ms]
theorem Pp {w:World}{b tb:Nat}{tv:Value}{l:List Nz}{ts:List (List UInt8)}{x:Nz}(h:Qc w b tv tb l ts)(hx:l[ts.length]? =some x)(k least:Nat)(hk:k<=1000000):
 Calls Tryz.prog 168 #[.pointer (some ⟨b,0,none⟩),.int .i64 (ts.length:Int),.int .i64 (k:Int),.int .i64 (least:Int)] w fun e w'=>e= .returned (.string ⟨(Dj l ts x.kids k least).toArray⟩)/\Below w.heap.size w w':=by
 obtain⟨hi,_⟩:=List.getElem?_eq_some_iff.1 hx
 obtain⟨tr,off,tc,rfl⟩:=h.tree.some rA
 obtain⟨kv,hn,hki⟩:=h.tree.get hx
 obtain⟨hkl,ka,kc,rfl,hkc⟩:=hki
 have x5:=hn.2.2.2.2.2.1
 have c0:=h.c0
 have c1:=h.c1
 have hlm:=h.tree.1
 have i0:(0:Int)<=(ts.length:Int):=by omega
 have i1:(ts.length:Int)<(l.length:Int):=by omega
 by_cases hkk:k<x.kids.length
 ·obtain⟨kb,ko,rfl,hkcell⟩:=hkc k hkk
  have hz:Dj l ts x.kids k least=if 0<=x.kids[k]/\x.kids[k]<(ts.length:Int) then(match l[x.kids[k].toNat]?,ts[x.kids[k].toNat]? with
   |some x,some t=>if Az x.h.op<least then Ms t else t
   |_,_=>[]) else[]:=by
   unfold Dj
   rw[Ag hkk]
  rw[hz]
  obtain⟨c,hc⟩:∃c,x.kids[k]=c:=⟨_,rfl⟩
  rw[hc] at hkcell ⊢
  have j0:(0:Int)<=(k:Int):=by omega
  have j1:(k:Int)<(x.kids.length:Int):=by omega
  have j2:decide ((x.kids.length:Int)<=(k:Int))=false:=An rA
  by_cases hc0:0<=c
  ·have e0:decide (c<0)=false:=An rA
   by_cases hci:c<(ts.length:Int)
   ·have e1:decide ((ts.length:Int)<=c)=false:=An rA
    obtain⟨m,rfl⟩:∃m:Nat,c=(m:Int):=⟨c.toNat,by omega⟩
    have hm:m<ts.length:=by omega
    have hml:m<l.length:=by omega
    have hti:ts[m]? =some ts[m]:=Ag hm
    have hli:l[m]? =some l[m]:=Ag hml
    rw[if_pos ⟨hc0,hci⟩,Int.toNat_natCast,hti,hli]
    simp only
    have ht:=h.texts m _ hti
    have hsh:=h.short _ (List.getElem_mem hm)
    have hop:=h.ops _ (List.getElem_mem hml)
    obtain⟨kv2,hn2,_⟩:=h.tree.get hli
    have y0:=hn2.1
    obtain⟨t,het⟩:∃t,ts[m]=t:=⟨_,rfl⟩
    obtain⟨y,hey⟩:∃y,l[m]=y:=⟨_,rfl⟩
    rw[het] at ht hsh ⊢
    rw[hey] at y0 hop ⊢
    have m0:(0:Int)<=(m:Int):=by omega
    have m1:(m:Int)<(l.length:Int):=by omega
    have ho:=fun V=>Ao (K8 y.h.op hop V)
    obtain⟨lv,hlv⟩:∃lv,Az y.h.op=lv:=⟨_,rfl⟩
    have hf1:=fun u V=>D6 u (.int .i64 (lv:Int)) V
    unfold F3 at ho
    simp only[hlv] at ho ⊢
    have hsz:t.length<=65536:=hsh
    have HLV:=Ao hlv
    have n1:decide (x.kids.length<=k)=false:=An rA
    have n2:decide (ts.length<=m)=false:=An rA
    have HD:=fun nq=>Ao (show Below w.heap.size w (w.drewN nq) from Below.drewN' nq (Below.refl _ w))
    clear h hn hkc hx hz hc hti hli het hey hn2 hlv hsh hop
    by_cases hll:lv<least
    ·rw[if_pos hll,←kQ]
     have n3:decide (lv<least)=true:=Am hll
     have n4:decide ((lv:Int)<(least:Int))=true:=Am rA
     exact zyi
    ·rw[if_neg hll]
     have n3:decide (lv<least)=false:=An hll
     have n4:decide ((lv:Int)<(least:Int))=false:=An rA
     exact zyi
   ·rw[if_neg (fun h=>hci h.2)]
    have e1:decide ((ts.length:Int)<=c)=true:=Am rA
    clear h hn hkc hx hz hc
    go_enter Tryz.func168,Tryz.ntmps168
    go_wp2_with fail
    exact zyj
  ·rw[if_neg (fun h=>hc0 h.1)]
   have e0:decide (c<0)=true:=Am rA
   have n1:decide (x.kids.length<=k)=false:=An rA
   clear h hn hkc hx hz hc
   go_enter Tryz.func168,Tryz.ntmps168
   go_wp2_with fail
   exact zyj
 ·have hz:Dj l ts x.kids k least=[]:=by
   unfold Dj
   rw[List.getElem?_eq_none rA]
  rw[hz]
  have j2:decide ((x.kids.length:Int)<=(k:Int))=true:=Am rA
  have n1:decide (x.kids.length<=k)=true:=Am rA
  clear h hn hkc hx hz
  go_enter Tryz.func168,Tryz.ntmps168
  go_wp2_with fail
  exact zyj
open Go Go.RowKit Go.Lib Go.Sort Go.Shelf
def D7 (h:Hd)(n:Nat)(kid:Nat->Nat->List UInt8):List UInt8:=
 if h.op=1 then C9 h.v.1 h.v.2.1 h.v.2.2 else if h.op=2 then 63::h.name else if h.op=3 then[63]
 else if Az h.op=8 then Cf h.op++Ms (Gc [44,32] ((List.range n).map fun k=>kid k 0))
 else if Az h.op=2\/Az h.op=6 then Cf h.op++kid 0 (Az h.op)
 else if Az h.op=3 then kid 0 4++32::(Cf h.op++32::kid 1 4)
 else kid 0 (Az h.op)++32::(Cf h.op++32::kid 1 (Az h.op+1))
def P9 (h:Hd):Prop:= -9223372036854775808<=h.v.2.1/\h.v.2.1<=9223372036854775807/\h.v.2.2.length<=1000000/\h.name.length<=1000000
theorem Nh {l:List Nz}{ts:List (List UInt8)}(hs:∀t∈ts,t.length<=65536)(kids:List Int)(k least:Nat):(Dj l ts kids k least).length<=65538:=by
 unfold Dj
 split
 ·simp
 ·split
  ·split
   ·rename_i x t h1 h2
    have:=hs t (List.mem_of_getElem? h2)
    split
    ·unfold Ms;simp only[Aa,Ab,List.length_nil];omega
    ·omega
   ·simp
  ·simp
theorem Ls (op:Int):(Cf op).length<=8/\Az op<=8:=by
 by_cases h:4<=op/\op<=26
 ·obtain rfl|rfl|rfl|rfl|rfl|rfl|rfl|rfl|rfl|rfl|rfl|rfl|rfl|rfl|rfl|rfl|rfl|rfl|rfl|rfl|rfl|rfl|rfl:op=4\/op=5\/op=6\/op=7\/op=8\/op=9\/op=10\/op=11\/op=12\/op=13\/op=14\/op=15\/op=16\/op=17\/op=18\/op=19\/op=20\/op=21\/op=22\/op=23\/op=24\/op=25\/op=26:=by omega
  all_goals decide
 ·have:Mj op=([],8):=by
   unfold Mj
   repeat rw[if_neg rA]
  unfold Cf Az
  rw[this]
  decide
theorem Z4 (a b c:List UInt8):(⟨(a++32::(b++32::c)).toArray⟩:ByteArray)=⟨a.toArray⟩++⟨#[32]⟩++⟨b.toArray⟩++⟨#[32]⟩++⟨c.toArray⟩:=by
 apply ByteArray.ext
 simp
theorem bZ (sep:List UInt8):∀l:List (List UInt8),Lib.join l sep=Gc sep l
 |[]=>rfl
 |[x]=>by rw[Lib.join_one];rfl
 |x::y::r=>by
  show Lib.join (x::y::r) sep=x++(sep++Gc sep (y::r))
  rw[←bZ sep (y::r)]
  simp [Lib.join,List.intercalate]
theorem Vn:∀(l:List (List UInt8)),(∀t∈l,t.length<=65538)->(Gc [44,32] l).length<=l.length*65540
 |[],_=>by simp [Gc]
 |[x],h=>by
  have:=h x Ai
  show x.length<=_
  simp only[Aa,List.length_nil]
  omega
 |x::y::r,h=>by
  have h1:=h x Ai
  have h2:=Vn (y::r) fun t ht=>h t (Aj _ ht)
  show(x++([44,32]++Gc [44,32] (y::r))).length<=_
  simp only[Ab,Aa,List.length_nil] at h2 ⊢
  omega
theorem jZ {w:World}{b tb:Nat}{tv:Value}{l:List Nz}{ts:List (List UInt8)}{x:Nz}(h:Qc w b tv tb l ts)(hx:l[ts.length]? =some x)(hR:Rd w)(hf:P9 x.h)(hop:x.h.op=1):
 Calls Tryz.prog 92 #[.pointer (some ⟨b,0,none⟩),.int .i64 (ts.length:Int)] w fun e w'=>e= .returned (.string ⟨(D7 x.h x.kids.length (Dj l ts x.kids)).toArray⟩)/\Below w.heap.size w w':=by
 obtain⟨hi,_⟩:=List.getElem?_eq_some_iff.1 hx
 obtain⟨tr,off,tc,rfl⟩:=h.tree.some rA
 obtain⟨kv,hn,hki⟩:=h.tree.get hx
 obtain⟨hkl,ka,kc,rfl,_⟩:=hki
 obtain⟨⟨op,⟨vk,vn,vs⟩,nm,ln,cl⟩,kids⟩:=x
 obtain⟨x0,x1,x2,x3,x4,x5,x6,x7⟩:=hn
 simp only at x0 x1 x2 x3 x4 x5 x6 x7 hkl hop
 have c0:=h.c0
 have hlm:=h.tree.1
 have hop0:0<=op:=h.ops _ (List.mem_of_getElem? hx)
 have i0:(0:Int)<=(ts.length:Int):=by omega
 have i1:(ts.length:Int)<(l.length:Int):=by omega
 have hbx:=Bz x0
 obtain⟨W1,hW1⟩:∃W1,(w.alloc (.cells #[.int .u8 op,.int .u8 vk,.int .i64 vn,.string ⟨vs.toArray⟩,.string ⟨nm.toArray⟩,.slice ka kids.length kc,.int .i64 ln,.int .i64 cl] 43)).drew=W1:=⟨_,rfl⟩
 have hp1:(w.alloc (.cells #[.int .u8 op,.int .u8 vk,.int .i64 vn,.string ⟨vs.toArray⟩,.string ⟨nm.toArray⟩,.slice ka kids.length kc,.int .i64 ln,.int .i64 cl] 43)).drew.heap[w.heap.size]? =some (.cells #[.int .u8 op,.int .u8 vk,.int .i64 vn,.string ⟨vs.toArray⟩,.string ⟨nm.toArray⟩,.slice ka kids.length kc,.int .i64 ln,.int .i64 cl] 43 (0,0)):=Au w (.cells #[.int .u8 op,.int .u8 vk,.int .i64 vn,.string ⟨vs.toArray⟩,.string ⟨nm.toArray⟩,.slice ka kids.length kc,.int .i64 ln,.int .i64 cl] 43)
 have hb1:Below w.heap.size w W1:=by rw[←hW1];exact((Below.refl _ w).alloc (Ak _) _).drew
 rw[hW1] at hp1
 obtain⟨n0,_,_,_,_,_,_,_,_⟩:=Bt hp1
 have ho:=fun V=>Ao (K8 op hop0 V)
 unfold F3 at ho
 have hf0:=fun u v V=>Eo u v V
 have hf1:=fun u v V=>D6 u v V
 obtain⟨f1,f2,f3,f4⟩:=hf
 simp only at f1 f2 f3 f4
 subst hop
 have hz:D7 ⟨1,(vk,vn,vs),nm,ln,cl⟩ kids.length (Dj l ts kids)=C9 vk vn vs:=by unfold D7;rw[if_pos rfl]
 rw[hz]
 have HT:=fun V (hV:Below w.heap.size w V)=>Ao (Sx ⟨vk,vn,⟨vs.toArray⟩⟩ V ⟨by show vs.toArray.size<=_;simp;omega,f1,f2⟩ (hR.below hV))
 have HP1:=Ao hp1
 have HB1:=Ao hb1
 clear h hx hR hp1 hb1 hz
 go_enter Tryz.func92,Tryz.ntmps92
 go_wp2_with fail
 go_region_held3 (fun V=>V.cell? ⟨w.heap.size,0,none⟩=some (.int .u8 1)) (go_keep)
  (first
   |(go_at_call 62;(with_reducible refine(ho _).out.mono ?_);rintro e V2 ⟨rfl,hb2⟩;have hc2:=A5 hb2 n0;have hB2:=Ao hb2;clear hb2)
   |(go_at_call 62;(with_reducible refine(ho _).out.mono ?_);rintro e V3 ⟨rfl,hb3⟩;have hc3:=A5 hb3 hc2;have HB3:=Ao (hB2.out.trans (hb3.mono hB2.out.size));clear hb3))
 obtain⟨m0,m1,m2,m3,m4,m5,m6,m7,_⟩:=Bt ((HB3.out.block _ (Aq HP1.out)).trans HP1.out)
 have HV3:=HB1.out.trans (HB3.out.mono HB1.out.size)
 have HT3:=HT _ HV3
 have HBV:=Ao HV3
 clear HT HB1 hB2 HV3
 go_wp2_with fail
 refine HT3.out.mono ?_
 rintro e V4 ⟨rfl,hb4⟩
 have HB4:=Ao (HBV.out.trans (hb4.mono HBV.out.size))
 clear hb4 HT3
 go_wp2_with fail
 go_ret
 exact⟨rfl,HB4.out⟩
theorem iV {w:World}{b tb:Nat}{tv:Value}{l:List Nz}{ts:List (List UInt8)}{x:Nz}(h:Qc w b tv tb l ts)(hx:l[ts.length]? =some x)(hf:P9 x.h)(hop:x.h.op=2):
 Calls Tryz.prog 92 #[.pointer (some ⟨b,0,none⟩),.int .i64 (ts.length:Int)] w fun e w'=>e= .returned (.string ⟨(D7 x.h x.kids.length (Dj l ts x.kids)).toArray⟩)/\Below w.heap.size w w':=by
 obtain⟨hi,_⟩:=List.getElem?_eq_some_iff.1 hx
 obtain⟨tr,off,tc,rfl⟩:=h.tree.some rA
 obtain⟨kv,hn,hki⟩:=h.tree.get hx
 obtain⟨hkl,ka,kc,rfl,_⟩:=hki
 obtain⟨⟨op,⟨vk,vn,vs⟩,nm,ln,cl⟩,kids⟩:=x
 obtain⟨x0,x1,x2,x3,x4,x5,x6,x7⟩:=hn
 simp only at x0 x1 x2 x3 x4 x5 x6 x7 hkl hop
 have c0:=h.c0
 have hlm:=h.tree.1
 have hop0:0<=op:=h.ops _ (List.mem_of_getElem? hx)
 have i0:(0:Int)<=(ts.length:Int):=by omega
 have i1:(ts.length:Int)<(l.length:Int):=by omega
 have hbx:=Bz x0
 obtain⟨W1,hW1⟩:∃W1,(w.alloc (.cells #[.int .u8 op,.int .u8 vk,.int .i64 vn,.string ⟨vs.toArray⟩,.string ⟨nm.toArray⟩,.slice ka kids.length kc,.int .i64 ln,.int .i64 cl] 43)).drew=W1:=⟨_,rfl⟩
 have hp1:(w.alloc (.cells #[.int .u8 op,.int .u8 vk,.int .i64 vn,.string ⟨vs.toArray⟩,.string ⟨nm.toArray⟩,.slice ka kids.length kc,.int .i64 ln,.int .i64 cl] 43)).drew.heap[w.heap.size]? =some (.cells #[.int .u8 op,.int .u8 vk,.int .i64 vn,.string ⟨vs.toArray⟩,.string ⟨nm.toArray⟩,.slice ka kids.length kc,.int .i64 ln,.int .i64 cl] 43 (0,0)):=Au w (.cells #[.int .u8 op,.int .u8 vk,.int .i64 vn,.string ⟨vs.toArray⟩,.string ⟨nm.toArray⟩,.slice ka kids.length kc,.int .i64 ln,.int .i64 cl] 43)
 have hb1:Below w.heap.size w W1:=by rw[←hW1];exact((Below.refl _ w).alloc (Ak _) _).drew
 rw[hW1] at hp1
 obtain⟨n0,_,_,_,_,_,_,_,_⟩:=Bt hp1
 have ho:=fun V=>Ao (K8 op hop0 V)
 unfold F3 at ho
 have hf0:=fun u v V=>Eo u v V
 have hf1:=fun u v V=>D6 u v V
 obtain⟨_,_,_,f4⟩:=hf
 simp only at f4
 subst hop
 have hz:D7 ⟨2,(vk,vn,vs),nm,ln,cl⟩ kids.length (Dj l ts kids)=63::nm:=by unfold D7;rw[if_neg (by show ¬(2:Int)=1;decide),if_pos rfl]
 rw[hz,show(⟨(63::nm).toArray⟩:ByteArray)=⟨#[63]⟩++⟨nm.toArray⟩ from(aO [63] nm).symm]
 have HP1:=Ao hp1
 have HB1:=Ao hb1
 clear h hx hp1 hb1 hz
 go_enter Tryz.func92,Tryz.ntmps92
 go_wp2_with fail
 go_region_held3 (fun V=>V.cell? ⟨w.heap.size,0,none⟩=some (.int .u8 2)) (go_keep)
  (first
   |(go_at_call 62;(with_reducible refine(ho _).out.mono ?_);rintro e V2 ⟨rfl,hb2⟩;have hc2:=A5 hb2 n0;have hB2:=Ao hb2;clear hb2)
   |(go_at_call 62;(with_reducible refine(ho _).out.mono ?_);rintro e V3 ⟨rfl,hb3⟩;have hc3:=A5 hb3 hc2;have HB3:=Ao (hB2.out.trans (hb3.mono hB2.out.size));clear hb3))
 exact zxy
theorem gE {w:World}{b tb:Nat}{tv:Value}{l:List Nz}{ts:List (List UInt8)}{x:Nz}(h:Qc w b tv tb l ts)(hx:l[ts.length]? =some x)(hop:x.h.op=3):
 Calls Tryz.prog 92 #[.pointer (some ⟨b,0,none⟩),.int .i64 (ts.length:Int)] w fun e w'=>e= .returned (.string ⟨(D7 x.h x.kids.length (Dj l ts x.kids)).toArray⟩)/\Below w.heap.size w w':=by
 obtain⟨hi,_⟩:=List.getElem?_eq_some_iff.1 hx
 obtain⟨tr,off,tc,rfl⟩:=h.tree.some rA
 obtain⟨kv,hn,hki⟩:=h.tree.get hx
 obtain⟨hkl,ka,kc,rfl,_⟩:=hki
 obtain⟨⟨op,⟨vk,vn,vs⟩,nm,ln,cl⟩,kids⟩:=x
 obtain⟨x0,x1,x2,x3,x4,x5,x6,x7⟩:=hn
 simp only at x0 x1 x2 x3 x4 x5 x6 x7 hkl hop
 have c0:=h.c0
 have hlm:=h.tree.1
 have hop0:0<=op:=h.ops _ (List.mem_of_getElem? hx)
 have i0:(0:Int)<=(ts.length:Int):=by omega
 have i1:(ts.length:Int)<(l.length:Int):=by omega
 have hbx:=Bz x0
 obtain⟨W1,hW1⟩:∃W1,(w.alloc (.cells #[.int .u8 op,.int .u8 vk,.int .i64 vn,.string ⟨vs.toArray⟩,.string ⟨nm.toArray⟩,.slice ka kids.length kc,.int .i64 ln,.int .i64 cl] 43)).drew=W1:=⟨_,rfl⟩
 have hp1:(w.alloc (.cells #[.int .u8 op,.int .u8 vk,.int .i64 vn,.string ⟨vs.toArray⟩,.string ⟨nm.toArray⟩,.slice ka kids.length kc,.int .i64 ln,.int .i64 cl] 43)).drew.heap[w.heap.size]? =some (.cells #[.int .u8 op,.int .u8 vk,.int .i64 vn,.string ⟨vs.toArray⟩,.string ⟨nm.toArray⟩,.slice ka kids.length kc,.int .i64 ln,.int .i64 cl] 43 (0,0)):=Au w (.cells #[.int .u8 op,.int .u8 vk,.int .i64 vn,.string ⟨vs.toArray⟩,.string ⟨nm.toArray⟩,.slice ka kids.length kc,.int .i64 ln,.int .i64 cl] 43)
 have hb1:Below w.heap.size w W1:=by rw[←hW1];exact((Below.refl _ w).alloc (Ak _) _).drew
 rw[hW1] at hp1
 obtain⟨n0,_,_,_,_,_,_,_,_⟩:=Bt hp1
 have ho:=fun V=>Ao (K8 op hop0 V)
 unfold F3 at ho
 have hf0:=fun u v V=>Eo u v V
 have hf1:=fun u v V=>D6 u v V
 subst hop
 have hz:D7 ⟨3,(vk,vn,vs),nm,ln,cl⟩ kids.length (Dj l ts kids)=[63]:=by unfold D7;rw[if_neg (by show ¬(3:Int)=1;decide),if_neg (by show ¬(3:Int)=2;decide),if_pos rfl]
 rw[hz]
 have HP1:=Ao hp1
 have HB1:=Ao hb1
 clear h hx hp1 hb1 hz
 go_enter Tryz.func92,Tryz.ntmps92
 go_wp2_with fail
 go_region_held3 (fun V=>V.cell? ⟨w.heap.size,0,none⟩=some (.int .u8 3)) (go_keep)
  (first
   |(go_at_call 62;(with_reducible refine(ho _).out.mono ?_);rintro e V2 ⟨rfl,hb2⟩;have hc2:=A5 hb2 n0;have hB2:=Ao hb2;clear hb2)
   |(go_at_call 62;(with_reducible refine(ho _).out.mono ?_);rintro e V3 ⟨rfl,hb3⟩;have hc3:=A5 hb3 hc2;have HB3:=Ao (hB2.out.trans (hb3.mono hB2.out.size));clear hb3))
 exact zxy
theorem fW {w:World}{b tb:Nat}{tv:Value}{l:List Nz}{ts:List (List UInt8)}{x:Nz}(h:Qc w b tv tb l ts)(hx:l[ts.length]? =some x)(ho1:x.h.op≠1)(ho2:x.h.op≠2)(ho3:x.h.op≠3)(hLV:Az x.h.op=2):
 Calls Tryz.prog 92 #[.pointer (some ⟨b,0,none⟩),.int .i64 (ts.length:Int)] w fun e w'=>e= .returned (.string ⟨(D7 x.h x.kids.length (Dj l ts x.kids)).toArray⟩)/\Below w.heap.size w w':=by
 obtain⟨hi,_⟩:=List.getElem?_eq_some_iff.1 hx
 obtain⟨tr,off,tc,rfl⟩:=h.tree.some rA
 obtain⟨kv,hn,hki⟩:=h.tree.get hx
 obtain⟨hkl,ka,kc,rfl,_⟩:=hki
 obtain⟨⟨op,⟨vk,vn,vs⟩,nm,ln,cl⟩,kids⟩:=x
 obtain⟨x0,x1,x2,x3,x4,x5,x6,x7⟩:=hn
 simp only at x0 x1 x2 x3 x4 x5 x6 x7 hkl ho1 ho2 ho3 hLV
 have c0:=h.c0
 have hlm:=h.tree.1
 have hop0:0<=op:=h.ops _ (List.mem_of_getElem? hx)
 have i0:(0:Int)<=(ts.length:Int):=by omega
 have i1:(ts.length:Int)<(l.length:Int):=by omega
 have hbx:=Bz x0
 obtain⟨W1,hW1⟩:∃W1,(w.alloc (.cells #[.int .u8 op,.int .u8 vk,.int .i64 vn,.string ⟨vs.toArray⟩,.string ⟨nm.toArray⟩,.slice ka kids.length kc,.int .i64 ln,.int .i64 cl] 43)).drew=W1:=⟨_,rfl⟩
 have hp1:(w.alloc (.cells #[.int .u8 op,.int .u8 vk,.int .i64 vn,.string ⟨vs.toArray⟩,.string ⟨nm.toArray⟩,.slice ka kids.length kc,.int .i64 ln,.int .i64 cl] 43)).drew.heap[w.heap.size]? =some (.cells #[.int .u8 op,.int .u8 vk,.int .i64 vn,.string ⟨vs.toArray⟩,.string ⟨nm.toArray⟩,.slice ka kids.length kc,.int .i64 ln,.int .i64 cl] 43 (0,0)):=Au w (.cells #[.int .u8 op,.int .u8 vk,.int .i64 vn,.string ⟨vs.toArray⟩,.string ⟨nm.toArray⟩,.slice ka kids.length kc,.int .i64 ln,.int .i64 cl] 43)
 have hb1:Below w.heap.size w W1:=by rw[←hW1];exact((Below.refl _ w).alloc (Ak _) _).drew
 rw[hW1] at hp1
 obtain⟨n0,_,_,_,_,_,_,_,_⟩:=Bt hp1
 have ho:=fun V=>Ao (K8 op hop0 V)
 unfold F3 at ho
 have hf0:=fun u v V=>Eo u v V
 have hf1:=fun u v V=>D6 u v V
 have o1:(op==1)=false:=by simpa using ho1
 have o2:(op==2)=false:=by simpa using ho2
 have o3:(op==3)=false:=by simpa using ho3
 obtain⟨hwl,hll⟩:=Ls op
 obtain⟨lv,hlv⟩:∃lv,Az op=lv:=⟨_,rfl⟩
 obtain⟨wd,hwd⟩:∃wd,Cf op=wd:=⟨_,rfl⟩
 have hK:=fun k least V (hV:Below w.heap.size w V) (hk:k<=1000000)=>Ao (Pp (h.below hV) hx k least hk)
 simp only at hK
 have hKL:=fun k least=>Nh (l:=l) h.short kids k least
 simp only[hlv,hwd] at ho hwl hll hLV
 have hz:D7 ⟨op,(vk,vn,vs),nm,ln,cl⟩ kids.length (Dj l ts kids)=wd++Dj l ts kids 0 lv:=by
  unfold D7
  simp only[hlv,hwd]
  rw[if_neg ho1,if_neg ho2,if_neg ho3,if_neg rA,if_pos rA]
 rw[hz]
 subst hLV
 have HK0:∀V,Below w.heap.size w V->Hid (Calls Tryz.prog 168 #[.pointer (some ⟨b,0,none⟩),.int .i64 (ts.length:Int),.int .i64 0,.int .i64 2] V fun e w'=>e= .returned (.string ⟨(Dj l ts kids 0 (2)).toArray⟩)/\Below V.heap.size V w'):=fun V hV=>hK 0 (2) V hV rB
 have hl0:=hKL 0 (2)
 obtain⟨K0,hK0⟩:∃K',Dj l ts kids 0 (2)=K':=⟨_,rfl⟩
 exact zzh
theorem fP {w:World}{b tb:Nat}{tv:Value}{l:List Nz}{ts:List (List UInt8)}{x:Nz}(h:Qc w b tv tb l ts)(hx:l[ts.length]? =some x)(ho1:x.h.op≠1)(ho2:x.h.op≠2)(ho3:x.h.op≠3)(hLV:Az x.h.op=6):
 Calls Tryz.prog 92 #[.pointer (some ⟨b,0,none⟩),.int .i64 (ts.length:Int)] w fun e w'=>e= .returned (.string ⟨(D7 x.h x.kids.length (Dj l ts x.kids)).toArray⟩)/\Below w.heap.size w w':=by
 obtain⟨hi,_⟩:=List.getElem?_eq_some_iff.1 hx
 obtain⟨tr,off,tc,rfl⟩:=h.tree.some rA
 obtain⟨kv,hn,hki⟩:=h.tree.get hx
 obtain⟨hkl,ka,kc,rfl,_⟩:=hki
 obtain⟨⟨op,⟨vk,vn,vs⟩,nm,ln,cl⟩,kids⟩:=x
 obtain⟨x0,x1,x2,x3,x4,x5,x6,x7⟩:=hn
 simp only at x0 x1 x2 x3 x4 x5 x6 x7 hkl ho1 ho2 ho3 hLV
 have c0:=h.c0
 have hlm:=h.tree.1
 have hop0:0<=op:=h.ops _ (List.mem_of_getElem? hx)
 have i0:(0:Int)<=(ts.length:Int):=by omega
 have i1:(ts.length:Int)<(l.length:Int):=by omega
 have hbx:=Bz x0
 obtain⟨W1,hW1⟩:∃W1,(w.alloc (.cells #[.int .u8 op,.int .u8 vk,.int .i64 vn,.string ⟨vs.toArray⟩,.string ⟨nm.toArray⟩,.slice ka kids.length kc,.int .i64 ln,.int .i64 cl] 43)).drew=W1:=⟨_,rfl⟩
 have hp1:(w.alloc (.cells #[.int .u8 op,.int .u8 vk,.int .i64 vn,.string ⟨vs.toArray⟩,.string ⟨nm.toArray⟩,.slice ka kids.length kc,.int .i64 ln,.int .i64 cl] 43)).drew.heap[w.heap.size]? =some (.cells #[.int .u8 op,.int .u8 vk,.int .i64 vn,.string ⟨vs.toArray⟩,.string ⟨nm.toArray⟩,.slice ka kids.length kc,.int .i64 ln,.int .i64 cl] 43 (0,0)):=Au w (.cells #[.int .u8 op,.int .u8 vk,.int .i64 vn,.string ⟨vs.toArray⟩,.string ⟨nm.toArray⟩,.slice ka kids.length kc,.int .i64 ln,.int .i64 cl] 43)
 have hb1:Below w.heap.size w W1:=by rw[←hW1];exact((Below.refl _ w).alloc (Ak _) _).drew
 rw[hW1] at hp1
 obtain⟨n0,_,_,_,_,_,_,_,_⟩:=Bt hp1
 have ho:=fun V=>Ao (K8 op hop0 V)
 unfold F3 at ho
 have hf0:=fun u v V=>Eo u v V
 have hf1:=fun u v V=>D6 u v V
 have o1:(op==1)=false:=by simpa using ho1
 have o2:(op==2)=false:=by simpa using ho2
 have o3:(op==3)=false:=by simpa using ho3
 obtain⟨hwl,hll⟩:=Ls op
 obtain⟨lv,hlv⟩:∃lv,Az op=lv:=⟨_,rfl⟩
 obtain⟨wd,hwd⟩:∃wd,Cf op=wd:=⟨_,rfl⟩
 have hK:=fun k least V (hV:Below w.heap.size w V) (hk:k<=1000000)=>Ao (Pp (h.below hV) hx k least hk)
 simp only at hK
 have hKL:=fun k least=>Nh (l:=l) h.short kids k least
 simp only[hlv,hwd] at ho hwl hll hLV
 have hz:D7 ⟨op,(vk,vn,vs),nm,ln,cl⟩ kids.length (Dj l ts kids)=wd++Dj l ts kids 0 lv:=by
  unfold D7
  simp only[hlv,hwd]
  rw[if_neg ho1,if_neg ho2,if_neg ho3,if_neg rA,if_pos rA]
 rw[hz]
 subst hLV
 have HK0:∀V,Below w.heap.size w V->Hid (Calls Tryz.prog 168 #[.pointer (some ⟨b,0,none⟩),.int .i64 (ts.length:Int),.int .i64 0,.int .i64 6] V fun e w'=>e= .returned (.string ⟨(Dj l ts kids 0 (6)).toArray⟩)/\Below V.heap.size V w'):=fun V hV=>hK 0 (6) V hV rB
 have hl0:=hKL 0 (6)
 obtain⟨K0,hK0⟩:∃K',Dj l ts kids 0 (6)=K':=⟨_,rfl⟩
 exact zzh
theorem mC {w:World}{b tb:Nat}{tv:Value}{l:List Nz}{ts:List (List UInt8)}{x:Nz}(h:Qc w b tv tb l ts)(hx:l[ts.length]? =some x)(ho1:x.h.op≠1)(ho2:x.h.op≠2)(ho3:x.h.op≠3)(hLV:Az x.h.op=3):
 Calls Tryz.prog 92 #[.pointer (some ⟨b,0,none⟩),.int .i64 (ts.length:Int)] w fun e w'=>e= .returned (.string ⟨(D7 x.h x.kids.length (Dj l ts x.kids)).toArray⟩)/\Below w.heap.size w w':=by
 obtain⟨hi,_⟩:=List.getElem?_eq_some_iff.1 hx
 obtain⟨tr,off,tc,rfl⟩:=h.tree.some rA
 obtain⟨kv,hn,hki⟩:=h.tree.get hx
 obtain⟨hkl,ka,kc,rfl,_⟩:=hki
 obtain⟨⟨op,⟨vk,vn,vs⟩,nm,ln,cl⟩,kids⟩:=x
 obtain⟨x0,x1,x2,x3,x4,x5,x6,x7⟩:=hn
 simp only at x0 x1 x2 x3 x4 x5 x6 x7 hkl ho1 ho2 ho3 hLV
 have c0:=h.c0
 have hlm:=h.tree.1
 have hop0:0<=op:=h.ops _ (List.mem_of_getElem? hx)
 have i0:(0:Int)<=(ts.length:Int):=by omega
 have i1:(ts.length:Int)<(l.length:Int):=by omega
 have hbx:=Bz x0
 obtain⟨W1,hW1⟩:∃W1,(w.alloc (.cells #[.int .u8 op,.int .u8 vk,.int .i64 vn,.string ⟨vs.toArray⟩,.string ⟨nm.toArray⟩,.slice ka kids.length kc,.int .i64 ln,.int .i64 cl] 43)).drew=W1:=⟨_,rfl⟩
 have hp1:(w.alloc (.cells #[.int .u8 op,.int .u8 vk,.int .i64 vn,.string ⟨vs.toArray⟩,.string ⟨nm.toArray⟩,.slice ka kids.length kc,.int .i64 ln,.int .i64 cl] 43)).drew.heap[w.heap.size]? =some (.cells #[.int .u8 op,.int .u8 vk,.int .i64 vn,.string ⟨vs.toArray⟩,.string ⟨nm.toArray⟩,.slice ka kids.length kc,.int .i64 ln,.int .i64 cl] 43 (0,0)):=Au w (.cells #[.int .u8 op,.int .u8 vk,.int .i64 vn,.string ⟨vs.toArray⟩,.string ⟨nm.toArray⟩,.slice ka kids.length kc,.int .i64 ln,.int .i64 cl] 43)
 have hb1:Below w.heap.size w W1:=by rw[←hW1];exact((Below.refl _ w).alloc (Ak _) _).drew
 rw[hW1] at hp1
 obtain⟨n0,_,_,_,_,_,_,_,_⟩:=Bt hp1
 have ho:=fun V=>Ao (K8 op hop0 V)
 unfold F3 at ho
 have hf0:=fun u v V=>Eo u v V
 have hf1:=fun u v V=>D6 u v V
 have o1:(op==1)=false:=by simpa using ho1
 have o2:(op==2)=false:=by simpa using ho2
 have o3:(op==3)=false:=by simpa using ho3
 obtain⟨hwl,hll⟩:=Ls op
 obtain⟨lv,hlv⟩:∃lv,Az op=lv:=⟨_,rfl⟩
 obtain⟨wd,hwd⟩:∃wd,Cf op=wd:=⟨_,rfl⟩
 have hK:=fun k least V (hV:Below w.heap.size w V) (hk:k<=1000000)=>Ao (Pp (h.below hV) hx k least hk)
 simp only at hK
 have hKL:=fun k least=>Nh (l:=l) h.short kids k least
 simp only[hlv,hwd] at ho hwl hll hLV
 have hz:D7 ⟨op,(vk,vn,vs),nm,ln,cl⟩ kids.length (Dj l ts kids)=Dj l ts kids 0 4++32::(wd++32::Dj l ts kids 1 4):=by
  unfold D7
  simp only[hlv,hwd]
  rw[if_neg ho1,if_neg ho2,if_neg ho3,if_neg rA,if_neg rA,if_pos rA]
 rw[hz]
 subst hLV
 have HK0:∀V,Below w.heap.size w V->Hid (Calls Tryz.prog 168 #[.pointer (some ⟨b,0,none⟩),.int .i64 (ts.length:Int),.int .i64 0,.int .i64 4] V fun e w'=>e= .returned (.string ⟨(Dj l ts kids 0 (4)).toArray⟩)/\Below V.heap.size V w'):=fun V hV=>hK 0 (4) V hV rB
 have hl0:=hKL 0 (4)
 obtain⟨K0,hK0⟩:∃K',Dj l ts kids 0 (4)=K':=⟨_,rfl⟩
 rw[hK0] at hl0 ⊢
 simp only[hK0] at HK0
 have HK1:∀V,Below w.heap.size w V->Hid (Calls Tryz.prog 168 #[.pointer (some ⟨b,0,none⟩),.int .i64 (ts.length:Int),.int .i64 1,.int .i64 4] V fun e w'=>e= .returned (.string ⟨(Dj l ts kids 1 (4)).toArray⟩)/\Below V.heap.size V w'):=fun V hV=>hK 1 (4) V hV rB
 have hl1:=hKL 1 (4)
 obtain⟨K1,hK1⟩:∃K',Dj l ts kids 1 (4)=K':=⟨_,rfl⟩
 rw[hK1] at hl1 ⊢
 simp only[hK1] at HK1
 rw[Z4]
 have HP1:=Ao hp1
 have HB1:=Ao hb1
 have Hlv:=Ao hlv
 have Hwd:=Ao hwd
 clear h hx hp1 hb1 hz hK hKL hlv hwd hK0 hK1 ho1 ho2 ho3
 exact zzf
theorem lL {w:World}{b tb:Nat}{tv:Value}{l:List Nz}{ts:List (List UInt8)}{x:Nz}(h:Qc w b tv tb l ts)(hx:l[ts.length]? =some x)(ho1:x.h.op≠1)(ho2:x.h.op≠2)(ho3:x.h.op≠3)(hLV:Az x.h.op≠8/\Az x.h.op≠2/\Az x.h.op≠6/\Az x.h.op≠3):
 Calls Tryz.prog 92 #[.pointer (some ⟨b,0,none⟩),.int .i64 (ts.length:Int)] w fun e w'=>e= .returned (.string ⟨(D7 x.h x.kids.length (Dj l ts x.kids)).toArray⟩)/\Below w.heap.size w w':=by
 obtain⟨hi,_⟩:=List.getElem?_eq_some_iff.1 hx
 obtain⟨tr,off,tc,rfl⟩:=h.tree.some rA
 obtain⟨kv,hn,hki⟩:=h.tree.get hx
 obtain⟨hkl,ka,kc,rfl,_⟩:=hki
 obtain⟨⟨op,⟨vk,vn,vs⟩,nm,ln,cl⟩,kids⟩:=x
 obtain⟨x0,x1,x2,x3,x4,x5,x6,x7⟩:=hn
 simp only at x0 x1 x2 x3 x4 x5 x6 x7 hkl ho1 ho2 ho3 hLV
 have c0:=h.c0
 have hlm:=h.tree.1
 have hop0:0<=op:=h.ops _ (List.mem_of_getElem? hx)
 have i0:(0:Int)<=(ts.length:Int):=by omega
 have i1:(ts.length:Int)<(l.length:Int):=by omega
 have hbx:=Bz x0
 obtain⟨W1,hW1⟩:∃W1,(w.alloc (.cells #[.int .u8 op,.int .u8 vk,.int .i64 vn,.string ⟨vs.toArray⟩,.string ⟨nm.toArray⟩,.slice ka kids.length kc,.int .i64 ln,.int .i64 cl] 43)).drew=W1:=⟨_,rfl⟩
 have hp1:(w.alloc (.cells #[.int .u8 op,.int .u8 vk,.int .i64 vn,.string ⟨vs.toArray⟩,.string ⟨nm.toArray⟩,.slice ka kids.length kc,.int .i64 ln,.int .i64 cl] 43)).drew.heap[w.heap.size]? =some (.cells #[.int .u8 op,.int .u8 vk,.int .i64 vn,.string ⟨vs.toArray⟩,.string ⟨nm.toArray⟩,.slice ka kids.length kc,.int .i64 ln,.int .i64 cl] 43 (0,0)):=Au w (.cells #[.int .u8 op,.int .u8 vk,.int .i64 vn,.string ⟨vs.toArray⟩,.string ⟨nm.toArray⟩,.slice ka kids.length kc,.int .i64 ln,.int .i64 cl] 43)
 have hb1:Below w.heap.size w W1:=by rw[←hW1];exact((Below.refl _ w).alloc (Ak _) _).drew
 rw[hW1] at hp1
 obtain⟨n0,_,_,_,_,_,_,_,_⟩:=Bt hp1
 have ho:=fun V=>Ao (K8 op hop0 V)
 unfold F3 at ho
 have hf0:=fun u v V=>Eo u v V
 have hf1:=fun u v V=>D6 u v V
 have o1:(op==1)=false:=by simpa using ho1
 have o2:(op==2)=false:=by simpa using ho2
 have o3:(op==3)=false:=by simpa using ho3
 obtain⟨hwl,hll⟩:=Ls op
 obtain⟨lv,hlv⟩:∃lv,Az op=lv:=⟨_,rfl⟩
 obtain⟨wd,hwd⟩:∃wd,Cf op=wd:=⟨_,rfl⟩
 have hK:=fun k least V (hV:Below w.heap.size w V) (hk:k<=1000000)=>Ao (Pp (h.below hV) hx k least hk)
 simp only at hK
 have hKL:=fun k least=>Nh (l:=l) h.short kids k least
 simp only[hlv,hwd] at ho hwl hll hLV
 have hz:D7 ⟨op,(vk,vn,vs),nm,ln,cl⟩ kids.length (Dj l ts kids)=Dj l ts kids 0 lv++32::(wd++32::Dj l ts kids 1 (lv+1)):=by
  unfold D7
  simp only[hlv,hwd]
  rw[if_neg ho1,if_neg ho2,if_neg ho3,if_neg hLV.1,if_neg rA,if_neg hLV.2.2.2]
 rw[hz]
 have l0:((lv:Int)==8)=false:=by simp;omega
 have l1:((lv:Int)==2)=false:=by simp;omega
 have l2:((lv:Int)==6)=false:=by simp;omega
 have l3:((lv:Int)==3)=false:=by simp;omega
 have l4:((lv+1:Nat):Int)=(lv:Int)+1:=by omega
 have HK0:∀V,Below w.heap.size w V->Hid (Calls Tryz.prog 168 #[.pointer (some ⟨b,0,none⟩),.int .i64 (ts.length:Int),.int .i64 0,.int .i64 ((lv:Int))] V fun e w'=>e= .returned (.string ⟨(Dj l ts kids 0 (lv)).toArray⟩)/\Below V.heap.size V w'):=fun V hV=>hK 0 (lv) V hV rB
 have hl0:=hKL 0 (lv)
 obtain⟨K0,hK0⟩:∃K',Dj l ts kids 0 (lv)=K':=⟨_,rfl⟩
 rw[hK0] at hl0 ⊢
 simp only[hK0] at HK0
 have HK1:∀V,Below w.heap.size w V->Hid (Calls Tryz.prog 168 #[.pointer (some ⟨b,0,none⟩),.int .i64 (ts.length:Int),.int .i64 1,.int .i64 ((lv:Int)+1)] V fun e w'=>e= .returned (.string ⟨(Dj l ts kids 1 (lv+1)).toArray⟩)/\Below V.heap.size V w'):=fun V hV=>hK 1 (lv+1) V hV rB
 have hl1:=hKL 1 (lv+1)
 obtain⟨K1,hK1⟩:∃K',Dj l ts kids 1 (lv+1)=K':=⟨_,rfl⟩
 rw[hK1] at hl1 ⊢
 simp only[hK1] at HK1
 rw[Z4]
 have HP1:=Ao hp1
 have HB1:=Ao hb1
 have Hlv:=Ao hlv
 have Hwd:=Ao hwd
 clear h hx hp1 hb1 hz hK hKL hlv hwd hK0 hK1 ho1 ho2 ho3 hLV
 exact zzf
theorem mN:(Tryz.prog.info? 9).map (fun i=>(i.zero,i.size,i.bytes))=some (some (.string ⟨#[]⟩),1,16):=by kernel_rfl
theorem Oi:∃i,Tryz.prog.info? 9=some i/\i.zero=some (.string ⟨#[]⟩)/\i.size=1/\i.bytes=16:=by
 have h:=mN
 cases hi:Tryz.prog.info? 9 with
 |none=>simp [hi] at h
 |some i=>
  exact zxn
def Sd (l:List (List UInt8)):List Value:=l.map fun t=>Value.string ⟨t.toArray⟩
theorem eW (l:List (List UInt8))(t:List UInt8):Sd (l++[t])=Sd l++[.string ⟨t.toArray⟩]:=by simp [Sd]
theorem Th {α:Type}(f:Nat->α)(k:Nat):(List.range (k+1)).map f=(List.range k).map f++[f k]:=by rw[List.range_succ,List.map_append];rfl
theorem nG (a b:List UInt8):(⟨(a++Ms b).toArray⟩:ByteArray)=⟨a.toArray⟩++⟨#[40]⟩++⟨b.toArray⟩++⟨#[41]⟩:=by
 apply ByteArray.ext
 simp [Ms]
theorem dX {w:World}{b tb:Nat}{tv:Value}{l:List Nz}{ts:List (List UInt8)}{x:Nz}(h:Qc w b tv tb l ts)(hx:l[ts.length]? =some x)(ho1:x.h.op≠1)(ho2:x.h.op≠2)(ho3:x.h.op≠3)(hLV:Az x.h.op=8):
 Calls Tryz.prog 92 #[.pointer (some ⟨b,0,none⟩),.int .i64 (ts.length:Int)] w fun e w'=>e= .returned (.string ⟨(D7 x.h x.kids.length (Dj l ts x.kids)).toArray⟩)/\Below w.heap.size w w':=by
 obtain⟨hi,_⟩:=List.getElem?_eq_some_iff.1 hx
 obtain⟨tr,off,tc,rfl⟩:=h.tree.some rA
 obtain⟨kv,hn,hki⟩:=h.tree.get hx
 obtain⟨hkl,ka,kc,rfl,_⟩:=hki
 obtain⟨⟨op,⟨vk,vn,vs⟩,nm,ln,cl⟩,kids⟩:=x
 obtain⟨x0,x1,x2,x3,x4,x5,x6,x7⟩:=hn
 simp only at x0 x1 x2 x3 x4 x5 x6 x7 hkl ho1 ho2 ho3 hLV
 have c0:=h.c0
 have hlm:=h.tree.1
 have hop0:0<=op:=h.ops _ (List.mem_of_getElem? hx)
 have i0:(0:Int)<=(ts.length:Int):=by omega
 have i1:(ts.length:Int)<(l.length:Int):=by omega
 have hbx:=Bz x0
 obtain⟨W1,hW1⟩:∃W1,(w.alloc (.cells #[.int .u8 op,.int .u8 vk,.int .i64 vn,.string ⟨vs.toArray⟩,.string ⟨nm.toArray⟩,.slice ka kids.length kc,.int .i64 ln,.int .i64 cl] 43)).drew=W1:=⟨_,rfl⟩
 have hp1:(w.alloc (.cells #[.int .u8 op,.int .u8 vk,.int .i64 vn,.string ⟨vs.toArray⟩,.string ⟨nm.toArray⟩,.slice ka kids.length kc,.int .i64 ln,.int .i64 cl] 43)).drew.heap[w.heap.size]? =some (.cells #[.int .u8 op,.int .u8 vk,.int .i64 vn,.string ⟨vs.toArray⟩,.string ⟨nm.toArray⟩,.slice ka kids.length kc,.int .i64 ln,.int .i64 cl] 43 (0,0)):=Au w (.cells #[.int .u8 op,.int .u8 vk,.int .i64 vn,.string ⟨vs.toArray⟩,.string ⟨nm.toArray⟩,.slice ka kids.length kc,.int .i64 ln,.int .i64 cl] 43)
 have hb1:Below w.heap.size w W1:=by rw[←hW1];exact((Below.refl _ w).alloc (Ak _) _).drew
 rw[hW1] at hp1
 obtain⟨n0,_,_,_,_,_,_,_,_⟩:=Bt hp1
 have ho:=fun V=>Ao (K8 op hop0 V)
 unfold F3 at ho
 have hf0:=fun u v V=>Eo u v V
 have hf1:=fun u v V=>D6 u v V
 have o1:(op==1)=false:=by simpa using ho1
 have o2:(op==2)=false:=by simpa using ho2
 have o3:(op==3)=false:=by simpa using ho3
 obtain⟨hwl,hll⟩:=Ls op
 obtain⟨lv,hlv⟩:∃lv,Az op=lv:=⟨_,rfl⟩
 obtain⟨wd,hwd⟩:∃wd,Cf op=wd:=⟨_,rfl⟩
 have hK:=fun k least V (hV:Below w.heap.size w V) (hk:k<=1000000)=>Ao (Pp (h.below hV) hx k least hk)
 simp only at hK
 have hKL:=fun k least=>Nh (l:=l) h.short kids k least
 simp only[hlv,hwd] at ho hwl hll hLV
 have hz:D7 ⟨op,(vk,vn,vs),nm,ln,cl⟩ kids.length (Dj l ts kids)=wd++Ms (Gc [44,32] ((List.range kids.length).map fun k=>Dj l ts kids k 0)):=by
  unfold D7
  simp only[hlv,hwd]
  rw[if_neg ho1,if_neg ho2,if_neg ho3,if_pos rA]
 rw[hz]
 subst hLV
 obtain⟨F,hF⟩:∃F:Nat->List UInt8,F=fun k=>Dj l ts kids k 0:=⟨_,rfl⟩
 have HK:∀(k:Nat) V,k<=1000000->Below w.heap.size w V->Hid (Calls Tryz.prog 168 #[.pointer (some ⟨b,0,none⟩),.int .i64 (ts.length:Int),.int .i64 (k:Int),.int .i64 0] V fun e w'=>e= .returned (.string ⟨(F k).toArray⟩)/\Below V.heap.size V w'):=fun k V hk hV=>by rw[hF];exact hK k 0 V hV hk
 have hFl:∀k,(F k).length<=65538:=fun k=>by rw[hF];exact hKL k 0
 rw[show(fun k=>Dj l ts kids k 0)=F from hF.symm,nG]
 have hJl:=Vn ((List.range kids.length).map F) fun t ht=>by
  obtain⟨k,_,rfl⟩:=List.mem_map.1 ht
  exact hFl k
 rw[List.length_map,List.length_range] at hJl
 obtain⟨J,hJ⟩:∃J,Gc [44,32] ((List.range kids.length).map F)=J:=⟨_,rfl⟩
 rw[hJ] at hJl ⊢
 have hJb:J.length<=70000000000:=by omega
 have HJ:=Ao hJ
 have HFl:=Ao hFl
 have HP1:=Ao hp1
 have HB1:=Ao hb1
 have Hlv:=Ao hlv
 have Hwd:=Ao hwd
 clear h hx hp1 hb1 hz hK hKL hlv hwd ho1 ho2 ho3 hF hJ hJl hFl
 go_enter Tryz.func92,Tryz.ntmps92
 go_wp2_with fail
 go_region_held3 (fun V=>V.cell? ⟨w.heap.size,0,none⟩=some (.int .u8 op)) (go_keep)
  (first
   |(go_at_call 62;(with_reducible refine(ho _).out.mono ?_);rintro e V2 ⟨rfl,hb2⟩;have hc2:=A5 hb2 n0;have hB2:=Ao hb2;clear hb2)
   |(go_at_call 62;(with_reducible refine(ho _).out.mono ?_);rintro e V3 ⟨rfl,hb3⟩;have hc3:=A5 hb3 hc2;have HB3:=Ao (hB2.out.trans (hb3.mono hB2.out.size));clear hb3))
 obtain⟨m0,m1,m2,m3,m4,m5,m6,m7,_⟩:=Bt ((HB3.out.block _ (Aq HP1.out)).trans HP1.out)
 have hBV0:=HB1.out.trans (HB3.out.mono HB1.out.size)
 have HL:Hid (V3.ownsRow w.heap.size 9 1 (.slice none 0 0) 0 (Sd ((List.range 0).map F))/\Below w.heap.size w V3):=Ao ⟨World.ownsRow_nil _ _ _ _,hBV0⟩
 clear HB1 hB2 hBV0
 go_wp2_with fail
 go_loopw [8,63] (fun v8 v63 wr=>∃(k:Nat) (sa:Option Addr) (sc:Nat),k<=kids.length/\v63= .int .i64 k/\v8= .slice sa k sc/\Hid (wr.ownsRow w.heap.size 9 1 (.slice sa k sc) k (Sd ((List.range k).map F))/\Below w.heap.size w wr)) (fun _ v63 _=>kids.length - (intOf v63).toNat)
 case atStart=>exact⟨0,none,0,Nat.zero_le _,rfl,rfl,HL⟩
 case round=>
  obtain⟨k,sa,sc,hk,rfl,rfl,hq⟩:=hrel
  obtain⟨hrow,hB⟩:=hq.out
  clear m0 m1 m2 m3 m4 m5 m6 m7
  by_cases hkl2:k<kids.length
  ·have HKk:=HK k wr rA hB
   have hfl:=HFl.out k
   have hms:=Th F k
   obtain⟨t,ht⟩:∃t,F k=t:=⟨_,rfl⟩
   simp only[ht] at HKk
   rw[ht] at hfl hms
   have e3:(0:Int)<=(k:Int):=by omega
   have e9:decide ((k:Int)<(kids.length:Int))=true:=Am rA
   have Hms:=Ao hms
   have Hrow:=Ao hrow
   have HB:=Ao hB
   obtain⟨i0',hi0,hz0,hz1,hz2⟩:=Oi
   have Hi0:=Ao hi0
   have Hy0:=Ao hz0
   have Hy1:=Ao hz1
   have Hy2:=Ao hz2
   clear hq hrow hB ht hms hi0 hz0 hz1 hz2 HL
   go_wp2_with fail
   refine HKk.out.mono ?_
   rintro e V ⟨rfl,hbV⟩
   have hrV:=C8 Hrow.out hbV
   have hBV:=HB.out.trans (hbV.mono HB.out.size)
   have Hrow1:=Ao (hrV.alloc (.cells #[.string ⟨t.toArray⟩] 9))
   have HN1:=Ao (Au V (.cells #[.string ⟨t.toArray⟩] 9))
   have HZ:Hid ((V.alloc (.cells #[.string ⟨t.toArray⟩] 9)).heap.size=V.heap.size+1):=Ao rC
   have hsr:=hBV.size
   have Hown:=Ao (Cm hrV)
   have HBV:=Ao hBV
   clear hbV hrV hBV HKk HB Hrow
   go_wp2_with ((refine wpList_append_lies _ rfl (.tmp 66) (.tmp 71) _ rfl w.heap.size 9 i0' (.string ⟨#[]⟩) 1 16 Tryz.underlying39 Hi0.out Hy0.out Hy1.out Hy2.out rfl rB (.slice sa k sc) k (Sd ((List.range k).map F)) rfl Hrow1.out ⟨V.heap.size,0,none⟩ 1 1 [.string ⟨t.toArray⟩] rfl rfl (World.news_of_block (cs:= #[.string ⟨t.toArray⟩]) HN1.out) rM rB rL rA rO (V.heap.size+1) HZ.out ?_;intro g6 cap w6 hown6 hgrow6 hat6 hlt6))
   have hB6:=Fy (v:= .slice sa k sc) (HBV.out.alloc HBV.out.size (.cells #[.string ⟨t.toArray⟩] 9)) hgrow6 Hown.out rO
   rw[←eW,←Hms.out] at hown6
   have HR6:Hid (w6.ownsRow w.heap.size 9 1 (.slice (some ⟨g6,0,none⟩) (k+1) cap) (k+1) (Sd ((List.range (k+1)).map F))/\Below w.heap.size w w6):=Ao ⟨hown6,hB6⟩
   clear hown6 hgrow6 hat6 hlt6 hB6 Hrow1 HN1 HZ hsr Hown HBV
   go_wp2_with fail
   go_roundw
   case rel=>exact⟨k+1,some ⟨g6,0,none⟩,cap,by omega,by go_num,rfl,HR6⟩
   case measure=>simp [intOf];omega
  ·obtain rfl:k=kids.length:=by omega
   have e9:decide ((kids.length:Int)<(kids.length:Int))=false:=by simp
   have hjoin:Calls Tryz.prog 169 #[.slice sa kids.length sc,.string ⟨#[44,32]⟩] wr fun e w'=>e= .returned (.string ⟨J.toArray⟩)/\Below wr.heap.size wr w':=by
    rcases hrow.2 with ⟨e2,h0⟩|⟨g,cap,cur,e2,_,hg,hc,_⟩
    ·rw[h0] at e2 ⊢
     have hj0:J=[]:=by rw[←HJ.out,h0];rfl
     rw[hj0]
     refine(Tryz.strings_Join_none sa sc ⟨#[44,32]⟩ wr).mono ?_
     rintro e w' ⟨rfl,rfl⟩
     exact⟨rfl,Below.refl _ _⟩
    ·injection e2 with e3 _ e4
     subst e3 e4
     have hj:=Tryz.strings_Join g 0 sc ((List.range kids.length).map fun k=>(⟨(F k).toArray⟩:ByteArray)) ⟨#[44,32]⟩ wr (fun j x hj=>by
      obtain⟨hj1,rfl⟩:=List.getElem?_eq_some_iff.1 hj
      have hj2:j<kids.length:=by simpa using hj1
      have:=hrow.cells (g:=g) rfl j (.string ⟨(F j).toArray⟩) (by simp [Sd,hj2])
      rw[Addr.add_lit] at this
      simpa using this) (Aq hg) rH (by simpa using hc) (by
      rw[List.map_map,show((fun x:ByteArray=>x.data.toList)∘fun k=>(⟨(F k).toArray⟩:ByteArray))=F from rfl,bZ]
      show(Gc [44,32] ((List.range kids.length).map F)).length<=_
      rw[HJ.out]
      omega)
     rw[List.map_map,show((fun x:ByteArray=>x.data.toList)∘fun k=>(⟨(F k).toArray⟩:ByteArray))=F from rfl,bZ,List.length_map,List.length_range] at hj
     rw[←HJ.out]
     exact hj
   have Hjoin:=Ao hjoin
   have HB:=Ao hB
   clear hq hrow hB hkl2 HL hjoin
   go_wp2_with fail
   refine Hjoin.out.mono ?_
   rintro e V ⟨rfl,hbV⟩
   have HBV:=Ao (HB.out.trans (hbV.mono HB.out.size))
   clear hbV HB Hjoin
   go_wp2_with fail
   go_ret
   exact⟨rfl,HBV.out⟩
theorem fC {w:World}{b tb:Nat}{tv:Value}{l:List Nz}{ts:List (List UInt8)}{x:Nz}(h:Qc w b tv tb l ts)(hx:l[ts.length]? =some x)(hR:Rd w)(hf:P9 x.h):
 Calls Tryz.prog 92 #[.pointer (some ⟨b,0,none⟩),.int .i64 (ts.length:Int)] w fun e w'=>e= .returned (.string ⟨(D7 x.h x.kids.length (Dj l ts x.kids)).toArray⟩)/\Below w.heap.size w w':=by
 by_cases h1:x.h.op=1
 ·exact jZ h hx hR hf h1
 by_cases h2:x.h.op=2
 ·exact iV h hx hf h2
 by_cases h3:x.h.op=3
 ·exact gE h hx h3
 by_cases l8:Az x.h.op=8
 ·exact dX h hx h1 h2 h3 l8
 by_cases l2:Az x.h.op=2
 ·exact fW h hx h1 h2 h3 l2
 by_cases l6:Az x.h.op=6
 ·exact fP h hx h1 h2 h3 l6
 by_cases l3:Az x.h.op=3
 ·exact mC h hx h1 h2 h3 l3
 ·exact lL h hx h1 h2 h3 ⟨l8,l2,l6,l3⟩
end Go.Proofs.YtgfakdobajgnfaaGreatDoor

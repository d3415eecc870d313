import Derived.BigQuiet
import Derived.Test.YtgfakdobajgnfaaGreatDoorQr26
import Derived.Test.YtgfakdobajgnfaaGreatDoorQr19
namespace Go.Proofs.YtgfakdobajgnfaaGreatDoor
open Go Go.RowKit Go.Lib Go.Sort Go.Shelf
set_option maxRecDepth 100000 in
set_option maxHeartbeats 4000000 in
theorem behind_any {w:World}{v:Value}{ts:List Tkn}(ht:TkIs w v ts)(hc:∀t∈ts,0≤t.col∧t.col≤1000000∧t.w.t.length≤1000000)(hbig:ts.length≤1000000):
 Calls Tryz.prog 54 #[v] w fun e w'=>e= .returned (.agg #[.int .i64 (behindL ts).1,.int .i64 (behindL ts).2])∧Below w.heap.size w w':=by
 by_cases h0:ts=[]
 ·subst h0
  obtain⟨va,vc,rfl⟩:=ht.form
  simp only[List.length_nil]
  clear hc hbig ht
  go_enter Tryz.func54,Tryz.ntmps54
  go_wp2_with fail
  refine bodyPost_ret (v:= .agg #[.int .i64 1,.int .i64 1]) (by simp [results,Tryz.results54,go_sem, *]) rfl ?_
  refine⟨rfl,?_⟩
  exact(Below.refl _ w).alloc (Nat.le_refl _) _
 ·obtain⟨m,hm⟩:∃m,ts.length=m+1:=⟨ts.length - 1,by have:=List.length_pos_iff.2 h0;omega⟩
  have hml:m<ts.length:=by omega
  obtain⟨g,c,rfl,hg,t0,t1,t2,t3,t4,t5,t6⟩:=ht.at hml
  have hlast:ts.getLast? =some ts[m]:=by
   rw[List.getLast?_eq_getElem?,hm,Nat.add_sub_cancel,List.getElem?_eq_getElem hml]
  have hcc:=hc ts[m] (List.getElem_mem hml)
  have hbe:behindL ts=(ts[m].line,ts[m].col+ts[m].w.t.length+if ts[m].w.k=2∨ts[m].w.k=3∨ts[m].w.k=6 then 1 else if ts[m].w.k=5 then 2 else 0):=by
   unfold behindL
   rw[hlast]
  rw[hbe]
  obtain⟨t,he⟩:∃t,ts[m]=t:=⟨_,rfl⟩
  rw[he] at t0 t1 t2 t3 t4 t5 t6 hcc ⊢
  obtain⟨⟨tk,tt,tv1,tv2,tv3⟩,tl,tc⟩:=t
  simp only at t0 t1 t2 t3 t4 t5 t6 hcc ⊢
  rw[hm]
  obtain⟨hc1,hc2,hc3⟩:=hcc
  have hm6:m+1≤1000000:=by omega
  obtain⟨W1,hW1⟩:∃W1,w.alloc (.cells #[.int .i64 0,.int .i64 0] 33)=W1:=⟨_,rfl⟩
  have hb1:Below w.heap.size w W1:=by rw[←hW1];exact(Below.refl _ w).alloc (Nat.le_refl _) _
  have hz1:W1.heap.size=w.heap.size+1:=by rw[←hW1];simp
  have hp1:=heap_alloc0 w (.cells #[.int .i64 0,.int .i64 0] 33)
  rw[hW1] at hp1
  have t0':=bcell hb1 t0
  have t1':=bcell hb1 t1
  have t2':=bcell hb1 t2
  have t3':=bcell hb1 t3
  have t4':=bcell hb1 t4
  have t5':=bcell hb1 t5
  have t6':=bcell hb1 t6
  obtain⟨W2,hW2⟩:∃W2,W1.alloc (.cells #[.int .u8 tk,.string ⟨tt.toArray⟩,.int .u8 tv1,.int .i64 tv2,.string ⟨tv3.toArray⟩,.int .i64 tl,.int .i64 tc] 94)=W2:=⟨_,rfl⟩
  have hb2:Below W1.heap.size W1 W2:=by rw[←hW2];exact(Below.refl _ W1).alloc (Nat.le_refl _) _
  have hz2:W2.heap.size=w.heap.size+2:=by rw[←hW2];simp [hz1]
  have hp2:=heap_alloc0 W1 (.cells #[.int .u8 tk,.string ⟨tt.toArray⟩,.int .u8 tv1,.int .i64 tv2,.string ⟨tv3.toArray⟩,.int .i64 tl,.int .i64 tc] 94)
  rw[hW2,hz1] at hp2
  obtain⟨s0,s1,s2,s3,s4,s5,s6⟩:=tokCells hp2
  obtain⟨W3,hW3⟩:∃W3,W2.alloc (.cells #[.int .i64 tl,.int .i64 tc] 33)=W3:=⟨_,rfl⟩
  have hb3:Below W2.heap.size W2 W3:=by rw[←hW3];exact(Below.refl _ W2).alloc (Nat.le_refl _) _
  have hz3:W3.heap.size=w.heap.size+3:=by rw[←hW3];simp [hz2]
  have hp3:=heap_alloc0 W2 (.cells #[.int .i64 tl,.int .i64 tc] 33)
  rw[hW3,hz2] at hp3
  have hq2:=(hb3.block _ (lt_of_heap hp2)).trans hp2
  have hq1:=(hb3.block _ (by omega)).trans ((hb2.block _ (lt_of_heap hp1)).trans hp1)
  obtain⟨r0,r1,r2,r3,r4,r5,r6⟩:=tokCells hq2
  obtain⟨x0,x1,xf⟩:=two_cells hp3
  obtain⟨y0,y1,yf⟩:=two_cells hq1
  have xf0:=xf 0
  have xf1:=xf 1
  have yf0:=yf 0
  have yf1:=yf 1
  have HB3:=hide (hb1.trans ((hb2.trans (hb3.mono hb2.size)).mono hb1.size))
  clear hb1 hb2 hb3 hp1 hp2 hp3 hq1 hq2 xf yf t0 t1 t2 t3 t4 t5 t6 hbe hlast hc he ht hbig h0
  by_cases hk:tk=2∨tk=3∨tk=6
  ·rcases hk with rfl|rfl|rfl
   ·go_enter Tryz.func54,Tryz.ntmps54
    go_wp2_with fail
    refine bodyPost_ret (v:= .agg #[.int .i64 tl,.int .i64 (tc+(tt.length:Int)+1)]) (by simp [results,Tryz.results54,go_sem, *]) rfl ?_
    refine⟨by simp [*],?_⟩
    exact(((HB3.out.setCell (by simp) _).setCell (by simp) _).setCell (by simp) _).setCell (by simp) _
   ·go_enter Tryz.func54,Tryz.ntmps54
    go_wp2_with fail
    refine bodyPost_ret (v:= .agg #[.int .i64 tl,.int .i64 (tc+(tt.length:Int)+1)]) (by simp [results,Tryz.results54,go_sem, *]) rfl ?_
    refine⟨by simp [*],?_⟩
    exact(((HB3.out.setCell (by simp) _).setCell (by simp) _).setCell (by simp) _).setCell (by simp) _
   ·go_enter Tryz.func54,Tryz.ntmps54
    go_wp2_with fail
    refine bodyPost_ret (v:= .agg #[.int .i64 tl,.int .i64 (tc+(tt.length:Int)+1)]) (by simp [results,Tryz.results54,go_sem, *]) rfl ?_
    refine⟨by simp [*],?_⟩
    exact(((HB3.out.setCell (by simp) _).setCell (by simp) _).setCell (by simp) _).setCell (by simp) _
  ·by_cases h5:tk=5
   ·subst h5
    go_enter Tryz.func54,Tryz.ntmps54
    go_wp2_with fail
    refine bodyPost_ret (v:= .agg #[.int .i64 tl,.int .i64 (tc+(tt.length:Int)+2)]) (by simp [results,Tryz.results54,go_sem, *]) rfl ?_
    refine⟨by simp [*],?_⟩
    exact(((HB3.out.setCell (by simp) _).setCell (by simp) _).setCell (by simp) _).setCell (by simp) _
   ·have j2:(tk==2)=false:=by simp at hk ⊢;omega
    have j3:(tk==3)=false:=by simp at hk ⊢;omega
    have j6:(tk==6)=false:=by simp at hk ⊢;omega
    have j5:(tk==5)=false:=by simpa using h5
    rw[if_neg hk,if_neg h5,Int.add_zero]
    clear hk h5
    go_enter Tryz.func54,Tryz.ntmps54
    go_wp2_with fail
    refine bodyPost_ret (v:= .agg #[.int .i64 tl,.int .i64 (tc+(tt.length:Int))]) (by simp [results,Tryz.results54,go_sem, *]) rfl ?_
    refine⟨by simp [*],?_⟩
    exact((HB3.out.setCell (by simp) _).setCell (by simp) _).setCell (by simp) _
def RPost (w:World)(x:Except ((Int×Int)×Int) Ex)(e:Ending)(w':World):Prop:=
 Below w.heap.size w w'∧match x with
  | .error p=>e= .returned (.tuple #[.slice none 0 0,.agg #[.int .i64 p.1.1,.int .i64 p.1.2],.int .i64 p.2])
  | .ok a=>∃v,e= .returned (.tuple #[v,.agg #[.int .i64 0,.int .i64 0],.int .i64 0])∧TrIs w' w.heap.size [] v (a.flat 0)
set_option maxRecDepth 100000 in
set_option maxHeartbeats 4000000 in
theorem read_er {s:ByteArray}(w:World)(hs:s.size≤65536)(hR:Rd w){a b q:Int}(h:lexL (dl s)= .error (a,b,q)):Calls Tryz.prog 20 #[.string s] w (RPost w (readL (dl s))):=by
 have hx:readL (dl s)= .error ((a,b),q):=by unfold readL;rw[h]
 have hq:q=4∨q=9:=((LX_rise _ (dl s) 1 1 (Nat.le_refl _) (by decide)).1 a b q h).2.2
 have hq1:(q !=0)=true:=by rcases hq with rfl|rfl<;>rfl
 have hq2:(q==0)=false:=by rcases hq with rfl|rfl<;>rfl
 obtain⟨W1,hW1⟩:∃W1,w.alloc (.cells #[.int .i64 0,.int .i64 0] 33)=W1:=⟨_,rfl⟩
 have hb1:Below w.heap.size w W1:=by rw[←hW1];exact(Below.refl _ w).alloc (Nat.le_refl _) _
 have hp1:=heap_alloc0 w (.cells #[.int .i64 0,.int .i64 0] 33)
 rw[hW1] at hp1
 have L1:=hide (lex_er (s:=s) W1 hs (hR.below hb1) h)
 have HB1:=hide hb1
 have HP1:=hide hp1
 rw[hx]
 clear hx h hR hb1 hp1 hq
 go_enter Tryz.func20,Tryz.ntmps20
 go_wp2_with fail
 (with_reducible refine L1.out.mono ?_)
 rintro e V2 ⟨rfl,hb2⟩
 have hp2:=(hb2.block _ (lt_of_heap HP1.out)).trans HP1.out
 obtain⟨V3,hV3⟩:∃V3,V2.alloc (.cells #[.int .i64 a,.int .i64 b] 33)=V3:=⟨_,rfl⟩
 have hb3:Below V2.heap.size V2 V3:=by rw[←hV3];exact(Below.refl _ V2).alloc (Nat.le_refl _) _
 have hp3:=heap_alloc0 V2 (.cells #[.int .i64 a,.int .i64 b] 33)
 rw[hV3] at hp3
 have hp4:=(hb3.block _ (lt_of_heap hp2)).trans hp2
 obtain⟨x0,x1,_⟩:=two_cells hp3
 obtain⟨y0,y1,yf⟩:=two_cells hp4
 have yf0:=yf 0
 have yf1:=yf 1
 have HB3:=hide (HB1.out.trans ((hb2.trans (hb3.mono hb2.size)).mono HB1.out.size))
 have hne:¬w.heap.size=V2.heap.size:=by have:=lt_of_heap hp2;omega
 have hne2:¬V2.heap.size=w.heap.size:=fun h=>hne h.symm
 clear hb2 hb3 hp2 hp3 hp4 yf L1 HP1
 go_wp2_with fail
 go_region
 go_wp2_with fail
 refine bodyPost_ret (v:= .tuple #[.slice none 0 0,.agg #[.int .i64 a,.int .i64 b],.int .i64 q]) (by simp [results,Tryz.results20,go_sem, *]) rfl ?_
 exact⟨((HB3.out.setCell (by simp) _).setCell (by simp) _).drew,rfl⟩
inductive Mid (ts:List Tkn)(w:World)(V:World)(v:Value)(n:Nat)(e0:Int):Except ((Int×Int)×Int) Ex→Prop where
 |tree (a:Ex) (he:e0=0) (hn:n=ts.length) (ht:TrIs V w.heap.size [] v (a.flat 0)):Mid ts w V v n e0 (.ok a)
 |more (t:Tkn) (he:e0=0) (hn:ts[n]? =some t):Mid ts w V v n e0 (.error ((t.line,t.col),4))
 |bad (t:Tkn) (he:e0≠0) (hn:ts[n]? =some t):Mid ts w V v n e0 (.error ((t.line,t.col),e0))
 |end' (he:e0≠0) (hn:n=ts.length):Mid ts w V v n e0 (.error (behindL ts,e0))
theorem Suf.head {t:Tkn}{q ts:List Tkn}(h:Suf (t::q) ts):ts[ts.length - (t::q).length]? =some t:=by
 have h1:=h.at_drop
 have h2:=congrArg (fun l=>l[0]?) h1
 simpa using h2.symm
theorem mid_of {w V V':World}{ts:List Tkn}{l:List UInt8}(hl:lexL l= .ok ts){e:Ending}(h:PPost V ts 0 (lvlE 0 0 ts) e V')(hw:w.heap.size≤V.heap.size):
 ∃(v:Value) (n:Nat) (e0:Int),e= .returned (.tuple #[v,.int .i64 (n:Int),.int .i64 e0])∧n≤ts.length∧(∃a k c,v= .slice a k c)∧Mid ts w V' v n e0 (readL l)∧Below V.heap.size V V':=by
 have hx:readL l=match lvlE 0 0 ts with
  | .error (e,q)=> .error (placeE ts q,e)
  | .ok (a,q)=>if 60<a.size then .error (placeE ts ts,7) else if q=[] then .ok a else .error (placeE ts q,4):=by
  simp only[readL,hl]
  cases lvlE 0 0 ts with
  |error p=>rfl
  |ok p=>rfl
 obtain⟨hb,h⟩:=h
 cases hq:lvlE 0 0 ts with
 |error p=>
  obtain⟨er,q⟩:=p
  rw[hq] at h hx
  have hs:=exE_err (td:= .lvl 0) (by show 0≤7;omega) (show exE (.lvl 0) 0 ts=_ from hq)
  have he:er≠0:=by
   have:=exE_errs (.lvl 0) 0 ts (by show 0≤7;omega) _ (show exE (.lvl 0) 0 ts=_ from hq)
   simp only at this
   omega
  refine⟨_,_,er,h,by omega,⟨_,_,_,rfl⟩,?_,hb⟩
  rw[hx]
  simp only
  cases q with
  |nil=>exact .end' he (by simp)
  |cons t q=>exact .bad t he hs.head
 |ok p=>
  obtain⟨a,q⟩:=p
  rw[hq] at h hx
  simp only at h hx
  have hs:=lvlE_suf (n:=0) (by omega) hq
  by_cases h60:60<a.size
  ·rw[if_pos h60] at h hx
   refine⟨_,0,7,h,by omega,⟨_,_,_,rfl⟩,?_,hb⟩
   rw[hx]
   cases ts with
   |nil=>simp at hs
   |cons t ts=>exact .bad t (by decide) rfl
  ·rw[if_neg h60] at h hx
   obtain⟨v,h1,h2⟩:=h
   have hv:∃a k c,v= .slice a k c:=by
    obtain⟨kvs,h3,_⟩:=h2
    obtain⟨x,c,rfl⟩:=row_form h3
    exact⟨_,_,_,rfl⟩
   refine⟨v,_,0,h1,by omega,hv,?_,hb⟩
   rw[hx]
   cases q with
   |nil=>
    rw[if_pos rfl]
    refine .tree a rfl (by simp) ?_
    obtain⟨kvs,h3,h4⟩:=h2
    exact⟨kvs,owns_base h3 hw,KidsAre.base hw h4⟩
   |cons t q=>
    rw[if_neg (by simp)]
    exact .more t rfl hs.1.head
set_option maxRecDepth 100000 in
set_option maxHeartbeats 8000000 in
theorem read_ok {s:ByteArray}(w:World)(hs:s.size≤65536)(hR:Rd w){ts:List Tkn}(h:lexL (dl s)= .ok ts):Calls Tryz.prog 20 #[.string s] w (RPost w (readL (dl s))):=by
 have hlen:=(LX_bytes _ (dl s) 1 1 ts (Nat.le_refl _) h).2
 have hpl:=lex_places h
 have hsh:=lex_short h
 rw[dl_size] at hlen
 have hbig:ts.length≤1000000:=by omega
 have hcols:∀t∈ts,0≤t.col∧t.col≤1000000∧t.w.t.length≤1000000:=fun t ht=>by
  have h1:=hpl t ht
  have h2:=hsh t ht
  rw[dl_size] at h1 h2
  omega
 obtain⟨W1,hW1⟩:∃W1,w.alloc (.cells #[.int .i64 0,.int .i64 0] 33)=W1:=⟨_,rfl⟩
 have hb1:Below w.heap.size w W1:=by rw[←hW1];exact(Below.refl _ w).alloc (Nat.le_refl _) _
 have hp1:=heap_alloc0 w (.cells #[.int .i64 0,.int .i64 0] 33)
 rw[hW1] at hp1
 have L1:=hide (lex_ok (s:=s) W1 hs (hR.below hb1) h)
 have HB1:=hide hb1
 have HP1:=hide hp1
 have HL:=hide h
 have Hcols:=hide hcols
 have Hnam:=hide (lex_names h)
 clear h hR hb1 hp1 hcols hpl hsh hs
 go_enter Tryz.func20,Tryz.ntmps20
 go_wp2_with fail
 (with_reducible refine L1.out.mono ?_)
 rintro e V2 ⟨tv,rfl,hrow,hb2⟩
 have htk:=TkIs.of_row hrow
 obtain⟨ta,tc,rfl⟩:=htk.form
 have hp2:=(hb2.block _ (lt_of_heap HP1.out)).trans HP1.out
 obtain⟨V3,hV3⟩:∃V3,V2.alloc (.cells #[.int .i64 0,.int .i64 0] 33)=V3:=⟨_,rfl⟩
 have hb3:Below V2.heap.size V2 V3:=by rw[←hV3];exact(Below.refl _ V2).alloc (Nat.le_refl _) _
 have hp4:=(hb3.block _ (lt_of_heap hp2)).trans hp2
 have hB3:=HB1.out.trans ((hb2.trans (hb3.mono hb2.size)).mono HB1.out.size)
 have ht3:=htk.below hb3
 have hpa:Calls Tryz.prog 53 #[.slice ta ts.length tc,.int .i64 0] V3 (PPost V3 ts 0 (lvlE 0 0 ts)):=xparse_any ht3 Hnam.out hbig 0 (Nat.zero_le _)
 have HPA:=hide hpa
 have HB3:=hide hB3
 have HP4:=hide hp4
 have HT3:=hide ht3
 clear hb2 hp2 hb3 hp4 hB3 ht3 hpa htk hrow L1 HP1
 subst hV3
 go_wp2_with fail
 (with_reducible refine HPA.out.mono ?_)
 rintro e V4 hp
 obtain⟨v,n,e0,rfl,hn,⟨va,vk,vc,rfl⟩,hmid,hb4⟩:=mid_of (w:=w) HL.out hp HB3.out.size
 have hB4:=HB3.out.trans (hb4.mono HB3.out.size)
 have hp5:=(hb4.block _ (lt_of_heap HP4.out)).trans HP4.out
 have ht4:=HT3.out.below hb4
 have HB4:=hide hB4
 have HP5:=hide hp5
 have HT4:=hide ht4
 obtain⟨x,hx⟩:∃x,readL (dl s)=x:=⟨_,rfl⟩
 rw[hx] at hmid
 have HX:=hide hx
 clear hp hb4 hB4 hp5 ht4 HPA HP4 HT3 HL hx
 obtain⟨y0,y1,yf⟩:=two_cells HP5.out
 have yf0:=yf 0
 have yf1:=yf 1
 clear yf
 cases hmid with
 |tree a he hn' ht=>
  subst he
  subst hn'
  have HT:=hide ht
  clear ht
  go_wp2_with fail
  refine bodyPost_ret (v:= .tuple #[.slice va vk vc,.agg #[.int .i64 0,.int .i64 0],.int .i64 0]) (by simp [results,Tryz.results20,go_sem, *]) rfl ?_
  rw[HX.out]
  have hO:Only [w.heap.size] V4 ((V4.setCell ⟨w.heap.size,0,none⟩ (.int .i64 0)).setCell ⟨w.heap.size,1,none⟩ (.int .i64 0)):=(only_setCell V4 _ _ _).setCell (.inl (by simp)) _
  refine⟨(HB4.out.setCell (by simp) _).setCell (by simp) _,_,rfl,HT.out.imp (fun _ r=>owns_only r hO fun k e hm=>?_) fun v n xs hx r=>⟨owns_only r hO fun k e hm=>?_,hx⟩⟩
  ·simp at hm
   subst hm
   exact owns_not r HP5.out (by decide) e
  ·simp at hm
   subst hm
   exact owns_not r HP5.out (by decide) e
 |more t he hn'=>
  obtain⟨hnl,hte⟩:=List.getElem?_eq_some_iff.1 hn'
  obtain⟨g,c,et,hg,t0,t1,t2,t3,t4,t5,t6⟩:=HT4.out.at hnl
  injection et with e1 _ e3
  subst e1
  subst e3
  rw[hte] at t5 t6
  have i0:(0:Int)≤(n:Int):=by omega
  have i1:(n:Int)<(ts.length:Int):=by omega
  have i2:decide ((n:Int)<(ts.length:Int))=true:=by simp;omega
  have hgw:g<V4.drew.heap.size:=hg
  subst he
  clear t0 t1 t2 t3 t4 hte hn' hg
  go_wp2_with fail
  go_region
  go_wp2_with fail
  refine bodyPost_ret (v:= .tuple #[.slice none 0 0,.agg #[.int .i64 t.line,.int .i64 t.col],.int .i64 4]) (by simp [results,Tryz.results20,go_sem, *]) rfl ?_
  rw[HX.out]
  exact⟨((HB4.out.setCell (by simp) _).setCell (by simp) _).drew,rfl⟩
 |bad t he hn'=>
  obtain⟨hnl,hte⟩:=List.getElem?_eq_some_iff.1 hn'
  obtain⟨g,c,et,hg,t0,t1,t2,t3,t4,t5,t6⟩:=HT4.out.at hnl
  injection et with e1 _ e3
  subst e1
  subst e3
  rw[hte] at t5 t6
  have i0:(0:Int)≤(n:Int):=by omega
  have i1:(n:Int)<(ts.length:Int):=by omega
  have i2:decide ((n:Int)<(ts.length:Int))=true:=by simp;omega
  have hgw:g<V4.drew.heap.size:=hg
  have j1:(e0==0)=false:=by simpa using he
  have HE:=hide he
  clear he
  clear t0 t1 t2 t3 t4 hte hn' hg
  go_wp2_with fail
  go_region
  go_wp2_with fail
  refine bodyPost_ret (v:= .tuple #[.slice none 0 0,.agg #[.int .i64 t.line,.int .i64 t.col],.int .i64 e0]) (by simp [results,Tryz.results20,go_sem, *]) rfl ?_
  rw[HX.out]
  exact⟨((HB4.out.setCell (by simp) _).setCell (by simp) _).drew,rfl⟩
 |end' he hn'=>
  subst hn'
  have hbe:=behind_any HT4.out Hcols.out hbig
  have j1:(e0==0)=false:=by simpa using he
  have Hbe:=hide hbe
  clear he hbe
  go_wp2_with fail
  (with_reducible refine Hbe.out.mono ?_)
  rintro e V5 ⟨rfl,hb5⟩
  have hp6:=(hb5.block _ (lt_of_heap HP5.out)).trans HP5.out
  obtain⟨y0,y1,yf⟩:=two_cells hp6
  have yf0:=yf 0
  have yf1:=yf 1
  have HB5:=hide (HB4.out.trans (hb5.mono HB4.out.size))
  clear hp6 hb5 yf Hbe
  go_wp2_with fail
  refine bodyPost_ret (v:= .tuple #[.slice none 0 0,.agg #[.int .i64 (behindL ts).1,.int .i64 (behindL ts).2],.int .i64 e0]) (by simp [results,Tryz.results20,go_sem, *]) rfl ?_
  rw[HX.out]
  exact⟨(HB5.out.setCell (by simp) _).setCell (by simp) _,rfl⟩
theorem xread_any (s:ByteArray)(w:World)(hs:s.size≤65536)(hR:Rd w):Calls Tryz.prog 20 #[.string s] w (RPost w (readL (dl s))):=by
 cases h:lexL (dl s) with
 |error p=>exact read_er w hs hR (a:=p.1) (b:=p.2.1) (q:=p.2.2) h
 |ok ts=>exact read_ok w hs hR h
open Go Go.RowKit Go.Lib Go.Sort Go.Shelf
structure Nz where
 h:Hd
 kids:List Int
def Nd.z (n:Nd):Nz:=⟨n.h,n.kids.map fun(k:Nat)=>(k:Int)⟩
def IntsRd (w:World)(x:Value)(l:List Int):Prop:=l.length≤1000000∧∃a c,x= .slice a l.length c∧∀i (h:i<l.length),∃b off,a=some ⟨b,off,none⟩∧w.cell? ⟨b,off+i,none⟩=some (.int .i64 l[i])
theorem IntsRd.below {w w':World}{x:Value}{l:List Int}(h:IntsRd w x l)(hb:Below w.heap.size w w'):IntsRd w' x l:=by
 obtain⟨h1,a,c,h2,h3⟩:=h
 refine⟨h1,a,c,h2,fun i hi=>?_⟩
 obtain⟨b,off,e,hc⟩:=h3 i hi
 exact⟨b,off,e,bcell hb hc⟩
theorem IntsRd.of_row {w:World}{B:Nat}{v:Value}{l:List Nat}(hl:l.length≤1000000)(h:w.ownsRow B 3 1 v l.length (nums l)):IntsRd w v (l.map fun(k:Nat)=>(k:Int)):=by
 rcases h.2 with ⟨e,h0⟩|⟨g,cap,cur,rfl,_,hg,hc,_⟩
 ·have:l=[]:=List.eq_nil_of_length_eq_zero h0
  subst this
  exact⟨by simp,none,0,e,fun i hi=>by simp at hi⟩
 ·refine⟨by simpa using hl,some ⟨g,0,none⟩,cap,by simp,fun i hi=>⟨g,0,rfl,?_⟩⟩
  have hi':i<l.length:=by simpa using hi
  have:=h.cells (g:=g) rfl i (.int .i64 (l[i]:Int)) (by simp [nums,hi'])
  rw[Addr.add_lit,Nat.zero_add] at this
  rw[Nat.zero_add]
  simpa using this
def NodeAt (w:World)(b off:Nat)(h:Hd)(kv:Value):Prop:=
 w.cell? ⟨b,off,none⟩=some (.int .u8 h.op)∧w.cell? ⟨b,off+1,none⟩=some (.int .u8 h.v.1)∧w.cell? ⟨b,off+2,none⟩=some (.int .i64 h.v.2.1)∧w.cell? ⟨b,off+3,none⟩=some (.string ⟨h.v.2.2.toArray⟩)∧
 w.cell? ⟨b,off+4,none⟩=some (.string ⟨h.name.toArray⟩)∧w.cell? ⟨b,off+5,none⟩=some kv∧w.cell? ⟨b,off+6,none⟩=some (.int .i64 h.line)∧w.cell? ⟨b,off+7,none⟩=some (.int .i64 h.col)
theorem NodeAt.below {w w':World}{b off:Nat}{h:Hd}{kv:Value}(q:NodeAt w b off h kv)(hb:Below w.heap.size w w'):NodeAt w' b off h kv:=
 ⟨bcell hb q.1,bcell hb q.2.1,bcell hb q.2.2.1,bcell hb q.2.2.2.1,bcell hb q.2.2.2.2.1,bcell hb q.2.2.2.2.2.1,bcell hb q.2.2.2.2.2.2.1,bcell hb q.2.2.2.2.2.2.2⟩
def TrZ (w:World)(v:Value)(l:List Nz):Prop:=l.length≤1000000∧∃a c,v= .slice a l.length c∧∀i (h:i<l.length),∃b off kv,a=some ⟨b,off,none⟩∧NodeAt w b (off+i*8) l[i].h kv∧IntsRd w kv l[i].kids
theorem TrZ.below {w w':World}{v:Value}{l:List Nz}(h:TrZ w v l)(hb:Below w.heap.size w w'):TrZ w' v l:=by
 obtain⟨h1,a,c,h2,h3⟩:=h
 refine⟨h1,a,c,h2,fun i hi=>?_⟩
 obtain⟨b,off,kv,e,hc,hk⟩:=h3 i hi
 exact⟨b,off,kv,e,hc.below hb,hk.below hb⟩
theorem nflat_get {w:World}{B:Nat}{X:List Nat}:∀{vs:List Value} {ns:List Nd},KidsAre w B X vs ns→∀(i:Nat) (h:i<ns.length),∃kv,vs[i]? =some kv∧w.ownsRow B 3 1 kv ns[i].kids.length (nums ns[i].kids)∧
 (nflat vs ns)[i*8]? =some (.int .u8 ns[i].h.op)∧(nflat vs ns)[i*8+1]? =some (.int .u8 ns[i].h.v.1)∧(nflat vs ns)[i*8+2]? =some (.int .i64 ns[i].h.v.2.1)∧(nflat vs ns)[i*8+3]? =some (.string ⟨ns[i].h.v.2.2.toArray⟩)∧
 (nflat vs ns)[i*8+4]? =some (.string ⟨ns[i].h.name.toArray⟩)∧(nflat vs ns)[i*8+5]? =some kv∧(nflat vs ns)[i*8+6]? =some (.int .i64 ns[i].h.line)∧(nflat vs ns)[i*8+7]? =some (.int .i64 ns[i].h.col)
 |[],[],_,i,h=>by simp at h
 |v::vs,n::ns,hk,0,_=>⟨v,rfl,hk.1.1,rfl,rfl,rfl,rfl,rfl,rfl,rfl,rfl⟩
 |v::vs,n::ns,hk,i+1,h=>by
  have:=nflat_get hk.2 i (by simpa using h)
  rw[show(i+1)*8=i*8+1+1+1+1+1+1+1+1 by omega]
  exact this
 |[],_::_,h,_,_=>h.elim
 |_::_,[],h,_,_=>h.elim
def Slim (ns:List Nd):Prop:=∀n∈ns,n.kids.length≤1000000
theorem TrIs.z {w:World}{B:Nat}{X:List Nat}{v:Value}{ns:List Nd}(h:TrIs w B X v ns)(hl:ns.length≤1000000)(hs:Slim ns):TrZ w v (ns.map Nd.z):=by
 obtain⟨kvs,h1,h2⟩:=h
 rcases h1.2 with ⟨e,h0⟩|⟨g,cap,cur,rfl,_,hg,hc,_⟩
 ·have:ns=[]:=List.eq_nil_of_length_eq_zero h0
  subst this
  exact⟨by simp,none,0,e,fun i hi=>by simp at hi⟩
 ·refine⟨by simpa using hl,some ⟨g,0,none⟩,cap,by simp,fun i hi=>?_⟩
  have hi':i<ns.length:=by simpa using hi
  obtain⟨kv,_,hk,g0,g1,g2,g3,g4,g5,g6,g7⟩:=nflat_get h2 i hi'
  have hcell:∀j u,(nflat kvs ns)[j]? =some u→w.cell? ⟨g,0+j,none⟩=some u:=fun j u hj=>by
   have:=h1.cells (g:=g) rfl j u hj
   rwa [Addr.add_lit] at this
  have he:(ns.map Nd.z)[i]=Nd.z ns[i]:=by simp
  refine⟨g,0,kv,rfl,?_,?_⟩
  ·rw[he]
   exact⟨hcell _ _ g0,hcell _ _ g1,hcell _ _ g2,hcell _ _ g3,hcell _ _ g4,hcell _ _ g5,hcell _ _ g6,hcell _ _ g7⟩
  ·rw[he]
   exact IntsRd.of_row (hs _ (List.getElem_mem hi')) hk
theorem ints_any {x y:Value}{l m:List Int}(w:World)(hx:IntsRd w x l)(hy:IntsRd w y m):Calls Tryz.prog 60 #[x,y] w fun e w'=>e= .returned (.bool (decide (l=m)))∧Below w.heap.size w w':=by
 obtain⟨hx1,a,c,rfl,hx2⟩:=hx
 obtain⟨hy1,a',c',rfl,hy2⟩:=hy
 by_cases hn:l.length=m.length
 ·by_cases h0:l.length=0
  ·obtain rfl:l=[]:=List.eq_nil_of_length_eq_zero h0
   obtain rfl:m=[]:=List.eq_nil_of_length_eq_zero (by omega)
   refine(Tryz.slices_Equal_int_empty a a' c 0 c' w (by omega)).mono ?_
   rintro e w' ⟨rfl,rfl⟩
   exact⟨by simp,Below.refl _ _⟩
  ·obtain⟨b,off,e1,_⟩:=hx2 0 (by omega)
   obtain⟨b',off',e2,_⟩:=hy2 0 (by omega)
   subst e1
   subst e2
   refine(Tryz.slices_Equal_int b off l.length c b' off' m.length c' l m w (Nat.le_refl _) (Nat.le_refl _) (by omega) (by omega) (fun j h=>?_) (fun j h=>?_)).mono ?_
   ·obtain⟨b2,o2,e,hc⟩:=hx2 j h
    injection e with e
    injection e with e1 e2
    subst e1
    subst e2
    rw[hc,List.getD_eq_getElem?_getD,List.getElem?_eq_getElem h]
    rfl
   ·obtain⟨b2,o2,e,hc⟩:=hy2 j h
    injection e with e
    injection e with e1 e2
    subst e1
    subst e2
    rw[hc,List.getD_eq_getElem?_getD,List.getElem?_eq_getElem h]
    rfl
   ·rintro e w' ⟨rfl,q,rfl⟩
    refine⟨?_,below_drewN (Below.refl _ _) q⟩
    rw[List.take_length,List.take_length]
    congr 2
    rw[Bool.eq_iff_iff]
    simp
 ·have hd:decide (l=m)=false:=decide_eq_false fun h=>hn (congrArg List.length h)
  rw[hd]
  have h1:(((l.length:Nat):Int) !=((m.length:Nat):Int))=true:=by simp;omega
  clear hx2 hy2 hd hn
  go_enter Tryz.func60,Tryz.ntmps60
  go_wp2_with fail
  go_ret
  exact⟨rfl,Below.refl _ _⟩
def sameZ (x y:Nz):Bool:=decide (x.h.op=y.h.op) && (decide (x.h.v=y.h.v) && (decide (x.h.name=y.h.name) && decide (x.kids=y.kids)))
theorem sameZ_iff (x y:Nz):sameZ x y=true↔x.h.bare=y.h.bare∧x.kids=y.kids:=by
 obtain⟨⟨a1,a2,a3,a4,a5⟩,ak⟩:=x
 obtain⟨⟨b1,b2,b3,b4,b5⟩,bk⟩:=y
 simp [sameZ,Hd.bare,and_assoc]
def samesZ:List Nz→List Nz→Bool
 |[],[]=>true
 |x::l,y::m=>sameZ x y && samesZ l m
 |_,_=>false
def Nz.bare (n:Nz):Nz:=⟨n.h.bare,n.kids⟩
theorem samesZ_iff:∀(l m:List Nz),samesZ l m=true↔l.map Nz.bare=m.map Nz.bare
 |[],[]=>by simp [samesZ]
 |[],_::_=>by simp [samesZ]
 |_::_,[]=>by simp [samesZ]
 |x::l,y::m=>by
  simp only[samesZ,Bool.and_eq_true,sameZ_iff,samesZ_iff l m,List.map_cons,List.cons.injEq,Nz.bare,Nz.mk.injEq]
set_option maxRecDepth 100000 in
set_option maxHeartbeats 4000000 in
theorem sameNode_any (h1 h2:Hd)(kv1 kv2:Value)(k1 k2:List Int)(w:World)(hx:IntsRd w kv1 k1)(hy:IntsRd w kv2 k2):
 Calls Tryz.prog 59 #[.agg #[.int .u8 h1.op,.int .u8 h1.v.1,.int .i64 h1.v.2.1,.string ⟨h1.v.2.2.toArray⟩,.string ⟨h1.name.toArray⟩,kv1,.int .i64 h1.line,.int .i64 h1.col],.agg #[.int .u8 h2.op,.int .u8 h2.v.1,.int .i64 h2.v.2.1,.string ⟨h2.v.2.2.toArray⟩,.string ⟨h2.name.toArray⟩,kv2,.int .i64 h2.line,.int .i64 h2.col]] w
  fun e w'=>e= .returned (.bool (sameZ ⟨h1,k1⟩ ⟨h2,k2⟩))∧Below w.heap.size w w':=by
 obtain⟨op1,⟨vk1,vn1,vs1⟩,nm1,ln1,cl1⟩:=h1
 obtain⟨op2,⟨vk2,vn2,vs2⟩,nm2,ln2,cl2⟩:=h2
 by_cases e0:op1=op2
 ·subst e0
  by_cases e1:vk1=vk2
  ·subst e1
   by_cases e2:vn1=vn2
   ·subst e2
    by_cases e3:vs1=vs2
    ·subst e3
     by_cases e4:nm1=nm2
     ·subst e4
      have hb:Below w.heap.size w ((w.alloc (.cells #[.int .u8 op1,.int .u8 vk1,.int .i64 vn1,.string ⟨vs1.toArray⟩,.string ⟨nm1.toArray⟩,kv1,.int .i64 ln1,.int .i64 cl1] 43)).alloc (.cells #[.int .u8 op1,.int .u8 vk1,.int .i64 vn1,.string ⟨vs1.toArray⟩,.string ⟨nm1.toArray⟩,kv2,.int .i64 ln2,.int .i64 cl2] 43)):=((Below.refl _ w).alloc (Nat.le_refl _) _).alloc (by simp) _
      have hc:=ints_any _ (hx.below hb) (hy.below hb)
      have HC:=hide hc
      have HB:=hide hb
      clear hx hy hc hb
      go_enter Tryz.func59,Tryz.ntmps59
      go_wp2_with fail
      (with_reducible refine HC.out.mono ?_)
      rintro e V ⟨rfl,hb2⟩
      have HB2:=hide (HB.out.trans (hb2.mono HB.out.size))
      clear hb2 HC HB
      go_wp2_with fail
      go_ret
      exact⟨by simp [sameZ],HB2.out⟩
     ·have f:(nm1==nm2)=false:=by simpa using e4
      have hz:sameZ ⟨⟨op1,(vk1,vn1,vs1),nm1,ln1,cl1⟩,k1⟩ ⟨⟨op1,(vk1,vn1,vs1),nm2,ln2,cl2⟩,k2⟩=false:=by simp [sameZ,e4]
      rw[hz]
      clear hz hx hy e4
      go_enter Tryz.func59,Tryz.ntmps59
      go_wp2_with fail
      go_ret
      exact⟨rfl,((Below.refl _ w).alloc (Nat.le_refl _) _).alloc (by simp) _⟩
    ·have f:(vs1==vs2)=false:=by simpa using e3
     have hz:sameZ ⟨⟨op1,(vk1,vn1,vs1),nm1,ln1,cl1⟩,k1⟩ ⟨⟨op1,(vk1,vn1,vs2),nm2,ln2,cl2⟩,k2⟩=false:=by simp [sameZ,e3]
     rw[hz]
     clear hz hx hy e3
     go_enter Tryz.func59,Tryz.ntmps59
     go_wp2_with fail
     go_ret
     exact⟨rfl,((Below.refl _ w).alloc (Nat.le_refl _) _).alloc (by simp) _⟩
   ·have f:(vn1==vn2)=false:=by simpa using e2
    have hz:sameZ ⟨⟨op1,(vk1,vn1,vs1),nm1,ln1,cl1⟩,k1⟩ ⟨⟨op1,(vk1,vn2,vs2),nm2,ln2,cl2⟩,k2⟩=false:=by simp [sameZ,e2]
    rw[hz]
    clear hz hx hy e2
    go_enter Tryz.func59,Tryz.ntmps59
    go_wp2_with fail
    go_ret
    exact⟨rfl,((Below.refl _ w).alloc (Nat.le_refl _) _).alloc (by simp) _⟩
  ·have f:(vk1==vk2)=false:=by simpa using e1
   have hz:sameZ ⟨⟨op1,(vk1,vn1,vs1),nm1,ln1,cl1⟩,k1⟩ ⟨⟨op1,(vk2,vn2,vs2),nm2,ln2,cl2⟩,k2⟩=false:=by simp [sameZ,e1]
   rw[hz]
   clear hz hx hy e1
   go_enter Tryz.func59,Tryz.ntmps59
   go_wp2_with fail
   go_ret
   exact⟨rfl,((Below.refl _ w).alloc (Nat.le_refl _) _).alloc (by simp) _⟩
 ·have f:(op1==op2)=false:=by simpa using e0
  have hz:sameZ ⟨⟨op1,(vk1,vn1,vs1),nm1,ln1,cl1⟩,k1⟩ ⟨⟨op2,(vk2,vn2,vs2),nm2,ln2,cl2⟩,k2⟩=false:=by simp [sameZ,e0]
  rw[hz]
  clear hz hx hy e0
  go_enter Tryz.func59,Tryz.ntmps59
  go_wp2_with fail
  go_ret
  exact⟨rfl,((Below.refl _ w).alloc (Nat.le_refl _) _).alloc (by simp) _⟩
set_option maxRecDepth 100000 in
set_option maxHeartbeats 4000000 in
theorem same_any {v1 v2:Value}{l m:List Nz}(w:World)(hx:TrZ w v1 l)(hy:TrZ w v2 m):Calls Tryz.prog 23 #[v1,v2] w fun e w'=>e= .returned (.bool (samesZ l m))∧Below w.heap.size w w':=by
 have hef:Calls Tryz.prog 58 #[v1,v2,.func (.func 59) #[] #[]] w fun e w'=>e= .returned (.bool (samesZ l m))∧Below w.heap.size w w':=by
  have hl1:=hx.1
  have hm1:=hy.1
  have HX:=hide hx
  have HY:=hide hy
  obtain⟨_,a,c,rfl,_⟩:=hx
  obtain⟨_,a',c',rfl,_⟩:=hy
  by_cases hn:l.length=m.length
  ·rw[←hn]
   have HN:=hide hn
   have hlm:l.length≤m.length:=by omega
   clear hn
   go_enter Tryz.func58,Tryz.ntmps58
   go_wp2_with fail
   go_loopw [17] (fun vi wr=>∃j:Nat,j≤l.length∧vi= .int .i64 j∧Hid (samesZ (l.drop j) (m.drop j)=samesZ l m)∧Hid (Below w.heap.size w wr)) (fun vi _=>l.length - (intOf vi).toNat)
   case atStart=>exact⟨0,Nat.zero_le _,rfl,rfl,Below.refl _ _⟩
   case round=>
    obtain⟨j,hj,rfl,hq,hb⟩:=hrel
    by_cases hjl:j<l.length
    ·have hjm:j<m.length:=by omega
     have hx2:=HX.out.below hb.out
     have hy2:=HY.out.below hb.out
     obtain⟨_,ax,cx,ex,hx3⟩:=hx2
     obtain⟨_,ay,cy,ey,hy3⟩:=hy2
     injection ex with ex1 _ ex2
     injection ey with ey1 _ ey2
     subst ex1 ex2 ey1 ey2
     obtain⟨bx,ox,kx,rfl,hnx,hix⟩:=hx3 j hjl
     obtain⟨by',oy,ky,rfl,hny,hiy⟩:=hy3 j hjm
     have hs:(sameZ l[j] m[j] && samesZ (l.drop (j+1)) (m.drop (j+1)))=samesZ l m:=by
      rw[←hq.out,List.drop_eq_getElem_cons hjl,List.drop_eq_getElem_cons hjm]
      rfl
     obtain⟨⟨hd1,k1⟩,e1⟩:∃z,l[j]=z:=⟨_,rfl⟩
     obtain⟨⟨hd2,k2⟩,e2⟩:∃z,m[j]=z:=⟨_,rfl⟩
     rw[e1] at hnx hix hs
     rw[e2] at hny hiy hs
     simp only at hnx hix hny hiy
     obtain⟨op1,⟨vk1,vn1,vs1⟩,nm1,ln1,cl1⟩:=hd1
     obtain⟨op2,⟨vk2,vn2,vs2⟩,nm2,ln2,cl2⟩:=hd2
     obtain⟨ak,ck,rfl⟩:∃ak ck,kx= .slice ak k1.length ck:=⟨_,_,hix.2.choose_spec.choose_spec.1⟩
     obtain⟨ak',ck',rfl⟩:∃ak ck,ky= .slice ak k2.length ck:=⟨_,_,hiy.2.choose_spec.choose_spec.1⟩
     obtain⟨x0,x1,x2,x3,x4,x5,x6,x7⟩:=hnx
     obtain⟨y0,y1,y2,y3,y4,y5,y6,y7⟩:=hny
     simp only at x0 x1 x2 x3 x4 x5 x6 x7 y0 y1 y2 y3 y4 y5 y6 y7
     have hb2:Below wr.heap.size wr ((wr.alloc (.cells #[.int .u8 op1,.int .u8 vk1,.int .i64 vn1,.string ⟨vs1.toArray⟩,.string ⟨nm1.toArray⟩,.slice ak k1.length ck,.int .i64 ln1,.int .i64 cl1] 43)).alloc (.cells #[.int .u8 op2,.int .u8 vk2,.int .i64 vn2,.string ⟨vs2.toArray⟩,.string ⟨nm2.toArray⟩,.slice ak' k2.length ck',.int .i64 ln2,.int .i64 cl2] 43)):=((Below.refl _ wr).alloc (Nat.le_refl _) _).alloc (by simp) _
     have hc:=sameNode_any ⟨op1,(vk1,vn1,vs1),nm1,ln1,cl1⟩ ⟨op2,(vk2,vn2,vs2),nm2,ln2,cl2⟩ (.slice ak k1.length ck) (.slice ak' k2.length ck') k1 k2 _ (hix.below hb2) (hiy.below hb2)
     simp only at hc
     have HC:=hide hc
     have HS:=hide hs
     have HB:=hide (hb.out.trans (hb2.mono hb.out.size))
     have hbx:bx<wr.heap.size:=lt_of_cell x0
     have hby:by'<wr.heap.size:=lt_of_cell y0
     have i1:(0:Int)≤(j:Int):=by omega
     have i2:(j:Int)<(l.length:Int):=by omega
     have i3:(j:Int)<(m.length:Int):=by omega
     clear hb hb2 hc hs hq hix hiy hx3 hy3 e1 e2
     go_wp2_with fail
     (with_reducible refine HC.out.mono ?_)
     rintro e V ⟨rfl,hbV⟩
     have HBV:=hide (HB.out.trans (hbV.mono HB.out.size))
     have hs:=HS.out
     clear hbV HC HB HS x0 x1 x2 x3 x4 x5 x6 x7 y0 y1 y2 y3 y4 y5 y6 y7 hbx hby
     cases hz:sameZ ⟨⟨op1,(vk1,vn1,vs1),nm1,ln1,cl1⟩,k1⟩ ⟨⟨op2,(vk2,vn2,vs2),nm2,ln2,cl2⟩,k2⟩ with
     |true=>
      rw[hz,Bool.true_and] at hs
      have HS:=hide hs
      clear hs hz
      go_wp2_with fail
      go_roundw
      case rel=>exact⟨j+1,by omega,by go_num,HS,HBV⟩
      case measure=>simp [intOf];omega
     |false=>
      rw[hz,Bool.false_and] at hs
      have HS:=hide hs
      clear hs hz
      go_wp2_with fail
      go_ret
      exact⟨by rw[←HS.out];rfl,HBV.out⟩
    ·obtain rfl:j=l.length:=by omega
     have hs:=hq.out
     rw[List.drop_length,HN.out,List.drop_length] at hs
     have HS:=hide hs
     have HB:=hide hb.out
     clear hq hb hs
     go_wp2_with fail
     go_ret
     exact⟨by rw[←HS.out];rfl,HB.out⟩
  ·have hs:samesZ l m=false:=by
    cases h:samesZ l m with
    |false=>rfl
    |true=>exact absurd (by simpa using congrArg List.length ((samesZ_iff l m).1 h)) hn
   rw[hs]
   have h1:(((l.length:Nat):Int) !=((m.length:Nat):Int))=true:=by simp;omega
   clear hn hs HX HY
   go_enter Tryz.func58,Tryz.ntmps58
   go_wp2_with fail
   go_ret
   exact⟨rfl,Below.refl _ _⟩
 have HE:=hide hef
 obtain⟨_,a,c,rfl,_⟩:=hx
 obtain⟨_,a',c',rfl,_⟩:=hy
 clear hef
 go_enter Tryz.func23,Tryz.ntmps23
 go_wp2_with fail
 (with_reducible refine HE.out.mono ?_)
 rintro e V ⟨rfl,hb2⟩
 have HB:=hide hb2
 clear hb2 HE
 go_wp2_with fail
 go_ret
 exact⟨rfl,HB.out⟩
open Go Go.RowKit Go.Lib Go.Sort Go.Shelf
def ksrc1:ByteArray:=⟨#[63,97,32,43,32,50,32,42,32,51]⟩
def ksrc2:ByteArray:=⟨#[110,111,116,32,63,97,32,61,32,63]⟩
def ksrc3:ByteArray:=⟨#[49,32,60,32,50,32,60,32,51]⟩
def ksrc4:ByteArray:=⟨#[109,111,100,40,49,41]⟩
def ktree1:Ex:= .mk ⟨13,v0,[],1,4⟩ [.mk ⟨2,v0,[97],1,1⟩ [],.mk ⟨15,v0,[],1,8⟩ [.mk ⟨1,(1,2,[]),[],1,6⟩ [],.mk ⟨1,(1,3,[]),[],1,10⟩ []]]
def ktree2:Ex:= .mk ⟨6,v0,[],1,1⟩ [.mk ⟨7,v0,[],1,8⟩ [.mk ⟨2,v0,[97],1,5⟩ [],.mk ⟨3,v0,[],1,10⟩ []]]
theorem kread1:readL (dl ksrc1)= .ok ktree1:=by kernel_rfl
theorem kread2:readL (dl ksrc2)= .ok ktree2:=by kernel_rfl
theorem kread3:readL (dl ksrc3)= .error ((1,7),4):=by kernel_rfl
theorem kread4:readL (dl ksrc4)= .error ((1,6),14):=by kernel_rfl
theorem rtree {s:ByteArray}{a:Ex}(w:World)(hs:s.size≤65536)(hR:Rd w)(h:readL (dl s)= .ok a):Calls Tryz.prog 20 #[.string s] w fun e w'=>∃v,e= .returned (.tuple #[v,.agg #[.int .i64 0,.int .i64 0],.int .i64 0])∧TrIs w' w.heap.size [] v (a.flat 0)∧Below w.heap.size w w':=by
 refine(xread_any s w hs hR).mono ?_
 rintro e w' ⟨hb,he⟩
 rw[h] at he
 obtain⟨v,h1,h2⟩:=he
 exact⟨v,h1,h2,hb⟩
theorem rnone {s:ByteArray}{x y q:Int}(w:World)(hs:s.size≤65536)(hR:Rd w)(h:readL (dl s)= .error ((x,y),q)):Calls Tryz.prog 20 #[.string s] w fun e w'=>e= .returned (.tuple #[.slice none 0 0,.agg #[.int .i64 x,.int .i64 y],.int .i64 q])∧Below w.heap.size w w':=by
 refine(xread_any s w hs hR).mono ?_
 rintro e w' ⟨hb,he⟩
 rw[h] at he
 exact⟨he,hb⟩
set_option maxRecDepth 100000 in
set_option maxHeartbeats 8000000 in
theorem known07 (w:World)(hR:Rd w):Calls Tryz.prog 19 #[] w fun e w'=>e= .returned (.bool true)∧Below w.heap.size w w':=by
 have L1:=hide (rtree (s:=ksrc1) w (by decide) hR kread1)
 have HR:=hide hR
 clear hR
 unfold ksrc1 at L1
 go_enter Tryz.func19,Tryz.ntmps19
 go_wp2_with fail
 (with_reducible refine L1.out.mono ?_)
 rintro e V1 ⟨v1,rfl,ht1,hb1⟩
 have hz1:=(ht1.z (by decide) (by unfold Slim;decide))
 obtain⟨W1,hW1⟩:∃W1,V1.alloc (.cells #[.int .i64 0,.int .i64 0] 33)=W1:=⟨_,rfl⟩
 have hbW1:Below V1.heap.size V1 W1:=by rw[←hW1];exact(Below.refl _ _).alloc (Nat.le_refl _) _
 have hB1:=hb1.trans (hbW1.mono hb1.size)
 have hZ1:=hz1.below hbW1
 have L2:=hide (rtree (s:=ksrc2) W1 (by decide) (HR.out.below hB1) kread2)
 have HB1:=hide hB1
 have HZ1:=hide hZ1
 unfold ksrc2 at L2
 clear ht1 hb1 hz1 hbW1 hB1 hZ1 L1
 subst hW1
 go_wp2_with fail
 (with_reducible refine L2.out.mono ?_)
 rintro e V2 ⟨v2,rfl,ht2,hb2⟩
 have hz2:=(ht2.z (by decide) (by unfold Slim;decide))
 obtain⟨W2,hW2⟩:∃W2,V2.alloc (.cells #[.int .i64 0,.int .i64 0] 33)=W2:=⟨_,rfl⟩
 have hbW2:Below V2.heap.size V2 W2:=by rw[←hW2];exact(Below.refl _ _).alloc (Nat.le_refl _) _
 have hB2:=HB1.out.trans ((hb2.trans (hbW2.mono hb2.size)).mono HB1.out.size)
 have hZ2:=hz2.below hbW2
 have hZ1:=(HZ1.out.below hb2).below hbW2
 have L3:=hide (rnone (s:=ksrc3) W2 (by decide) (HR.out.below hB2) kread3)
 have HB2:=hide hB2
 have HZ1:=hide hZ1
 have HZ2:=hide hZ2
 unfold ksrc3 at L3
 clear ht2 hb2 hz2 hbW2 hB2 hZ1 hZ2 L2 HB1
 subst hW2
 go_wp2_with fail
 (with_reducible refine L3.out.mono ?_)
 rintro e V3 ⟨rfl,hb3⟩
 obtain⟨W3,hW3⟩:∃W3,V3.alloc (.cells #[.int .i64 1,.int .i64 7] 33)=W3:=⟨_,rfl⟩
 have hbW3:Below V3.heap.size V3 W3:=by rw[←hW3];exact(Below.refl _ _).alloc (Nat.le_refl _) _
 have hp3:=heap_alloc0 V3 (.cells #[.int .i64 1,.int .i64 7] 33)
 rw[hW3] at hp3
 have hB3:=HB2.out.trans ((hb3.trans (hbW3.mono hb3.size)).mono HB2.out.size)
 have hZ1:=(HZ1.out.below hb3).below hbW3
 have hZ2:=(HZ2.out.below hb3).below hbW3
 have L4:=hide (rnone (s:=ksrc4) W3 (by decide) (HR.out.below hB3) kread4)
 have HB3:=hide hB3
 have HZ1:=hide hZ1
 have HZ2:=hide hZ2
 have HP3:=hide hp3
 unfold ksrc4 at L4
 clear hb3 hbW3 hB3 hZ1 hZ2 hp3 L3 HB2
 go_wp2_with fail
 (with_reducible refine L4.out.mono ?_)
 rintro e V4 ⟨rfl,hb4⟩
 obtain⟨W4,hW4⟩:∃W4,V4.alloc (.cells #[.int .i64 1,.int .i64 6] 33)=W4:=⟨_,rfl⟩
 have hbW4:Below V4.heap.size V4 W4:=by rw[←hW4];exact(Below.refl _ _).alloc (Nat.le_refl _) _
 have hp4:=heap_alloc0 V4 (.cells #[.int .i64 1,.int .i64 6] 33)
 rw[hW4] at hp4
 have HB4:=hide (HB3.out.trans ((hb4.trans (hbW4.mono hb4.size)).mono HB3.out.size))
 have hZ1:=(HZ1.out.below hb4).below hbW4
 have hZ2:=(HZ2.out.below hb4).below hbW4
 have hp3:=(hbW4.block _ (Nat.lt_of_lt_of_le (lt_of_heap HP3.out) hb4.size)).trans ((hb4.block _ (lt_of_heap HP3.out)).trans HP3.out)
 obtain⟨p0,p1,_⟩:=two_cells hp3
 obtain⟨q0,q1,_⟩:=two_cells hp4
 obtain⟨_,a1,c1,rfl,hn1⟩:=hZ1
 obtain⟨_,a2,c2,rfl,hn2⟩:=hZ2
 obtain⟨b1,o1,k1,e1,hA,hI⟩:=hn1 4 (by decide)
 obtain⟨b2,o2,k2,e2,hA2,hI2⟩:=hn2 3 (by decide)
 subst e1
 subst e2
 obtain⟨_,ak,ck,rfl,hk⟩:=hI
 obtain⟨bk,ok,ek,hc⟩:=hk 1 (by decide)
 subst ek
 have f0:W4.cell? ⟨b1,o1+4*8,none⟩=some (.int .u8 13):=hA.1
 have f5:=hA.2.2.2.2.2.1
 have g0:W4.cell? ⟨b2,o2+3*8,none⟩=some (.int .u8 6):=hA2.1
 have hc':W4.cell? ⟨bk,ok+1,none⟩=some (.int .i64 3):=hc
 have l1:((ktree1.flat 0).map Nd.z).length=5:=rfl
 have l2:((ktree2.flat 0).map Nd.z).length=4:=rfl
 have l3:((ktree1.flat 0).map Nd.z)[4].kids.length=2:=rfl
 rw[l3] at f5
 rw[l1,l2]
 clear hA hA2 hI2 hk hc hn1 hn2 l1 l2 l3 hp3 hp4 hbW4 hb4 L4 HZ1 HZ2 HP3 HB3
 go_wp2_with fail
 go_ret
 exact⟨rfl,HB4.out⟩
open Go Go.RowKit
set_option maxRecDepth 100000 in
set_option maxHeartbeats 4000000 in
theorem rbehind_any {w:World}{v:Value}{ts:List Tkn}(ht:TkIs w v ts)(hc:∀t∈ts,0≤t.col∧t.col≤1000000∧t.w.t.length≤1000000)(hbig:ts.length≤1000000):
 Calls Tryz.prog 57 #[v] w fun e w'=>e= .returned (.agg #[.int .i64 (behindL ts).1,.int .i64 (behindL ts).2])∧Below w.heap.size w w':=by
 by_cases h0:ts=[]
 ·subst h0
  obtain⟨va,vc,rfl⟩:=ht.form
  simp only[List.length_nil]
  clear hc hbig ht
  go_enter Tryz.func57,Tryz.ntmps57
  go_wp2_with fail
  refine bodyPost_ret (v:= .agg #[.int .i64 1,.int .i64 1]) (by simp [results,Tryz.results57,go_sem, *]) rfl ?_
  refine⟨rfl,?_⟩
  exact(Below.refl _ w).alloc (Nat.le_refl _) _
 ·obtain⟨m,hm⟩:∃m,ts.length=m+1:=⟨ts.length - 1,by have:=List.length_pos_iff.2 h0;omega⟩
  have hml:m<ts.length:=by omega
  obtain⟨g,c,rfl,hg,t0,t1,t2,t3,t4,t5,t6⟩:=ht.at hml
  have hlast:ts.getLast? =some ts[m]:=by
   rw[List.getLast?_eq_getElem?,hm,Nat.add_sub_cancel,List.getElem?_eq_getElem hml]
  have hcc:=hc ts[m] (List.getElem_mem hml)
  have hbe:behindL ts=(ts[m].line,ts[m].col+ts[m].w.t.length+if ts[m].w.k=2∨ts[m].w.k=3∨ts[m].w.k=6 then 1 else if ts[m].w.k=5 then 2 else 0):=by
   unfold behindL
   rw[hlast]
  rw[hbe]
  obtain⟨t,he⟩:∃t,ts[m]=t:=⟨_,rfl⟩
  rw[he] at t0 t1 t2 t3 t4 t5 t6 hcc ⊢
  obtain⟨⟨tk,tt,tv1,tv2,tv3⟩,tl,tc⟩:=t
  simp only at t0 t1 t2 t3 t4 t5 t6 hcc ⊢
  rw[hm]
  obtain⟨hc1,hc2,hc3⟩:=hcc
  have hm6:m+1≤1000000:=by omega
  obtain⟨W1,hW1⟩:∃W1,w.alloc (.cells #[.int .i64 0,.int .i64 0] 33)=W1:=⟨_,rfl⟩
  have hb1:Below w.heap.size w W1:=by rw[←hW1];exact(Below.refl _ w).alloc (Nat.le_refl _) _
  have hz1:W1.heap.size=w.heap.size+1:=by rw[←hW1];simp
  have hp1:=heap_alloc0 w (.cells #[.int .i64 0,.int .i64 0] 33)
  rw[hW1] at hp1
  have t0':=bcell hb1 t0
  have t1':=bcell hb1 t1
  have t2':=bcell hb1 t2
  have t3':=bcell hb1 t3
  have t4':=bcell hb1 t4
  have t5':=bcell hb1 t5
  have t6':=bcell hb1 t6
  obtain⟨W2,hW2⟩:∃W2,W1.alloc (.cells #[.int .u8 tk,.string ⟨tt.toArray⟩,.int .u8 tv1,.int .i64 tv2,.string ⟨tv3.toArray⟩,.int .i64 tl,.int .i64 tc] 94)=W2:=⟨_,rfl⟩
  have hb2:Below W1.heap.size W1 W2:=by rw[←hW2];exact(Below.refl _ W1).alloc (Nat.le_refl _) _
  have hz2:W2.heap.size=w.heap.size+2:=by rw[←hW2];simp [hz1]
  have hp2:=heap_alloc0 W1 (.cells #[.int .u8 tk,.string ⟨tt.toArray⟩,.int .u8 tv1,.int .i64 tv2,.string ⟨tv3.toArray⟩,.int .i64 tl,.int .i64 tc] 94)
  rw[hW2,hz1] at hp2
  obtain⟨s0,s1,s2,s3,s4,s5,s6⟩:=tokCells hp2
  have hq1:=(hb2.block _ (lt_of_heap hp1)).trans hp1
  obtain⟨y0,y1,yf⟩:=two_cells hq1
  have yf0:=yf 0
  have yf1:=yf 1
  have HB3:=hide (hb1.trans (hb2.mono hb1.size))
  clear hb1 hb2 hp1 hp2 hq1 yf t0 t1 t2 t3 t4 t5 t6 hbe hlast hc he ht hbig h0
  by_cases hk:tk=2∨tk=3∨tk=6
  ·rcases hk with rfl|rfl|rfl
   ·go_enter Tryz.func57,Tryz.ntmps57
    go_wp2_with fail
    refine bodyPost_ret (v:= .agg #[.int .i64 tl,.int .i64 (tc+((tt.length:Int)+1))]) (by simp [results,Tryz.results57,go_sem, *]) rfl ?_
    refine⟨by simp [*,Int.add_assoc],?_⟩
    exact(HB3.out.setCell (by simp) _).setCell (by simp) _
   ·go_enter Tryz.func57,Tryz.ntmps57
    go_wp2_with fail
    refine bodyPost_ret (v:= .agg #[.int .i64 tl,.int .i64 (tc+((tt.length:Int)+1))]) (by simp [results,Tryz.results57,go_sem, *]) rfl ?_
    refine⟨by simp [*,Int.add_assoc],?_⟩
    exact(HB3.out.setCell (by simp) _).setCell (by simp) _
   ·go_enter Tryz.func57,Tryz.ntmps57
    go_wp2_with fail
    refine bodyPost_ret (v:= .agg #[.int .i64 tl,.int .i64 (tc+((tt.length:Int)+1))]) (by simp [results,Tryz.results57,go_sem, *]) rfl ?_
    refine⟨by simp [*,Int.add_assoc],?_⟩
    exact(HB3.out.setCell (by simp) _).setCell (by simp) _
  ·by_cases h5:tk=5
   ·subst h5
    go_enter Tryz.func57,Tryz.ntmps57
    go_wp2_with fail
    refine bodyPost_ret (v:= .agg #[.int .i64 tl,.int .i64 (tc+((tt.length:Int)+2))]) (by simp [results,Tryz.results57,go_sem, *]) rfl ?_
    refine⟨by simp [*,Int.add_assoc],?_⟩
    exact(HB3.out.setCell (by simp) _).setCell (by simp) _
   ·have j2:(tk==2)=false:=by simp at hk ⊢;omega
    have j3:(tk==3)=false:=by simp at hk ⊢;omega
    have j6:(tk==6)=false:=by simp at hk ⊢;omega
    have j5:(tk==5)=false:=by simpa using h5
    rw[if_neg hk,if_neg h5,Int.add_zero]
    clear hk h5
    go_enter Tryz.func57,Tryz.ntmps57
    go_wp2_with fail
    refine bodyPost_ret (v:= .agg #[.int .i64 tl,.int .i64 (tc+(tt.length:Int))]) (by simp [results,Tryz.results57,go_sem, *]) rfl ?_
    refine⟨by simp [*],?_⟩
    exact(HB3.out.setCell (by simp) _).setCell (by simp) _
open Go Go.RowKit
theorem rlex_ok {s:ByteArray}(w:World)(hs:s.size≤65536){ts:List Tkn}(h:lexL (dl s)= .ok ts):
 Calls Tryz.prog 55 #[.string s] w fun e w'=>∃v,e= .returned (.tuple #[v,.agg #[.int .i64 0,.int .i64 0],.int .i64 0])∧w'.ownsRow w.heap.size 94 7 v ts.length (tflat ts)∧Below w.heap.size w w':=by
 refine(rlex_any s w hs).mono ?_
 rintro e w' ⟨hb,he⟩
 rw[h] at he
 obtain⟨v,h1,h2⟩:=he
 exact⟨v,h1,h2,hb⟩
theorem rlex_er {s:ByteArray}(w:World)(hs:s.size≤65536){a b q:Int}(h:lexL (dl s)= .error (a,b,q)):
 Calls Tryz.prog 55 #[.string s] w fun e w'=>e= .returned (.tuple #[.slice none 0 0,.agg #[.int .i64 a,.int .i64 b],.int .i64 q])∧Below w.heap.size w w':=by
 refine(rlex_any s w hs).mono ?_
 rintro e w' ⟨hb,he⟩
 rw[h] at he
 exact⟨he,hb⟩
set_option maxRecDepth 100000 in
set_option maxHeartbeats 4000000 in
theorem rread_er {s:ByteArray}(w:World)(hs:s.size≤65536){a b q:Int}(h:lexL (dl s)= .error (a,b,q)):Calls Tryz.prog 21 #[.string s] w (RPost w (readL (dl s))):=by
 have hx:readL (dl s)= .error ((a,b),q):=by unfold readL;rw[h]
 have hq:q=4∨q=9:=((LX_rise _ (dl s) 1 1 (Nat.le_refl _) (by decide)).1 a b q h).2.2
 have hq1:(q !=0)=true:=by rcases hq with rfl|rfl<;>rfl
 have hq2:(q==0)=false:=by rcases hq with rfl|rfl<;>rfl
 obtain⟨W1,hW1⟩:∃W1,w.alloc (.cells #[.int .i64 0,.int .i64 0] 33)=W1:=⟨_,rfl⟩
 have hb1:Below w.heap.size w W1:=by rw[←hW1];exact(Below.refl _ w).alloc (Nat.le_refl _) _
 have hp1:=heap_alloc0 w (.cells #[.int .i64 0,.int .i64 0] 33)
 rw[hW1] at hp1
 have L1:=hide (rlex_er (s:=s) W1 hs h)
 have HB1:=hide hb1
 have HP1:=hide hp1
 rw[hx]
 clear hx h hb1 hp1 hq
 go_enter Tryz.func21,Tryz.ntmps21
 go_wp2_with fail
 (with_reducible refine L1.out.mono ?_)
 rintro e V2 ⟨rfl,hb2⟩
 have hp2:=(hb2.block _ (lt_of_heap HP1.out)).trans HP1.out
 obtain⟨V3,hV3⟩:∃V3,V2.alloc (.cells #[.int .i64 a,.int .i64 b] 33)=V3:=⟨_,rfl⟩
 have hb3:Below V2.heap.size V2 V3:=by rw[←hV3];exact(Below.refl _ V2).alloc (Nat.le_refl _) _
 have hp3:=heap_alloc0 V2 (.cells #[.int .i64 a,.int .i64 b] 33)
 rw[hV3] at hp3
 have hp4:=(hb3.block _ (lt_of_heap hp2)).trans hp2
 obtain⟨x0,x1,_⟩:=two_cells hp3
 obtain⟨y0,y1,yf⟩:=two_cells hp4
 have yf0:=yf 0
 have yf1:=yf 1
 have HB3:=hide (HB1.out.trans ((hb2.trans (hb3.mono hb2.size)).mono HB1.out.size))
 have hne:¬w.heap.size=V2.heap.size:=by have:=lt_of_heap hp2;omega
 have hne2:¬V2.heap.size=w.heap.size:=fun h=>hne h.symm
 clear hb2 hb3 hp2 hp3 hp4 yf L1 HP1
 go_wp2_with fail
 go_region
 go_wp2_with fail
 refine bodyPost_ret (v:= .tuple #[.slice none 0 0,.agg #[.int .i64 a,.int .i64 b],.int .i64 q]) (by simp [results,Tryz.results21,go_sem, *]) rfl ?_
 exact⟨((HB3.out.setCell (by simp) _).setCell (by simp) _).drew,rfl⟩
set_option maxRecDepth 100000 in
set_option maxHeartbeats 8000000 in
theorem rread_ok {s:ByteArray}(w:World)(hs:s.size≤65536){ts:List Tkn}(h:lexL (dl s)= .ok ts):Calls Tryz.prog 21 #[.string s] w (RPost w (readL (dl s))):=by
 have hlen:=(LX_bytes _ (dl s) 1 1 ts (Nat.le_refl _) h).2
 have hpl:=lex_places h
 have hsh:=lex_short h
 rw[dl_size] at hlen
 have hbig:ts.length≤1000000:=by omega
 have hcols:∀t∈ts,0≤t.col∧t.col≤1000000∧t.w.t.length≤1000000:=fun t ht=>by
  have h1:=hpl t ht
  have h2:=hsh t ht
  rw[dl_size] at h1 h2
  omega
 obtain⟨W1,hW1⟩:∃W1,w.alloc (.cells #[.int .i64 0,.int .i64 0] 33)=W1:=⟨_,rfl⟩
 have hb1:Below w.heap.size w W1:=by rw[←hW1];exact(Below.refl _ w).alloc (Nat.le_refl _) _
 have hp1:=heap_alloc0 w (.cells #[.int .i64 0,.int .i64 0] 33)
 rw[hW1] at hp1
 have L1:=hide (rlex_ok (s:=s) W1 hs h)
 have HB1:=hide hb1
 have HP1:=hide hp1
 have HL:=hide h
 have Hcols:=hide hcols
 have Hnam:=hide (lex_names h)
 clear h hb1 hp1 hcols hpl hsh hs
 go_enter Tryz.func21,Tryz.ntmps21
 go_wp2_with fail
 (with_reducible refine L1.out.mono ?_)
 rintro e V2 ⟨tv,rfl,hrow,hb2⟩
 have htk:=TkIs.of_row hrow
 obtain⟨ta,tc,rfl⟩:=htk.form
 have hp2:=(hb2.block _ (lt_of_heap HP1.out)).trans HP1.out
 obtain⟨V3,hV3⟩:∃V3,V2.alloc (.cells #[.int .i64 0,.int .i64 0] 33)=V3:=⟨_,rfl⟩
 have hb3:Below V2.heap.size V2 V3:=by rw[←hV3];exact(Below.refl _ V2).alloc (Nat.le_refl _) _
 have hp4:=(hb3.block _ (lt_of_heap hp2)).trans hp2
 have hB3:=HB1.out.trans ((hb2.trans (hb3.mono hb2.size)).mono HB1.out.size)
 have ht3:=htk.below hb3
 have hpa:Calls Tryz.prog 56 #[.slice ta ts.length tc,.int .i64 0] V3 (PPost V3 ts 0 (lvlE 0 0 ts)):=rparse0 ht3 Hnam.out hbig
 have HPA:=hide hpa
 have HB3:=hide hB3
 have HP4:=hide hp4
 have HT3:=hide ht3
 clear hb2 hp2 hb3 hp4 hB3 ht3 hpa htk hrow L1 HP1
 subst hV3
 go_wp2_with fail
 (with_reducible refine HPA.out.mono ?_)
 rintro e V4 hp
 obtain⟨v,n,e0,rfl,hn,⟨va,vk,vc,rfl⟩,hmid,hb4⟩:=mid_of (w:=w) HL.out hp HB3.out.size
 have hB4:=HB3.out.trans (hb4.mono HB3.out.size)
 have hp5:=(hb4.block _ (lt_of_heap HP4.out)).trans HP4.out
 have ht4:=HT3.out.below hb4
 have HB4:=hide hB4
 have HP5:=hide hp5
 have HT4:=hide ht4
 obtain⟨x,hx⟩:∃x,readL (dl s)=x:=⟨_,rfl⟩
 rw[hx] at hmid
 have HX:=hide hx
 clear hp hb4 hB4 hp5 ht4 HPA HP4 HT3 HL hx
 obtain⟨y0,y1,yf⟩:=two_cells HP5.out
 have yf0:=yf 0
 have yf1:=yf 1
 clear yf
 cases hmid with
 |tree a he hn' ht=>
  subst he
  subst hn'
  have HT:=hide ht
  clear ht
  go_wp2_with fail
  refine bodyPost_ret (v:= .tuple #[.slice va vk vc,.agg #[.int .i64 0,.int .i64 0],.int .i64 0]) (by simp [results,Tryz.results21,go_sem, *]) rfl ?_
  rw[HX.out]
  have hO:Only [w.heap.size] V4 ((V4.setCell ⟨w.heap.size,0,none⟩ (.int .i64 0)).setCell ⟨w.heap.size,1,none⟩ (.int .i64 0)):=(only_setCell V4 _ _ _).setCell (.inl (by simp)) _
  refine⟨(HB4.out.setCell (by simp) _).setCell (by simp) _,_,rfl,HT.out.imp (fun _ r=>owns_only r hO fun k e hm=>?_) fun v n xs hx r=>⟨owns_only r hO fun k e hm=>?_,hx⟩⟩
  ·simp at hm
   subst hm
   exact owns_not r HP5.out (by decide) e
  ·simp at hm
   subst hm
   exact owns_not r HP5.out (by decide) e
 |more t he hn'=>
  obtain⟨hnl,hte⟩:=List.getElem?_eq_some_iff.1 hn'
  obtain⟨g,c,et,hg,t0,t1,t2,t3,t4,t5,t6⟩:=HT4.out.at hnl
  injection et with e1 _ e3
  subst e1
  subst e3
  rw[hte] at t5 t6
  have i0:(0:Int)≤(n:Int):=by omega
  have i1:(n:Int)<(ts.length:Int):=by omega
  have i2:decide ((n:Int)<(ts.length:Int))=true:=by simp;omega
  have hgw:g<V4.drew.heap.size:=hg
  subst he
  clear t0 t1 t2 t3 t4 hte hn' hg
  go_wp2_with fail
  go_region
  go_wp2_with fail
  refine bodyPost_ret (v:= .tuple #[.slice none 0 0,.agg #[.int .i64 t.line,.int .i64 t.col],.int .i64 4]) (by simp [results,Tryz.results21,go_sem, *]) rfl ?_
  rw[HX.out]
  exact⟨((HB4.out.setCell (by simp) _).setCell (by simp) _).drew,rfl⟩
 |bad t he hn'=>
  obtain⟨hnl,hte⟩:=List.getElem?_eq_some_iff.1 hn'
  obtain⟨g,c,et,hg,t0,t1,t2,t3,t4,t5,t6⟩:=HT4.out.at hnl
  injection et with e1 _ e3
  subst e1
  subst e3
  rw[hte] at t5 t6
  have i0:(0:Int)≤(n:Int):=by omega
  have i1:(n:Int)<(ts.length:Int):=by omega
  have i2:decide ((n:Int)<(ts.length:Int))=true:=by simp;omega
  have hgw:g<V4.drew.heap.size:=hg
  have j1:(e0==0)=false:=by simpa using he
  have HE:=hide he
  clear he
  clear t0 t1 t2 t3 t4 hte hn' hg
  go_wp2_with fail
  go_region
  go_wp2_with fail
  refine bodyPost_ret (v:= .tuple #[.slice none 0 0,.agg #[.int .i64 t.line,.int .i64 t.col],.int .i64 e0]) (by simp [results,Tryz.results21,go_sem, *]) rfl ?_
  rw[HX.out]
  exact⟨((HB4.out.setCell (by simp) _).setCell (by simp) _).drew,rfl⟩
 |end' he hn'=>
  subst hn'
  have hbe:=rbehind_any HT4.out Hcols.out hbig
  have j1:(e0==0)=false:=by simpa using he
  have Hbe:=hide hbe
  clear he hbe
  go_wp2_with fail
  (with_reducible refine Hbe.out.mono ?_)
  rintro e V5 ⟨rfl,hb5⟩
  have hp6:=(hb5.block _ (lt_of_heap HP5.out)).trans HP5.out
  obtain⟨y0,y1,yf⟩:=two_cells hp6
  have yf0:=yf 0
  have yf1:=yf 1
  have HB5:=hide (HB4.out.trans (hb5.mono HB4.out.size))
  clear hp6 hb5 yf Hbe
  go_wp2_with fail
  refine bodyPost_ret (v:= .tuple #[.slice none 0 0,.agg #[.int .i64 (behindL ts).1,.int .i64 (behindL ts).2],.int .i64 e0]) (by simp [results,Tryz.results21,go_sem, *]) rfl ?_
  rw[HX.out]
  exact⟨(HB5.out.setCell (by simp) _).setCell (by simp) _,rfl⟩
theorem rread_any (s:ByteArray)(w:World)(hs:s.size≤65536):Calls Tryz.prog 21 #[.string s] w (RPost w (readL (dl s))):=by
 cases h:lexL (dl s) with
 |error p=>exact rread_er w hs (a:=p.1) (b:=p.2.1) (q:=p.2.2) h
 |ok ts=>exact rread_ok w hs h
open Go Go.RowKit Go.Lib Go.Sort Go.Shelf
def kidsL (op:Int):Nat×Nat:=if(4≤op∧op≤5)∨(7≤op∧op≤16)∨op=21∨op=24∨op=25 then(2,2) else if op=6∨op=17∨op=18∨op=22∨op=23 then(1,1)
 else if op=19∨op=20 then(1,8) else if op=26 then(3,3) else(0,0)
structure NodeOk (h:Hd)(k:Nat):Prop where
 few:(kidsL h.op).1≤k
 many:k≤(kidsL h.op).2
 op1:1≤h.op
 op2:h.op≤26
 line:1≤h.line
 col:1≤h.col
 v:h.op≠1→h.v=v0
 name:h.op=2→nameL h.name=true
 anon:h.op≠2→h.name=[]
theorem nodeOk_mk {h:Hd}{k:Nat}(o:Int)(ho:h.op=o)(hk:(kidsL o).1≤k∧k≤(kidsL o).2∧1≤o∧o≤26)(hl:1≤h.line)(hc:1≤h.col)(hv:o≠1→h.v=v0)(hn:o=2→nameL h.name=true)(ha:o≠2→h.name=[]):NodeOk h k:=by
 subst ho
 exact⟨hk.1,hk.2.1,hk.2.2.1,hk.2.2.2,hl,hc,hv,hn,ha⟩
theorem infix_in {r:List Tkn}:∀{l:List (List UInt8×Int)},infixH r l≠0→infixH r l∈l.map Prod.snd
 |[],h=>absurd rfl h
 |(s,o)::l,h=>by
  unfold infixH at h ⊢
  by_cases e:isH s r=true
  ·rw[if_pos e]
   exact List.mem_cons_self
  ·rw[if_neg e] at h ⊢
   exact List.mem_cons_of_mem _ (infix_in h)
theorem opsL_range (n:Nat):∀o∈(opsL n).map Prod.snd,(4≤o∧o≤5)∨(7≤o∧o≤16):=by
 unfold opsL
 repeat' split
 all_goals first|decide|(intro o ho;cases ho)
theorem read_nodes {l:List UInt8}{ts:List Tkn}(h:lexL l= .ok ts){a:Ex}{q:List Tkn}(hx:lvlE 0 0 ts= .ok (a,q)):a.All NodeOk:=by
 refine exE_all (P:=NodeOk) (W:=fun t=>Form t.w∧1≤t.line∧1≤t.col) ?_ ?_ ?_ ?_ (.lvl 0) 0 ts (by show 0≤7;omega) trivial (fun t ht=>⟨lex_form h t ht,(lex_places h t ht).1,(lex_places h t ht).2.2.1⟩) a q hx
 ·rintro t hd ⟨hf,hl,hc⟩ he
  unfold leafH at he
  by_cases h1:t.w.k=4∨t.w.k=5∨t.w.k=6
  ·rw[if_pos h1] at he
   injection he with he
   subst he
   exact nodeOk_mk 1 rfl (by decide) hl hc (fun e=>absurd rfl e) (fun e=>absurd e (by decide)) fun _=>rfl
  rw[if_neg h1] at he
  by_cases h2:t.w.k=2
  ·rw[if_pos h2] at he
   injection he with he
   subst he
   refine nodeOk_mk 2 rfl (by decide) hl hc (fun _=>rfl) (fun _=>?_) fun e=>absurd rfl e
   show nameL t.w.t=true
   cases hf with
   |var _ ht _=>exact ht
   |name h _ _=>omega
   |self h _ _=>omega
   |num h _ _=>omega
   |str h _ _ _=>omega
   |sym h _ _=>omega
   |sign h _ _=>omega
  rw[if_neg h2] at he
  by_cases h3:t.w.k=3
  ·rw[if_pos h3] at he
   injection he with he
   subst he
   exact nodeOk_mk 3 rfl (by decide) hl hc (fun _=>rfl) (fun e=>absurd e (by decide)) fun _=>rfl
  rw[if_neg h3] at he
  by_cases h4:t.w.k=1
  ·rw[if_pos h4] at he
   cases hcl:callL t.w.t with
   |some c=>rw[hcl] at he;cases he
   |none=>
    rw[hcl] at he
    cases hll:litL t.w.t with
    |none=>rw[hll] at he;cases he
    |some v=>
     rw[hll] at he
     injection he with he
     subst he
     exact nodeOk_mk 1 rfl (by decide) hl hc (fun e=>absurd rfl e) (fun e=>absurd e (by decide)) fun _=>rfl
  ·rw[if_neg h4] at he
   cases he
 ·rintro n t hn ⟨hf,hl,hc⟩
  rcases hn with rfl|rfl
  ·exact nodeOk_mk 6 rfl (by decide) hl hc (fun _=>rfl) (fun e=>absurd e (by decide)) fun _=>rfl
  ·exact nodeOk_mk 17 rfl (by decide) hl hc (fun _=>rfl) (fun e=>absurd e (by decide)) fun _=>rfl
 ·rintro n t r ⟨hf,hl,hc⟩ hz
  have ho:=opsL_range n _ (infix_in hz)
  obtain⟨o,hoo⟩:∃o,infixH (t::r) (opsL n)=o:=⟨_,rfl⟩
  rw[hoo] at ho ⊢
  have hk:kidsL o=(2,2):=by
   unfold kidsL
   rw[if_pos (by omega)]
  refine⟨?_,?_,?_,?_,hl,hc,fun _=>rfl,fun e=>?_,fun _=>rfl⟩
  ·show(kidsL o).1≤2
   rw[hk]
   decide
  ·show 2≤(kidsL o).2
   rw[hk]
   decide
  ·show 1≤o
   omega
  ·show o≤26
   omega
  ·have:o=2:=e
   omega
 ·rintro t c k ⟨hf,hl,hc⟩ he h1 h2
  obtain⟨_,hcl,hln,hco,_⟩:=callH_le he
  have hk:kidsL c.op=(c.least,c.most)∧18≤c.op∧c.op≤26:=by
   unfold callL at hcl
   repeat' split at hcl
   all_goals first|(injection hcl with hcl;injection hcl with e1 e2;injection e2 with e2 e3;rw[←e1,←e2,←e3];decide)|cases hcl
  refine⟨?_,?_,?_,?_,?_,?_,fun _=>rfl,fun e=>?_,fun _=>rfl⟩
  ·show(kidsL c.op).1≤k
   rw[hk.1]
   exact h1
  ·show k≤(kidsL c.op).2
   rw[hk.1]
   exact h2
  ·show 1≤c.op
   omega
  ·show c.op≤26
   omega
  ·show 1≤c.line
   omega
  ·show 1≤c.col
   omega
  ·have:c.op=2:=e
   omega
open Go Go.RowKit Go.Lib Go.Sort Go.Shelf
def NumsAt (w:World)(b:Nat)(l:List Nat):Prop:=w.heap[b]? =some (.cells (nums l).toArray 3 (0,0))
theorem NumsAt.cell {w:World}{b:Nat}{l:List Nat}(h:NumsAt w b l){i:Nat}{x:Nat}(hx:l[i]? =some x):w.cell? ⟨b,i,none⟩=some (.int .i64 (x:Int)):=by
 unfold NumsAt at h
 simp only[World.cell?,h]
 simp [nums,hx]
theorem NumsAt.frozen {w:World}{b:Nat}{l:List Nat}(h:NumsAt w b l)(i:Nat):w.frozen? ⟨b,i,none⟩=false:=by
 unfold NumsAt at h
 simp only[World.frozen?,h]
 simp
theorem NumsAt.set {w:World}{b:Nat}{l:List Nat}(h:NumsAt w b l)(i x:Nat):NumsAt (w.setCell ⟨b,i,none⟩ (.int .i64 (x:Int))) b (l.set i x):=by
 unfold NumsAt at h ⊢
 rw[setCell_heap h]
 congr 2
 apply Array.ext'
 simp [nums,List.map_set]
theorem NumsAt.below {w w':World}{b:Nat}{l:List Nat}(h:NumsAt w b l)(hb:Below w.heap.size w w'):NumsAt w' b l:=(hb.block b (lt_of_heap h)).trans h
theorem readL_ok {l:List UInt8}{a:Ex}(h:readL l= .ok a):∃ts,lexL l= .ok ts∧lvlE 0 0 ts= .ok (a,[])∧a.size≤60:=by
 unfold readL at h
 cases hl:lexL l with
 |error e=>rw[hl] at h;cases h
 |ok ts=>
  rw[hl] at h
  simp only at h
  cases hx:lvlE 0 0 ts with
  |error e=>rw[hx] at h;cases h
  |ok x=>
   obtain⟨b,q⟩:=x
   rw[hx] at h
   simp only at h
   split at h
   ·cases h
   ·rename_i h60
    split at h
    ·rename_i hq
     injection h with h
     subst h
     subst hq
     exact⟨ts,rfl,hx,by omega⟩
    ·cases h
theorem read_all {l:List UInt8}{a:Ex}(h:readL l= .ok a):a.All NodeOk:=by
 obtain⟨ts,h1,h2,_⟩:=readL_ok h
 exact read_nodes h1 h2
theorem kidsL_le (op:Int):(kidsL op).2≤8:=by
 unfold kidsL
 repeat' split
 all_goals decide
theorem read_slim {l:List UInt8}{a:Ex}(h:readL l= .ok a):Slim (a.flat 0):=fun n hn=>by
 have h1:=flat_all a 0 (read_all h) n hn
 have h2:=h1.many
 have h3:=kidsL_le n.h.op
 omega
open Go Go.RowKit Go.Lib Go.Sort Go.Shelf
def zOf:Except ((Int×Int)×Int) Ex→List Nz
 | .ok a=>(a.flat 0).map Nd.z
 | .error _=>[]
def pOf:Except ((Int×Int)×Int) Ex→(Int×Int)×Int
 | .ok _=>((0,0),0)
 | .error p=>p
theorem RPost.z {w w':World}{l:List UInt8}{e:Ending}(h:RPost w (readL l) e w'):∃a k c,e= .returned (.tuple #[.slice a k c,.agg #[.int .i64 (pOf (readL l)).1.1,.int .i64 (pOf (readL l)).1.2],.int .i64 (pOf (readL l)).2])∧TrZ w' (.slice a k c) (zOf (readL l))∧Below w.heap.size w w':=by
 obtain⟨hb,h⟩:=h
 cases hr:readL l with
 |error p=>
  rw[hr] at h
  exact⟨none,0,0,h,⟨Nat.zero_le _,none,0,rfl,fun i hi=>absurd hi (Nat.not_lt_zero _)⟩,hb⟩
 |ok a=>
  rw[hr] at h
  obtain⟨v,he,ht⟩:=h
  obtain⟨_,_,_,h60⟩:=readL_ok hr
  have hz:=ht.z (by rw[Ex.flat_len];omega) (read_slim hr)
  obtain⟨_,a',c,hv,_⟩:=id hz
  subst hv
  exact⟨a',_,c,he,hz,hb⟩
def RedPost (w:World)(l:List Nz)(x y q:Int)(e:Ending)(w':World):Prop:=
 ∃a k c,e= .returned (.tuple #[.slice a k c,.agg #[.int .i64 x,.int .i64 y],.int .i64 q])∧TrZ w' (.slice a k c) l∧Below w.heap.size w w'
end Go.Proofs.YtgfakdobajgnfaaGreatDoor

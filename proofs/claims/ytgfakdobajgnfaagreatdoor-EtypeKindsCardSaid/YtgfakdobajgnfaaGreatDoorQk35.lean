import Derived.Test.YtgfakdobajgnfaaGreatDoorQk17
set_option maxRecDepth 100000
set_option maxHeartbeats 16000000
namespace Go.Proofs.YtgfakdobajgnfaaGreatDoor
open Go Go.ChangeShapes Go.WideShapes Go.ChangeAt Go.RowKit Go.Deep Go.Lib
theorem Lg {H:Type}{P:Program}{e:TypeId}:∀{l:List (DataW H)} {d:DataW H},d∈l->∀n∈d.weights P e,n∈DataW.weightsAll P e l
 |_::r,_,.head _,n,hn=>by rw[DataW.weightsAll];exact List.mem_append_left _ hn
 |_::r,_,.tail _ hm,n,hn=>by rw[DataW.weightsAll];exact List.mem_append_right _ (Lg hm n hn)
theorem Ic {H:Type}{P:Program}:∀{ts:List TypeId} {l:List (DataW H)} {i:Nat} {t:TypeId} {d:DataW H},ts[i]? =some t->l[i]? =some d->∀n∈d.weights P t,n∈DataW.weightsEach P ts l
 |[],_,i,_,_,h,_,_,_=>by simp at h
 |_::_,[],i,_,_,_,h,_,_=>by simp at h
 |t::ts,d::l,0,_,_,h1,h2,n,hn=>by
  simp only[List.getElem?_cons_zero,Option.some.injEq] at h1 h2;subst h1 h2;rw[DataW.weightsEach];exact List.mem_append_left _ hn
 |t::ts,d::l,i+1,_,_,h1,h2,n,hn=>by
  simp only[List.getElem?_cons_succ] at h1 h2;rw[DataW.weightsEach];exact List.mem_append_right _ (Ic h1 h2 n hn)
theorem Vi {H:Type}{P:Program}{t e:TypeId}(f:P.underlying t=some (.slice e)){c g:List (DataW H)}{d:DataW H}(hd:d∈c):∀n∈d.weights P e,n∈(DataW.slice c g).weights P t:=fun n h=>by
 rw[DataW.weights,f];exact Aj _ (List.mem_append_left _ (Lg hd n h))
theorem Wi {H:Type}{P:Program}{t e:TypeId}(f:P.underlying t=some (.slice e)){c d:List (DataW H)}:(c.length+d.length)*P.bytesOf e∈(DataW.slice c d).weights P t:=by
 rw[DataW.weights,f];exact Ai
theorem Gy {H:Type}{P:Program}{t:TypeId}{c:Array Field}(e:P.underlying t=some (.struct c)){l:List (DataW H×List MemPlace)}{i:Nat}{f:Field}{d:DataW H×List MemPlace}(g:c[i]? =some f)(hd:l[i]? =some d):
 ∀n∈d.1.weights P f.type,n∈(DataW.agg (l.map (·.1))).weights P t:=fun n h=>by
 rw[DataW.weights,e];refine Ic (i:=i) (t:=f.type) ?_ (by rw[List.getElem?_map,hd];rfl) n h;rw[List.getElem?_map,Array.getElem?_toList,g];rfl
structure Na where
 h:Hd
 a:Option Addr
 n:Nat
 c:Nat
def Na.kv (x:Na):Value:= .slice x.a x.n x.c
structure Na.Ok (w:World)(x:Na):Prop where
 op0:0<=x.h.op
 op1:x.h.op<=255
 v0: -9223372036854775808<=x.h.v.2.1
 v1:x.h.v.2.1<=9223372036854775807
 s:x.h.v.2.2.length<=reachBytes
 name:x.h.name.length<=reachBytes
 n:x.n<=reachBytes
 kids:x.n<=1000000->∃ks,ks.length=x.n/\Et w x.kv ks
 nil:x.a=none->x.n=0/\x.c=0
def Sk (w:World)(v:Value)(l:List Na):Prop:=l.length<=maxLen/\∃a c,v= .slice a l.length c/\∀i (h:i<l.length),∃b off,a=some ⟨b,off,none⟩/\Mt w b (off+i*8) l[i].h l[i].kv/\l[i].Ok w
theorem Na.Ok.below {w w':World}{x:Na}(h:x.Ok w)(c:Below w.heap.size w w'):x.Ok w':=
 ⟨h.op0,h.op1,h.v0,h.v1,h.s,h.name,h.n,fun q=>by obtain⟨ks,d,e⟩:=h.kids q;exact⟨ks,d,e.below c⟩,h.nil⟩
theorem Sk.below {w w':World}{v:Value}{l:List Na}(h:Sk w v l)(d:Below w.heap.size w w'):Sk w' v l:=by
 obtain⟨f,a,c,g,j⟩:=h;refine⟨f,a,c,g,fun i k=>?_⟩;obtain⟨b,off,e,m,n⟩:=j i k;exact⟨b,off,e,m.below d,n.below d⟩
theorem Sk.z {w:World}{v:Value}{l:List Na}(h:Sk w v l)(C:l.length<=1000000)(r:∀x∈l,x.n<=1000000):
 ∃zs:List Nz,zs.length=l.length/\(∀i (k:i<l.length) (f:i<zs.length),zs[i].h=l[i].h/\zs[i].kids.length=l[i].n/\Et w l[i].kv zs[i].kids)/\TrZ w v zs:=by
 obtain⟨k,a,c,f,m⟩:=h
 obtain⟨zs,o,p⟩:=Ia (fun i (z:Nz)=>∃h:i<l.length,z.h=l[i].h/\z.kids.length=l[i].n/\Et w l[i].kv z.kids) l.length (fun i d=>by
  obtain⟨b,off,e,q,ok⟩:=m i d;obtain⟨ks,u,y⟩:=ok.kids (r _ (List.getElem_mem d))
  exact⟨⟨l[i].h,ks⟩,d,rfl,u,y⟩)
 refine⟨zs,o,fun i k f=>?_,by omega,a,c,by rw[o];exact f,fun i d=>?_⟩
 ·obtain⟨_,g,A,j⟩:=p i f;exact⟨g,A,j⟩
 obtain⟨b,off,e,q,_⟩:=m i rF;obtain⟨_,g,_,j⟩:=p i d;exact⟨b,off,l[i].kv,e,by rw[g];exact q,j⟩
section
variable {H:Type} {enc:TypeId×Value->H} {w:World} {base:Nat} {spare:Nat->Bool} {held:Bool}
theorem eE {fuel:Nat}{v:Value}{x:DataW H×List MemPlace}(h:DataW.trod enc Tryz.prog w base spare held fuel 41 [v]=some x)(E:∀k∈x.1.weights Tryz.prog 41,k<=reachBytes):
 ∃a n c,v= .slice a n c/\n<=reachBytes/\(n<=1000000->∃ks:List Int,ks.length=n/\Et w v ks)/\(a=none->n=0/\c=0):=by
 rcases open_slice Tryz.underlying41 h with ⟨f,_⟩|⟨a,len,g,m,n,D,R,f,T,F,u,G,rfl,q⟩
 ·simp only[List.cons.injEq,and_true] at f;subst f;exact⟨none,0,0,rfl,Nat.zero_le _,fun _=>⟨[],rfl,by simp,none,0,rfl,fun i q=>by simp at q⟩,fun _=>⟨rfl,rfl⟩⟩
 simp only[List.cons.injEq,and_true] at f;subst f;have j:=E _ (Wi Tryz.underlying41);rw[show Tryz.prog.bytesOf 3=8 from by kernel_rfl] at j;simp only[List.length_map,List.length_range] at j;refine⟨some a,len,g,rfl,by omega,fun U=>?_,fun e=>by cases e⟩;have I:len<=m:=by rw[G];split<;>omega
 have d:∀i,i<len->∃z:Int,w.cell? (a.add i)=some (.int .i64 z):=by
  intro i o;obtain⟨L,p,M⟩:=q i rF;rw[show Tryz.prog.cellsOf 3=1 from by kernel_rfl] at p;obtain⟨z,N,_,_⟩:=DataW.trod_int Tryz.underlying3 M;obtain⟨_,O,r⟩:=World.cells?_some p
  have:=r 0 rF
  subst N;exact⟨z,by simpa[Addr.add] using this⟩
 obtain⟨l,y,A⟩:=Ia _ len d;refine⟨l,y,by omega,some a,g,by rw[y],fun i o=>?_⟩;have C:=Ke (by simpa[Addr.add] using A 0 rF)
 have:=A i o
 rw[C] at this;refine⟨a.block,a.off,by rw[C],?_⟩;simpa only[Addr.add_lit] using this
theorem aY {fuel:Nat}{v:Value}{x:DataW H×List MemPlace}(h:DataW.trod enc Tryz.prog w base spare held fuel 31 [v]=some x)(hw:∀k∈x.1.weights Tryz.prog 31,k<=reachBytes):∃l,Sk w v l:=by
 rcases open_slice Tryz.underlying31 h with ⟨R,_⟩|⟨a,len,f8,m,n,D,Pl,R,hb,w9,w8,hm,rfl,d⟩
 ·simp only[List.cons.injEq,and_true] at R;subst R;exact⟨[],Nat.zero_le _,none,0,rfl,fun i d=>by simp at d⟩
 simp only[List.cons.injEq,and_true] at R;subst R;have x8:len<=m:=by rw[hm];split<;>omega
 have f9:∀i,i<len->a=⟨a.block,a.off,none⟩:=by
  intro i e;obtain⟨cs,f,ht⟩:=d 0 rF;rw[show Tryz.prog.cellsOf 43=8 from by kernel_rfl] at f;obtain⟨g,i6,c⟩:=World.cells?_some f;have L:=c 0 rF;rw[Ag rF] at L;exact Ke (a:=a) L
 have A:∀i,i<len->∃x:Na,Mt w a.block (a.off+i*8) x.h x.kv/\x.Ok w/\w.cell? (a.add (i*8))=some (.int .u8 x.h.op):=by
  intro i e;obtain⟨cs,f,ht⟩:=d i rF;rw[show Tryz.prog.cellsOf 43=8 from by kernel_rfl] at f;obtain⟨C,T,_,i7,g,U,V⟩:=DataW.trod_struct Tryz.underlying43 ht;have hD:D i= .agg (C.map (·.1)):=Ar Prod.fst i7;have M:∀k∈(DataW.agg (C.map (·.1))).weights Tryz.prog 43,k<=reachBytes:=fun k F=>hw k (Vi Tryz.underlying31 (List.mem_map.2 ⟨i,List.mem_range.2 e,rfl⟩) k (by rw[hD];exact F))
  rw[show Tryz.prog.cellsOf 43=8 from by kernel_rfl] at g;obtain⟨_,i6,c⟩:=World.cells?_some f
  obtain⟨G,j,o,p,I,E,r,u,rfl⟩:∃G j o p I E r u,cs=[G,j,o,p,I,E,r,u]:=by
   match cs,g with
   |[G,j,o,p,I,E,r,u],_=>exact⟨_,_,_,_,_,_,_,_,rfl⟩
  have q:∀i,i<5->∃y,C[i]? =some y:=fun i d=>⟨C[i]'(by rw[U];exact d),Ag (by rw[U];exact d)⟩
  obtain⟨y0,j8⟩:=q 0 rF;obtain⟨y1,W⟩:=q 1 rF;obtain⟨y2,X⟩:=q 2 rF;obtain⟨y3,Y⟩:=q 3 rF;obtain⟨y4,j9⟩:=q 4 rF;have g0:DataW.trod enc Tryz.prog w base spare held T 5 (([G,j,o,p,I,E,r,u].drop 0).take (Tryz.prog.cellsOf 5))=C[0]?:=V 0 _ rfl;rw[show Tryz.prog.cellsOf 5=1 from by kernel_rfl] at g0;have g1:DataW.trod enc Tryz.prog w base spare held T 23 (([G,j,o,p,I,E,r,u].drop 1).take (Tryz.prog.cellsOf 23))=C[1]?:=V 1 _ rfl;rw[show Tryz.prog.cellsOf 23=3 from by kernel_rfl] at g1;have g2:DataW.trod enc Tryz.prog w base spare held T 9 (([G,j,o,p,I,E,r,u].drop 4).take (Tryz.prog.cellsOf 9))=C[2]?:=V 2 _ rfl;rw[show Tryz.prog.cellsOf 9=1 from by kernel_rfl] at g2;have g3:DataW.trod enc Tryz.prog w base spare held T 41 (([G,j,o,p,I,E,r,u].drop 5).take (Tryz.prog.cellsOf 41))=C[3]?:=V 3 _ rfl;rw[show Tryz.prog.cellsOf 41=1 from by kernel_rfl] at g3;have g4:DataW.trod enc Tryz.prog w base spare held T 33 (([G,j,o,p,I,E,r,u].drop 6).take (Tryz.prog.cellsOf 33))=C[4]?:=V 4 _ rfl;rw[show Tryz.prog.cellsOf 33=2 from by kernel_rfl] at g4;obtain⟨op,e0,_,F⟩:=DataW.trod_int Tryz.underlying5 (g0.trans j8);obtain⟨nm,e4,k8,_⟩:=DataW.trod_string Tryz.underlying9 (g2.trans X);have l7:nm.data.toList.length<=reachBytes:=M _ (Gy Tryz.underlying43 (i:=2) rfl X _ (by rw[k8,DataW.weights];exact List.mem_singleton.2 rfl));obtain⟨ka,kn,kc,e5,n9,p8,Z⟩:=eE (v:=E) (g3.trans Y) (fun k F=>M k (Gy Tryz.underlying43 (i:=3) rfl Y k F));obtain⟨O,n2,_,eu,_,a8,hg⟩:=DataW.trod_struct Tryz.underlying23 (g1.trans W);have r7:∀k∈(DataW.agg (O.map (·.1))).weights Tryz.prog 23,k<=reachBytes:=fun k F=>M k (Gy Tryz.underlying43 (i:=1) rfl W k (by rw[eu];exact F))
  obtain⟨ps,n3,_,_,_,b7,hq⟩:=DataW.trod_struct Tryz.underlying33 (g4.trans j9);have N:∀i,i<3->∃y,O[i]? =some y:=fun i d=>⟨O[i]'(by rw[a8];exact d),Ag (by rw[a8];exact d)⟩
  have b8:∀i,i<2->∃y,ps[i]? =some y:=fun i d=>⟨ps[i]'(by rw[b7];exact d),Ag (by rw[b7];exact d)⟩
  obtain⟨u0,r8⟩:=N 0 rF;obtain⟨u1,r9⟩:=N 1 rF;obtain⟨u2,d8⟩:=N 2 rF;obtain⟨p0,s7⟩:=b8 0 rF;obtain⟨p1,s8⟩:=b8 1 rF;have f0:DataW.trod enc Tryz.prog w base spare held n2 5 (([j,o,p].drop 0).take (Tryz.prog.cellsOf 5))=O[0]?:=hg 0 _ rfl;rw[show Tryz.prog.cellsOf 5=1 from by kernel_rfl] at f0;have f1:DataW.trod enc Tryz.prog w base spare held n2 2 (([j,o,p].drop 1).take (Tryz.prog.cellsOf 2))=O[1]?:=hg 1 _ rfl;rw[show Tryz.prog.cellsOf 2=1 from by kernel_rfl] at f1;have f2:DataW.trod enc Tryz.prog w base spare held n2 9 (([j,o,p].drop 2).take (Tryz.prog.cellsOf 9))=O[2]?:=hg 2 _ rfl;rw[show Tryz.prog.cellsOf 9=1 from by kernel_rfl] at f2;have r0:DataW.trod enc Tryz.prog w base spare held n3 3 (([r,u].drop 0).take (Tryz.prog.cellsOf 3))=ps[0]?:=hq 0 _ rfl;rw[show Tryz.prog.cellsOf 3=1 from by kernel_rfl] at r0;have r1:DataW.trod enc Tryz.prog w base spare held n3 3 (([r,u].drop 1).take (Tryz.prog.cellsOf 3))=ps[1]?:=hq 1 _ rfl;rw[show Tryz.prog.cellsOf 3=1 from by kernel_rfl] at r1;obtain⟨vk,e1,_,x9⟩:=DataW.trod_int Tryz.underlying5 (f0.trans r8);obtain⟨vn,e2,_,f7⟩:=DataW.trod_int Tryz.underlying2 (f1.trans r9);obtain⟨vs,e3,s9,_⟩:=DataW.trod_string Tryz.underlying9 (f2.trans d8);have w7:vs.data.toList.length<=reachBytes:=r7 _ (Gy Tryz.underlying23 (i:=2) rfl d8 _ (by rw[s9,DataW.weights];exact List.mem_singleton.2 rfl));obtain⟨ln,e6,_,_⟩:=DataW.trod_int Tryz.underlying3 (r0.trans s7);obtain⟨cl,e7,_,_⟩:=DataW.trod_int Tryz.underlying3 (r1.trans s8);simp only[List.drop_zero,List.drop_succ_cons,List.take_succ_cons,List.take_zero,List.cons.injEq,and_true] at e0 e1 e2 e3 e4 e6 e7;subst e0 e1 e2 e3 e4 e5 e6 e7;have L:=c 0 rF;have h1:=c 1 rF;have h2:=c 2 rF;have h3:=c 3 rF;have h4:=c 4 rF;have h5:=c 5 rF;have h6:=c 6 rF;have h7:=c 7 rF;rw[f9 i e] at L h1 h2 h3 h4 h5 h6 h7 ⊢;simp only[Addr.add_lit,Nat.add_zero] at L h1 h2 h3 h4 h5 h6 h7 ⊢;refine⟨⟨⟨op,(vk,vn,vs.data.toList),nm.data.toList,ln,cl⟩,ka,kn,kc⟩,⟨L,h1,h2,h3,h4,h5,h6,h7⟩,⟨(nF F).1,(nF F).2,(pF f7).1,(pF f7).2,w7,l7,n9,p8,Z⟩,L⟩
 obtain⟨l,hl,hp⟩:=Ia _ len A;refine⟨l,by omega,some a,f8,by rw[hl],fun i e=>?_⟩;have hs:=Ke (hp 0 rF).2.2;simp only[Nat.zero_mul,Addr.add,if_true] at hs;obtain⟨q1,q2,_⟩:=hp i e;exact⟨a.block,a.off,by rw[hs],q1,q2⟩
end
open Go Go.ChangeShapes Go.WideShapes Go.ChangeAt Go.RowKit Go.Lib Go.ChangeMaps
theorem Uv {H:Type}{enc:TypeId×Value->H}{a:Assume}{C:Checked}{os:Os}{f:FuncId}{fn:Func}{s:ChangeSpec}{n:List PathCond}{apart o h p:Bool}{X:World->Array Value->Prop}
 (N:∀(w w':World) (args:Array Value),w.heap=w'.heap->X w args->X w' args)
 (own:ownKnob C.prog.godebug=none) (q:os.Started) (u:C.prog.inits.idxOf? f=none) (D:C.prog.funcs[f]? =some fn)
 (r:∃(w:World) (c:Tape) (i:Input),w.os=os/\(w.forCall c i).Shaped C.prog/\i.vars=[]/\Input.okWide C.prog (w.forCall c i) .any w.heap.size f i/\
  ((s.pre enc C.prog fn n apart (w.forCall c i).memory i.args/\X (w.forCall c i).memory i.args)/\sizedMet enc C.prog fn (OpenSpec.ofChange s) apart (w.forCall c i).memory i.args)/\a.holds C.prog (lone (Frame.enter C.prog f i.args .normal) [] (w.forCall c i)))
 (m:∀(W:World) (base:Nat) (args:Array Value) (A E:List (DataW H)) (before:List MemPlace),
  (∀(j:Nat) t v,fn.params[j]? =some t->args[j]? =some v->Value.okWide C.prog W .any base t v)->
  DataW.Whole enc C.prog fn.params.toList s.vars apart W args.toList A E before->W.ShapedOpen C.prog->X W args->
  (∀(j:Nat) t d,fn.params.toList[j]? =some t->A[j]? =some d->∀k∈d.weights C.prog t,k<=reachBytes)->
  Calls C.prog f args W fun e G=>∃v,e= .returned v/\s.post enc C.prog fn apart o h p W args v G):
 ReturnsInHanded a C os f .any (fun w args=>(s.pre enc C.prog fn n apart w args/\X w args)/\sizedMet enc C.prog fn (OpenSpec.ofChange s) apart w args) (s.post enc C.prog fn apart o h p):=by
 refine returnsInHanded_of_calls own q u r ?_;intro w c i _ x _ F O _;obtain⟨_,_,_,g,R,_,_,_,_,T⟩:=F;obtain rfl:g=fn:=Option.some.inj (R.symm.trans D);obtain⟨⟨⟨A,E,before,I,_⟩,U⟩,V⟩:=O;have y:=V.weights I;refine(m (w.forCall c i) w.heap.size i.args A E before T (DataW.Whole.of_heap (w':=w.forCall c i) tI I) x (N _ _ _ tI U) (fun j t d L M k Y=>?_)).mono ?_
 ·have:=List.all_eq_true.1 y k (Ic (i:=j) (t:=t) (by rw[List.getElem?_append_left (List.getElem?_eq_some_iff.1 L).1];exact L) (by rw[List.getElem?_append_left (List.getElem?_eq_some_iff.1 M).1];exact M) k Y)
  simpa using this
 rintro e G ⟨v,rfl,Z⟩;exact ChangeSpec.post_blind Z
theorem dU {H:Type}{enc:TypeId×Value->H}{w:World}{base:Nat}{spare:Nat->Bool}{held:Bool}{v:Value}{d:DataW H}{p:List MemPlace}{r:Reach}{c:Nat}
 (e:Value.okWide Tryz.prog w r c 31 v) (h:DataW.Trod enc Tryz.prog w base spare held 31 v d p) (f:∀k∈d.weights Tryz.prog 31,k<=reachBytes):∃l,Sk w v l:=by
 obtain⟨g,i,j,rfl⟩:=okWide_slice Tryz.underlying31 e;obtain⟨fuel,h⟩:=h;exact aY h f
open Go Go.RowKit Go.Lib
def J7 (l:List Na):Nat:=(l.map fun x=>x.h.name.length+x.h.v.2.2.length+x.n).sum
def Vn (l:List Na):Bool:=decide (70<l.length)||decide (3000<J7 l)
theorem Uh {l:List Na}{j:Nat}(c:j<l.length):J7 (l.take (j+1))=J7 (l.take j)+(l[j].h.name.length+l[j].h.v.2.2.length+l[j].n):=by
 unfold J7;rw[List.take_succ_eq_append_getElem c,List.map_append,List.sum_append];simp
theorem cO {w:World}{l:List Na}(h:∀x∈l,x.Ok w):∀j,j<=l.length->J7 (l.take j)<=j*422212465053696
 |0,_=>by simp [J7]
 |j+1,hj=>by
  have e:=cO h j rF;have d:=h _ (List.getElem_mem (show j<l.length by omega));rw[Uh rF];have a:=d.s;have b:=d.name;have c:=d.n;unfold reachBytes at a b c;omega
open Go Go.RowKit Go.Lib
def Jr (l:List Na)(vn:Nat):Bool:=Vn l||decide (40<vn)
theorem Ze {w:World}{v:Value}{l:List Na}(h:Sk w v l)(V:Option Addr)(vn T:Nat)(self:Int):Calls Tryz.prog 37 #[v,.agg #[.slice V vn T,.int .u8 self]] w fun e w'=>e= .returned (.bool (Jr l vn))/\Below w.heap.size w w':=by
 obtain⟨W,U⟩:∃W,w.alloc (.cells #[.slice V vn T,.int .u8 self] 59)=W:=⟨_,rfl⟩;have m:Below w.heap.size w W:=by rw[←U];exact(Aq _ w).alloc (Ak _) _
 have r:=Az w (.cells #[.slice V vn T,.int .u8 self] 59);rw[U] at r;have h:=h.below m;have HW:=Ax U;have F:=Ax m;have G:=m.size;have I:=Ax r;clear U m r;have HA:=Ax h;obtain⟨X,va,T,rfl,d⟩:=h;have HC:=Ax d
 have c:∀x∈l,x.Ok W:=fun x u=>by
  obtain⟨i,hi,rfl⟩:=List.getElem_of_mem u;obtain⟨_,_,_,_,q⟩:=d i hi;exact q
 have HO:=Ax c;have HS:=Ax (cO c);unfold maxLen at X;clear d c;by_cases h70:70<l.length
 ·have L:Jr l vn=true:=by unfold Jr Vn;rw[Am h70,Bool.true_or,Bool.true_or]
  rw[L];have d1:decide ((70:Int)<(l.length:Int))=true:=Am rF;have d2:decide (70<l.length)=true:=Am h70;clear L;go_enter Tryz.func37,Tryz.ntmps37;go_upto_region 1 with fail
  rw[HW.out];go_wp2_with fail
  go_loopw [5,9] (fun v3 v7 wr=>∃(j:Nat) (z:Int),j<=l.length/\v7= .int .i64 j/\v3= .int .i64 z/\Hid (Below W.heap.size W wr)) (fun _ v7 _=>l.length - (intOf v7).toNat)
  case atStart=>exact⟨0,0,Nat.zero_le _,rfl,rfl,Aq _ W⟩
  obtain⟨M,rfl⟩:∃M:World,M=wr:=⟨_,rfl⟩;obtain⟨j,z,hj,rfl,rfl,g⟩:=hrel;by_cases hjl:j<l.length
  ·obtain⟨b,off,rfl,f,_⟩:=HC.out j hjl;have f:=f.below g.out;obtain⟨_,_,_,N,O,y,_,_⟩:=f;have c:=HO.out _ (List.getElem_mem hjl);have A:=c.s;have C:=c.name;have D:=c.n;unfold reachBytes at A C D;unfold Na.kv at y;obtain⟨⟨⟨op,⟨vk,vn,vs⟩,nm,ln,cl⟩,ka,kn,kc⟩,u⟩:∃x,l[j]=x:=⟨_,rfl⟩;rw[u] at N O y A C D;simp only at N O y A C D;have j0:(0:Int)<=(j:Int):=by omega
   have Y:(j:Int)<(l.length:Int):=by omega
   have Z:decide ((j:Int)<(l.length:Int))=true:=Am Y;have o:=fun nq=>Ax (A8 g.out nq)
   clear g c u;go_wp2_with fail;go_quiet (fail);go_wp2_with fail;refine⟨⟨j+1,_,by omega,by go_num,rfl,o _⟩,?_⟩;simp [intOf];omega
  obtain rfl:j=l.length:=by omega
  have Z:decide ((l.length:Int)<(l.length:Int))=false:=by simp
  have o:=Ax g.out;clear g;go_wp2_with fail;go_ret;exact⟨rfl,F.out.trans (o.out.mono G)⟩
 have L:Jr l vn=(decide (3000<J7 l)||decide (40<vn)):=by unfold Jr Vn;rw[An h70,Bool.false_or]
 rw[L];have d1:decide ((70:Int)<(l.length:Int))=false:=An rF;have d2:decide (70<l.length)=false:=An h70;clear L;go_enter Tryz.func37,Tryz.ntmps37;go_upto_region 1 with fail
 rw[HW.out];go_wp2_with fail
 go_loopw [5,9] (fun v3 v7 wr=>∃(j:Nat),j<=l.length/\v7= .int .i64 j/\v3= .int .i64 (J7 (l.take j):Nat)/\Hid (Below W.heap.size W wr)) (fun _ v7 _=>l.length - (intOf v7).toNat)
 case atStart=>exact⟨0,Nat.zero_le _,rfl,rfl,Aq _ W⟩
 obtain⟨M,rfl⟩:∃M:World,M=wr:=⟨_,rfl⟩;obtain⟨j,hj,rfl,rfl,g⟩:=hrel;by_cases hjl:j<l.length
 ·obtain⟨b,off,rfl,f,_⟩:=HC.out j hjl;have f:=f.below g.out;obtain⟨_,_,_,N,O,y,_,_⟩:=f;have c:=HO.out _ (List.getElem_mem hjl);have A:=c.s;have C:=c.name;have D:=c.n;unfold reachBytes at A C D;unfold Na.kv at y;have k:=Uh hjl;have R:=HS.out j hj;have R:J7 (l.take j)<=29554872553758720:=by omega
  obtain⟨⟨⟨op,⟨vk,vn,vs⟩,nm,ln,cl⟩,ka,kn,kc⟩,u⟩:∃x,l[j]=x:=⟨_,rfl⟩;rw[u] at N O y A C D k;simp only at N O y A C D k;obtain⟨z,E⟩:∃z,J7 (l.take j)=z:=⟨_,rfl⟩;rw[E] at k R;rw[E];have j0:(0:Int)<=(j:Int):=by omega
  have Y:(j:Int)<(l.length:Int):=by omega
  have Z:decide ((j:Int)<(l.length:Int))=true:=Am Y;have o:=fun nq=>Ax (A8 g.out nq)
  have a8:=Ax k;clear g c u k E;go_wp2_with fail;go_quiet (fail);go_wp2_with fail;refine⟨⟨j+1,by omega,by go_num,?_,o _⟩,?_⟩
  ·rw[a8.out];congr 1
  simp [intOf];omega
 obtain rfl:j=l.length:=by omega
 have Z:decide ((l.length:Int)<(l.length:Int))=false:=by simp
 have hd:decide ((3000:Int)<((J7 l:Nat):Int))=decide (3000<J7 l):=by
  by_cases e:3000<J7 l
  ·rw[Am e];exact Am rF
  rw[An e];exact An rF
 rw[List.take_length]
 have hv:decide ((40:Int)<(vn:Int))=decide (40<vn):=by
  by_cases e:40<vn
  ·rw[Am e];exact Am rF
  rw[An e];exact An rF
 obtain⟨s0,_,_⟩:=Bf ((g.out.block _ (Ay I.out)).trans I.out);have o:=Ax (F.out.trans (g.out.mono G));obtain⟨q,hq⟩:∃q,decide (3000<J7 l)=q:=⟨_,rfl⟩;obtain⟨p,hp⟩:∃p,decide (40<vn)=p:=⟨_,rfl⟩;rw[hq] at hd;rw[hp] at hv;obtain⟨z,E⟩:∃z,J7 l=z:=⟨_,rfl⟩;rw[E] at hd ⊢;have HQ:=Ax hq;have HP:=Ax hp;clear g hq hp E;cases q with
 |true=>
  clear hv;go_wp2_with fail;go_ret;exact⟨by rw[HQ.out];rfl,o.out⟩
 |false=>
  go_wp2_with fail;go_ret;exact⟨by rw[HQ.out,HP.out];rfl,o.out⟩
open Go Go.ChangeShapes Go.WideShapes Go.ChangeAt Go.RowKit Go.Deep Go.Lib
def kQ (w:World)(v:Value)(l:List (List UInt8×Int)):Prop:=(∀y∈l,0<=y.2/\y.2<=255)/\∃a c,v= .slice a l.length c/\(a=none->l.length=0/\c=0)/\∀i (h:i<l.length),∃b off,a=some ⟨b,off,none⟩/\w.cell? ⟨b,off+i*2,none⟩=some (.string ⟨l[i].1.toArray⟩)/\w.cell? ⟨b,off+i*2+1,none⟩=some (.int .u8 l[i].2)
theorem kQ.rd {w:World}{v:Value}{l:List (List UInt8×Int)}(h:kQ w v l)(d:l.length<=1000000):So w v l:=by
 obtain⟨_,a,c,e,_,k⟩:=h;exact⟨d,a,c,e,k⟩
section
variable {H:Type} {enc:TypeId×Value->H} {w:World} {base:Nat} {spare:Nat->Bool} {held:Bool}
theorem Zj {fuel:Nat}{v:Value}{x:DataW H×List MemPlace}(h:DataW.trod enc Tryz.prog w base spare held fuel 57 [v]=some x):∃l,kQ w v l:=by
 rcases open_slice Tryz.underlying57 h with ⟨q,_⟩|⟨a,len,F,m,n,D,Pl,q,hb,a8,R,hm,rfl,f⟩
 ·simp only[List.cons.injEq,and_true] at q;subst q;exact⟨[],by simp,none,0,rfl,fun _=>⟨rfl,rfl⟩,fun i f=>by simp at f⟩
 simp only[List.cons.injEq,and_true] at q;subst q;have b7:len<=m:=by rw[hm];split<;>omega
 have G:∀i,i<len->a=⟨a.block,a.off,none⟩:=by
  intro i g;obtain⟨cs,c,T⟩:=f 0 rF;rw[show Tryz.prog.cellsOf 71=2 from by kernel_rfl] at c;obtain⟨d,I,j⟩:=World.cells?_some c;have p:=j 0 rF;rw[Ag rF] at p;exact Ke (a:=a) p
 have o:∀i,i<len->∃y:List UInt8×Int,(0<=y.2/\y.2<=255)/\w.cell? ⟨a.block,a.off+i*2,none⟩=some (.string ⟨y.1.toArray⟩)/\w.cell? ⟨a.block,a.off+i*2+1,none⟩=some (.int .u8 y.2)/\w.cell? (a.add (i*2))=some (.string ⟨y.1.toArray⟩):=by
  intro i g;obtain⟨cs,c,T⟩:=f i rF;rw[show Tryz.prog.cellsOf 71=2 from by kernel_rfl] at c;obtain⟨E,U,_,b8,d,r,V⟩:=DataW.trod_struct Tryz.underlying71 T;rw[show Tryz.prog.cellsOf 71=2 from by kernel_rfl] at d;obtain⟨_,I,j⟩:=World.cells?_some c
  obtain⟨u,A,rfl⟩:∃u A,cs=[u,A]:=by
   match cs,d with
   |[u,A],_=>exact⟨_,_,rfl⟩
  have C:∀i,i<2->∃y,E[i]? =some y:=fun i f=>⟨E[i]'(by rw[r];exact f),Ag (by rw[r];exact f)⟩
  obtain⟨y0,L⟩:=C 0 rF;obtain⟨y1,M⟩:=C 1 rF;have W:DataW.trod enc Tryz.prog w base spare held U 9 (([u,A].drop 0).take (Tryz.prog.cellsOf 9))=E[0]?:=V 0 _ rfl;rw[show Tryz.prog.cellsOf 9=1 from by kernel_rfl] at W;have X:DataW.trod enc Tryz.prog w base spare held U 5 (([u,A].drop 1).take (Tryz.prog.cellsOf 5))=E[1]?:=V 1 _ rfl;rw[show Tryz.prog.cellsOf 5=1 from by kernel_rfl] at X;obtain⟨nm,Y,_,_⟩:=DataW.trod_string Tryz.underlying9 (W.trans L);obtain⟨k,Z,_,hk⟩:=DataW.trod_int Tryz.underlying5 (X.trans M);simp only[List.drop_zero,List.drop_succ_cons,List.take_succ_cons,List.take_zero,List.cons.injEq,and_true] at Y Z;subst Y Z;have p:=j 0 rF;have N:=j 1 rF;rw[G i g] at p N ⊢;simp only[Addr.add_lit,Nat.add_zero] at p N ⊢;exact⟨(nm.data.toList,k),nF hk,p,N,p⟩
 obtain⟨l,hl,O⟩:=Ia _ len o;refine⟨l,fun y hy=>?_,some a,F,by rw[hl],(fun e=>by cases e),fun i g=>?_⟩
 ·obtain⟨i,f,rfl⟩:=List.getElem_of_mem hy;exact(O i f).1
 have hs:=Ke (O 0 rF).2.2.2;simp only[Nat.zero_mul,Addr.add,if_true] at hs;obtain⟨_,q1,q2,_⟩:=O i g;exact⟨a.block,a.off,by rw[hs],q1,q2⟩
theorem Y2 {r:Reach}{i:Nat}{v:Value}{d:DataW H}{p:List MemPlace}(j:Value.okWide Tryz.prog w r i 59 v)(h:DataW.Trod enc Tryz.prog w base spare held 59 v d p):
 ∃a l c sf,v= .agg #[.slice a (List.length l) c,.int .u8 sf]/\(0<=sf/\sf<=255)/\kQ w (.slice a (List.length l) c) l:=by
 obtain⟨v0,v1,u,x,n,rfl,_,_,m,o⟩:=Joins.open_agg2 Tryz.underlying59 rG rG j h;obtain⟨l,f⟩:=Zj m;obtain⟨k,g,_,q⟩:=DataW.trod_int Tryz.underlying5 o;simp only[List.cons.injEq,and_true] at g;subst g;have e:=f;obtain⟨_,a,c,rfl,_⟩:=e;exact⟨a,l,c,k,rfl,nF q,f⟩
end
theorem Zw {l:List Na}{n:Nat}(h:Jr l n=false):l.length<=70/\J7 l<=3000/\n<=40:=by
 unfold Jr Vn at h;rw[Bool.or_eq_false_iff,Bool.or_eq_false_iff] at h;exact⟨by have:=of_decide_eq_false h.1.1;omega,by have:=of_decide_eq_false h.1.2;omega,by have:=of_decide_eq_false h.2;omega⟩
theorem cM:∀{l:List Nat} {x:Nat},x∈l->x<=l.sum
 |y::l,_,.head _=>by rw[List.sum_cons];omega
 |y::l,_,.tail _ h=>by have:=cM h;rw[List.sum_cons];omega
end Go.Proofs.YtgfakdobajgnfaaGreatDoor

import Derived.Shelf.Small.Strs
import Derived.Shelf.Strings.BuilderK
import Derived.Shelf.Strings.Builder2Cap
import Derived.Shelf.Strconv.Itoa3
import Derived.Shelf.Strconv.ParseIntPublic10
import Derived.Shelf.Strings.Cut
import Derived.Shelf.GgClosure.StringsIndexFuncTop
import Derived.Shelf.Strings.Prefix
import Derived.Shelf.Strings.Fields
import Derived.Shelf.Strings.Replace
import Derived.Shelf.Unicode.IsSpaceAny
import Derived.Shelf.Unicode.DecodeLast
import Derived.Shelf.Unicode.ExclAny
import Derived.Test.YtmpfilddeglgbaaGreatDoorQj4
set_option maxRecDepth 100000
set_option maxHeartbeats 16000000
namespace Go.Proofs.YtmpfilddeglgbaaGreatDoor
open Go Go.RowKit
theorem lV (w:World):(binOp BinOp.eql 20 .nilIface .nilIface).run Tryz.prog w= .ok (.bool true) w:=by kernel_rfl
theorem dC (er:Int)(w:World):(binOp BinOp.eql 20 (.iface 151 (.int .i64 er)) .nilIface).run Tryz.prog w= .ok (.bool false) w:=by kernel_rfl
theorem pO (er:Int)(w:World):(Instr.typeAssert (.iface 151 (.int .i64 er)) 20 151 true).run Tryz.prog w= .ok (.tuple #[.int .i64 er,.bool true]) w:=by kernel_rfl
theorem Im {w:World}{b:Nat}{x:Value}{t:TypeId}(h:w.heap[b]? =some (.cells #[x] t (0,0))):w.cell? ⟨b,0,none⟩=some x/\w.frozen? ⟨b,0,none⟩=false:=
 ⟨by simp only[World.cell?,h];rfl,by simp only[World.frozen?,h];simp⟩
theorem Zw (w:World)(o0 o1 o2 o3 o4:Obj):((((((w.alloc o0).alloc o1).alloc o2).alloc o3).alloc o4).heap[w.heap.size]? =some o0/\(((((w.alloc o0).alloc o1).alloc o2).alloc o3).alloc o4).heap[w.heap.size+1]? =some o1/\(((((w.alloc o0).alloc o1).alloc o2).alloc o3).alloc o4).heap[w.heap.size+1+1]? =some o2/\
 (((((w.alloc o0).alloc o1).alloc o2).alloc o3).alloc o4).heap[w.heap.size+1+1+1]? =some o3/\(((((w.alloc o0).alloc o1).alloc o2).alloc o3).alloc o4).heap[w.heap.size+1+1+1+1]? =some o4):=by
 have z1:(w.alloc o0).heap.size=w.heap.size+1:=by simp
 have z2:((w.alloc o0).alloc o1).heap.size=w.heap.size+1+1:=by simp
 have z3:(((w.alloc o0).alloc o1).alloc o2).heap.size=w.heap.size+1+1+1:=by simp
 have z4:((((w.alloc o0).alloc o1).alloc o2).alloc o3).heap.size=w.heap.size+1+1+1+1:=by simp
 have h0:=A1 w o0;have h1:=A1 (w.alloc o0) o1;have h2:=A1 ((w.alloc o0).alloc o1) o2;have h3:=A1 (((w.alloc o0).alloc o1).alloc o2) o3;have h4:=A1 ((((w.alloc o0).alloc o1).alloc o2).alloc o3) o4;rw[z1] at h1;rw[z2] at h2;rw[z3] at h3;rw[z4] at h4;refine⟨?_,?_,?_,?_,h4⟩
 ·rw[Below.heap_alloc _ _ _ tE,Below.heap_alloc _ _ _ tE,Below.heap_alloc _ _ _ tE,Below.heap_alloc _ _ _ tE];exact h0
 ·rw[Below.heap_alloc _ _ _ tE,Below.heap_alloc _ _ _ tE,Below.heap_alloc _ _ _ tE];exact h1
 ·rw[Below.heap_alloc _ _ _ tE,Below.heap_alloc _ _ _ tE];exact h2
 rw[Below.heap_alloc _ _ _ tE];exact h3
theorem dV (a b c d x:Value):(#[a,b,c,d]++(Array.replicate 14 undef).setIfInBounds 3 x)= #[a,b,c,d,undef,undef,undef,x,undef,undef,undef,undef,undef,undef,undef,undef,undef,undef]:=rfl
theorem Tn (a0 a1 a2 a3:Addr)(w:World):
 CallsD Tryz.prog 65 #[.pointer (some a0),.pointer (some a1),.pointer (some a2),.pointer (some a3)] .returning w fun e u' w'=>e= .returned (.tuple #[])/\u'= .returning/\w'=w:=by
 have hnil:=lV;refine callsD_of_wpS Tryz.func65 rfl fun c₀ cs hu=>?_
 apply wpS_seq;apply wpS_region;simp [wpOpsS,go_sem,recoverD,hu,Tryz.ntmps65,Exit.thenS];refine wpS_of_wp ?_;rw[dV];go_wp2_with fail;refine⟨rfl,.returning,?_,.tuple #[],?_,rfl,rfl,rfl⟩
 ·rw[←hu]
 simp [results,Tryz.results65,go_sem]
theorem cR (b p1 p2 p3 p0:Nat)(er:Int)(older:List PanicEntry)(at':Int)(w:World)(h0:w.cell? ⟨p0,0,none⟩=some (.pointer (some ⟨b,0,none⟩)))(h1:w.cell? ⟨b,1,none⟩=some (.int .i64 at'))
 (x1 x2 x3:Value) (c1:w.cell? ⟨p1,0,none⟩=some x1) (c2:w.cell? ⟨p2,0,none⟩=some x2) (c3:w.cell? ⟨p3,0,none⟩=some x3) (f1:w.frozen? ⟨p1,0,none⟩=false) (f2:w.frozen? ⟨p2,0,none⟩=false) (f3:w.frozen? ⟨p3,0,none⟩=false)
 (d12:¬p1=p2) (d13:¬p1=p3) (d23:¬p2=p3):
 CallsD Tryz.prog 65 #[.pointer (some ⟨p0,0,none⟩),.pointer (some ⟨p1,0,none⟩),.pointer (some ⟨p2,0,none⟩),.pointer (some ⟨p3,0,none⟩)] (.panicking ({v:= .iface 151 (.int .i64 er),recovered:=false}::older)) w fun e u' w'=>
  e= .returned (.tuple #[])/\u'= .panicking ({v:= .iface 151 (.int .i64 er),recovered:=true}::older)/\w'=((w.setCell ⟨p1,0,none⟩ (.slice none 0 0)).setCell ⟨p2,0,none⟩ (.int .i64 at')).setCell ⟨p3,0,none⟩ (.int .i64 er):=by
 have hst:=dC er;have hta:=pO er;refine callsD_of_wpS Tryz.func65 rfl fun c₀ cs hu=>?_
 apply wpS_seq;apply wpS_region;simp [wpOpsS,go_sem,recoverD,hu,Tryz.ntmps65,Exit.thenS];refine wpS_of_wp ?_;rw[dV];go_wp2_with fail;refine⟨rfl,_,rfl,.tuple #[],?_,rfl,rfl,rfl⟩;simp [results,Tryz.results65,go_sem]
def Ru (w:World)(ts:List Tkn)(n:Nat)(x:ExR)(e:Ending)(w':World):Prop:=
 Below w.heap.size w w'/\match x with
  | .error p=>e= .returned (.tuple #[.slice none 0 0,.int .i64 ((ts.length - p.2.length:Nat):Int),.int .i64 p.1])
  | .ok p=>if 60<p.1.size then e= .returned (.tuple #[.slice none 0 0,.int .i64 (n:Int),.int .i64 7]) else
   ∃v,e= .returned (.tuple #[v,.int .i64 ((ts.length - p.2.length:Nat):Int),.int .i64 0])/\Ii w' w.heap.size [] v (p.1.flat 0)
theorem bY {w:World}{vl:Value}{ts:List Tkn}(ht:I8 w vl ts)(hn:∀t∈ts,t.w.k=1->t.w.t≠[40])(hbig:ts.length<=1000000)(n:Nat)(hnl:n<=ts.length):
 Calls Tryz.prog 31 #[vl,.int .i64 (n:Int)] w (Ru w ts n (A9 0 0 (ts.drop n))):=by
 obtain⟨va,vc,rfl⟩:=ht.form;have hmf:∀(fn:Fn) (first cap:Array Value) (w:World),(Instr.makeFunc fn first cap).run Tryz.prog w= .ok (.func fn first cap) w:=fun _ _ _ _=>rfl
 have i0:¬((n:Int)<0):=by omega
 have i1:¬((ts.length:Int)<(n:Int)):=by omega
 have i2:decide ((n:Int)<0)=false:=by simp
 have i3:decide ((ts.length:Int)<(n:Int))=false:=by simp;omega
 obtain⟨x,hx⟩:∃x,A9 0 0 (ts.drop n)=x:=⟨_,rfl⟩;rw[hx];obtain⟨W5,hW5⟩:∃W5,((((w.alloc (.cells #[.slice none 0 0] 24)).alloc (.cells #[.int .i64 0] 3)).alloc (.cells #[.int .i64 0] 27)).alloc (.cells #[.slice va ts.length vc,.int .i64 (n:Int),.int .i64 0,.slice none 0 0] 150)).alloc (.cells #[.pointer (some ⟨w.heap.size+1+1+1,0,none⟩)] 148)=W5:=⟨_,rfl⟩
 have hb5:Below w.heap.size w W5:=by
  rw[←hW5];exact(((((Aq _ w).alloc (Ak _) _).alloc tH _).alloc tL _).alloc tL _).alloc tL _
 obtain⟨q0,q1,q2,q3,q4⟩:W5.heap[w.heap.size]? =some (.cells #[.slice none 0 0] 24 (0,0))/\W5.heap[w.heap.size+1]? =some (.cells #[.int .i64 0] 3 (0,0))/\W5.heap[w.heap.size+1+1]? =some (.cells #[.int .i64 0] 27 (0,0))/\
  W5.heap[w.heap.size+1+1+1]? =some (.cells #[.slice va ts.length vc,.int .i64 (n:Int),.int .i64 0,.slice none 0 0] 150 (0,0))/\W5.heap[w.heap.size+1+1+1+1]? =some (.cells #[.pointer (some ⟨w.heap.size+1+1+1,0,none⟩)] 148 (0,0)):=by
  rw[←hW5];exact Zw w _ _ _ _ _
 have hlen:ts.length - (ts.drop n).length=n:=by rw[List.length_drop];omega
 have hR:Cz W5 w.heap.size [w.heap.size+1] (w.heap.size+1+1+1) (.slice va ts.length vc) ts (ts.drop n) 0 (.slice none 0 0) []:=
  ⟨⟨n,rfl⟩,ht.below hb5,hn,ht.lt,by omega,fun x h=>(by simp at h;subst h;have:=Ay q1;exact this),by omega,hbig,by simp only[List.length_nil,List.length_drop];omega,by rw[hlen];exact q3,[],World.ownsRow_nil _ _ _ _,trivial⟩
 have hc:=fO w.heap.size (w.heap.size+1+1+1) (.slice va ts.length vc) ts _ [w.heap.size+1] 0 0 (ts.drop n) W5 (.slice none 0 0) [] tE (Nat.lt_succ_self _) hR hb5.size;rw[hx] at hc;have Hc:Hid (Calls Tryz.prog 66 #[.pointer (some ⟨w.heap.size+1+1+1,0,none⟩),.int .i64 0] W5 (B7 W5 w.heap.size [w.heap.size+1] (w.heap.size+1+1+1) (.slice va ts.length vc) ts 0 (.slice none 0 0) [] x)):=Ax hc;have HB5:=Ax hb5;have hap:=fun{p:Nat} {cs:Array Value} {T:TypeId} (h:W5.heap[p]? =some (.cells cs T (0,0))) (h1:150≠T) (h2:38≠T)=>hR.apart h h1 h2
 have Q0:=Ax (And.intro q0 (hap q0 tG tG));have Q1:=Ax (And.intro q1 (hap q1 tG tG));have Q2:=Ax (And.intro q2 (hap q2 tG tG));have Q4:=Ax (And.intro q4 (hap q4 tG tG));clear hb5 q0 q1 q2 q3 q4 hR hc hlen hap;subst hW5;have hcl:=Hc.out;clear hcl;go_enter_defers Tryz.func31,Tryz.ntmps31;go_wp2_with fail;refine Hc.out.mono ?_;rintro e V1 hp;cases x with
 |error p=>
  obtain⟨er,q⟩:=p;obtain⟨rfl,⟨dd,vv,hrb⟩,ho⟩:=hp;obtain⟨a0,af0⟩:=Im (ho.cells_of Q0.out.1 Q0.out.2);obtain⟨a1,af1⟩:=Im (ho.cells_of Q1.out.1 Q1.out.2);obtain⟨a2,af2⟩:=Im (ho.cells_of Q2.out.1 Q2.out.2);obtain⟨a4,_⟩:=Im (ho.cells_of Q4.out.1 Q4.out.2);obtain⟨_,b1,_⟩:=Dx hrb;have hbV:Below w.heap.size w V1:=Bv HB5.out ho (by simp [Value.ownBlock];omega) (by have:=HB5.out.size;exact this);have HBV:=Ax hbV;have hq:ts.length - q.length=ts.length - q.length:=rfl;obtain⟨m,hm⟩:∃m,ts.length - q.length=m:=⟨_,rfl⟩;rw[hm] at b1;have Hm:=Ax hm;clear hrb ho hbV hq hm hx Q0 Q1 Q2 Q4;go_wp2_with fail;refine leaves_cons (f:=65) (args:= #[.pointer (some ⟨w.heap.size+1+1+1+1,0,none⟩),.pointer (some ⟨w.heap.size,0,none⟩),.pointer (some ⟨w.heap.size+1,0,none⟩),.pointer (some ⟨w.heap.size+1+1,0,none⟩)]) tH (by simp [go_sem]) ?_;refine(cR (w.heap.size+1+1+1) w.heap.size (w.heap.size+1) (w.heap.size+1+1) (w.heap.size+1+1+1+1) er [] (m:Int) V1 a4 b1 _ _ _ a0 a1 a2 af0 af1 af2 tE tE tE).mono ?_;rintro e u' w'' ⟨rfl,rfl,rfl⟩;refine⟨.tuple #[.slice none 0 0,.int .i64 (m:Int),.int .i64 er],?_,?_⟩
  ·simp [results,Tryz.results31,go_sem, *]
  refine⟨((HBV.out.setCell (Ak _) _).setCell tH _).setCell tL _,?_⟩;rw[←Hm.out]
 |ok p=>
  obtain⟨a,q⟩:=p;obtain⟨rfl,v1,hr1,hch⟩:=hp;have ho:=hch.only;obtain⟨a0,af0⟩:=Im (ho.cells_of Q0.out.1 Q0.out.2);obtain⟨a1,af1⟩:=Im (ho.cells_of Q1.out.1 Q1.out.2);obtain⟨a2,af2⟩:=Im (ho.cells_of Q2.out.1 Q2.out.2);obtain⟨a4,_⟩:=Im (ho.cells_of Q4.out.1 Q4.out.2);obtain⟨_,b1,_,b3,_⟩:=Dx hr1.blk;have hbV:Below w.heap.size w V1:=Bv HB5.out ho (by simp [Value.ownBlock];omega) (by have:=HB5.out.size;exact this);obtain⟨kvs,hk1,hk2⟩:=hr1.tree;obtain⟨la,lc,rfl⟩:=Er hk1;simp only[List.nil_append,List.length_nil,Ex.flat_len] at b3 hk1 hr1 hk2;have htr:Ii V1 w.heap.size [w.heap.size+1] (.slice la a.size lc) (a.flat 0):=⟨kvs,by rw[Ex.flat_len];exact hk1,hk2⟩;have hfew:=hr1.few;rw[Ex.flat_len] at hfew;have HBV:=Ax hbV;have HTR:=Ax htr;have HH0:=Ax (ho.cells_of Q0.out.1 Q0.out.2);have HH1:=Ax (ho.cells_of Q1.out.1 Q1.out.2);have HH2:=Ax (ho.cells_of Q2.out.1 Q2.out.2);obtain⟨m,hm⟩:∃m,ts.length - q.length=m:=⟨_,rfl⟩;rw[hm] at b1;have Hm:=Ax hm;clear hr1 hch ho hbV hk1 hk2 htr hm hx Q0 Q1 Q2 Q4;by_cases h60:60<a.size
  ·have j1:decide ((60:Int)<(a.size:Int))=true:=by simp;omega
   have j2:(60:Int)<(a.size:Int):=by omega
   have H60:=Ax h60;clear h60;go_wp2_with fail;refine leaves_cons (f:=65) (args:= #[.pointer (some ⟨w.heap.size+1+1+1+1,0,none⟩),.pointer (some ⟨w.heap.size,0,none⟩),.pointer (some ⟨w.heap.size+1,0,none⟩),.pointer (some ⟨w.heap.size+1+1,0,none⟩)]) tH (by simp [go_sem]) ?_;refine(Tn _ _ _ _ _).mono ?_;rintro e u' w'' ⟨rfl,rfl,rfl⟩;refine⟨.tuple #[.slice none 0 0,.int .i64 (n:Int),.int .i64 7],?_,?_⟩
   ·simp [results,Tryz.results31,go_sem, *]
   refine⟨((HBV.out.setCell (Ak _) _).setCell tH _).setCell tL _,?_⟩
   show(if 60<a.size then _ else _)
   rw[Ap H60.out]
  have j1:decide ((60:Int)<(a.size:Int))=false:=by simp;omega
  have j2:(a.size:Int)<=60:=by omega
  have H60:=Ax h60;clear h60;go_wp2_with fail;go_region;go_wp2_with fail;refine leaves_cons (f:=65) (args:= #[.pointer (some ⟨w.heap.size+1+1+1+1,0,none⟩),.pointer (some ⟨w.heap.size,0,none⟩),.pointer (some ⟨w.heap.size+1,0,none⟩),.pointer (some ⟨w.heap.size+1+1,0,none⟩)]) tH (by simp [go_sem]) ?_;refine(Tn _ _ _ _ _).mono ?_;rintro e u' w'' ⟨rfl,rfl,rfl⟩;refine⟨.tuple #[.slice la a.size lc,.int .i64 (m:Int),.int .i64 0],?_,?_⟩
  ·simp [results,Tryz.results31,go_sem, *]
  have hO:Bc [w.heap.size,w.heap.size+1,w.heap.size+1+1] V1 ((((V1.setCell ⟨w.heap.size,0,none⟩ (.slice la a.size lc)).setCell ⟨w.heap.size+1,0,none⟩ (.int .i64 (m:Int))).setCell ⟨w.heap.size+1+1,0,none⟩ (.int .i64 0)).drew):=
   Bc.drew ((((Bc.refl _ V1).setCell (.inl tH) _).setCell (.inl tH) _).setCell (.inl tH) _)
  refine⟨Bv HBV.out hO tL HBV.out.size,?_⟩
  show(if 60<a.size then _ else _)
  rw[Ao H60.out];refine⟨_,by rw[←Hm.out],HTR.out.imp (fun _ r=>Bm r hO fun k e hm=>?_) fun v n xs hx r=>⟨Bm r hO fun k e hm=>?_,fun _ _ hm=>(by cases hm)⟩⟩
  ·simp only[List.mem_cons,List.not_mem_nil,or_false] at hm;rcases hm with rfl|rfl|rfl
   ·exact Bi r HH0.out tG e
   ·exact Bi r HH1.out tG e
   exact Bi r HH2.out tG e
  simp only[List.mem_cons,List.not_mem_nil,or_false] at hm;rcases hm with rfl|rfl|rfl
  ·exact Bi r HH0.out tG e
  ·exact hx _ e tH
  exact Bi r HH2.out tG e
end Go.Proofs.YtmpfilddeglgbaaGreatDoor
namespace Go.Proofs
open Go.Shelf
def Tryz.lays169_ren:Go.Shelf.Ren:=⟨fun|169=>54|n=>n,fun|70=>126|9=>9|0=>0|72=>128|37=>106|127=>187|3=>3|5=>5|n=>n,fun|n=>n⟩
theorem Tryz.lays169:Go.Proofs.Lays.n169 Tryz.prog Tryz.lays169_ren:={
 mixed:=by kernel_rfl
 f169:=Tryz.func54.trans (Ar some tF)
 t0:=Tryz.underlying0
 a0:=Tryz.isAgg0
 z0:=Tryz.sizeOf0
 v0:=Tryz.zeroValue0
 t3:=Tryz.underlying3
 a3:=Tryz.isAgg3
 z3:=Tryz.sizeOf3
 v3:=Tryz.zeroValue3
 t9:=Tryz.underlying9
 a9:=Tryz.isAgg9
 z9:=Tryz.sizeOf9
 v9:=Tryz.zeroValue9
 t37:=Tryz.underlying106
 a37:=Tryz.isAgg106
 z37:=Tryz.sizeOf106
 v37:=Tryz.zeroValue106
 t70:=Tryz.underlying126
 a70:=Tryz.isAgg126
 z70:=Tryz.sizeOf126
 v70:=Tryz.zeroValue126
 t72:=Tryz.underlying128
 a72:=Tryz.isAgg128
 z72:=Tryz.sizeOf128
 v72:=Tryz.zeroValue128
 t127:=Tryz.underlying187
 a127:=Tryz.isAgg187
 z127:=Tryz.sizeOf187
 v127:=Tryz.zeroValue187}
theorem Tryz.Builder_Extra_169:Builder.Extra Tryz.prog Tryz.lays169_ren:={
 sizeBuilder:=by kernel_rfl
 liesBuilder:=by kernel_rfl
 t5:=Tryz.underlying5
 a5:=Tryz.isAgg5
 z5:=Tryz.sizeOf5
 v5:=Tryz.zeroValue5
 infoByte:=by kernel_rfl
 cellsByte:=by kernel_rfl
 sizeByte:=by kernel_rfl
 neB5:=by decide}
open Go.RowKit in
theorem Tryz.Builder_String_any (B b:Nat)(l:List UInt8)(w:World)(h:Lib.IsBuilder 128 5 B b (Lib.byteCells l) w)(hBw:B<=w.heap.size):
 Calls Tryz.prog 54 #[.pointer (some ⟨b,0,none⟩)] w fun e w'=>e= .returned (.string ⟨l.toArray⟩)/\Below B w w':=Any.Builder_String_any Tryz.lays169 Tryz.Builder_Extra_169 B b l w h hBw
def Tryz.lays156_ren:Go.Shelf.Ren:=⟨fun|156=>28|165=>52|166=>53|169=>54|240=>96|241=>97|276=>151|277=>152|n=>n,fun|31=>87|9=>9|3=>3|4=>4|0=>0|20=>20|72=>128|76=>132|70=>126|37=>106|75=>131|127=>187|164=>226|5=>5|80=>134|n=>n,fun|n=>n⟩
theorem Tryz.lays156:Go.Proofs.Lays.n156 Tryz.prog Tryz.lays156_ren:={
 mixed:=by kernel_rfl
 f156:=Tryz.func28.trans (Ar some tF)
 f165:=Tryz.func52.trans (Ar some tF)
 f166:=Tryz.func53.trans (Ar some tF)
 f169:=Tryz.func54.trans (Ar some tF)
 f240:=Tryz.func96.trans (Ar some tF)
 f241:=Tryz.func97.trans (Ar some tF)
 f276:=Tryz.func151.trans (Ar some tF)
 f277:=Tryz.func152.trans (Ar some tF)
 t0:=Tryz.underlying0
 a0:=Tryz.isAgg0
 z0:=Tryz.sizeOf0
 v0:=Tryz.zeroValue0
 t3:=Tryz.underlying3
 a3:=Tryz.isAgg3
 z3:=Tryz.sizeOf3
 v3:=Tryz.zeroValue3
 t4:=Tryz.underlying4
 a4:=Tryz.isAgg4
 z4:=Tryz.sizeOf4
 v4:=Tryz.zeroValue4
 t9:=Tryz.underlying9
 a9:=Tryz.isAgg9
 z9:=Tryz.sizeOf9
 v9:=Tryz.zeroValue9
 t20:=Tryz.underlying20
 a20:=Tryz.isAgg20
 z20:=Tryz.sizeOf20
 v20:=Tryz.zeroValue20
 t31:=Tryz.underlying87
 a31:=Tryz.isAgg87
 z31:=Tryz.sizeOf87
 v31:=Tryz.zeroValue87
 t37:=Tryz.underlying106
 a37:=Tryz.isAgg106
 z37:=Tryz.sizeOf106
 v37:=Tryz.zeroValue106
 t70:=Tryz.underlying126
 a70:=Tryz.isAgg126
 z70:=Tryz.sizeOf126
 v70:=Tryz.zeroValue126
 t72:=Tryz.underlying128
 a72:=Tryz.isAgg128
 z72:=Tryz.sizeOf128
 v72:=Tryz.zeroValue128
 t75:=Tryz.underlying131
 a75:=Tryz.isAgg131
 z75:=Tryz.sizeOf131
 v75:=Tryz.zeroValue131
 t76:=Tryz.underlying132
 a76:=Tryz.isAgg132
 z76:=Tryz.sizeOf132
 v76:=Tryz.zeroValue132
 t127:=Tryz.underlying187
 a127:=Tryz.isAgg187
 z127:=Tryz.sizeOf187
 v127:=Tryz.zeroValue187
 t164:=Tryz.underlying226
 a164:=Tryz.isAgg226
 z164:=Tryz.sizeOf226
 v164:=Tryz.zeroValue226}
theorem Tryz.Builder_Extra_156:Builder.Extra Tryz.prog Tryz.lays156_ren:={
 sizeBuilder:=by kernel_rfl
 liesBuilder:=by kernel_rfl
 t5:=Tryz.underlying5
 a5:=Tryz.isAgg5
 z5:=Tryz.sizeOf5
 v5:=Tryz.zeroValue5
 infoByte:=by kernel_rfl
 cellsByte:=by kernel_rfl
 sizeByte:=by kernel_rfl
 neB5:=by decide}
open Go.RowKit in
theorem Tryz.strings_Join_none (a:Option Addr)(c:Nat)(sep:ByteArray)(w:World):
 Calls Tryz.prog 28 #[.slice a 0 c,.string sep] w fun e w'=>e= .returned (.string ⟨#[]⟩)/\w'=w:=Any.strings_Join_none Tryz.lays156 Tryz.Builder_Extra_156 a c sep w
open Go.RowKit in
theorem Tryz.strings_Join (bk o c:Nat)(xs:List ByteArray)(sep:ByteArray)(w:World)(hcells:∀(j:Nat) x,xs[j]? =some x->w.cell? ⟨bk,o+j,none⟩=some (.string x))(hbk:bk<w.heap.size)(hN:xs.length<=140737488355328)(hcap:xs.length<=c)(hlen:(Lib.join (xs.map (·.data.toList)) sep.data.toList).length<=140737488355328):
 Calls Tryz.prog 28 #[.slice (some ⟨bk,o,none⟩) xs.length c,.string sep] w fun e w'=>e= .returned (.string ⟨(Lib.join (xs.map (·.data.toList)) sep.data.toList).toArray⟩)/\Below w.heap.size w w':=Any.strings_Join Tryz.lays156 Tryz.Builder_Extra_156 bk o c xs sep w hcells hbk hN hcap hlen
def Tryz.lays162_ren:Go.Shelf.Ren:=⟨fun|162=>198|232=>225|227=>226|234=>227|236=>228|228=>248|271=>249|151=>250|120=>268|197=>204|152=>269|260=>230|137=>158|119=>287|224=>280|225=>279|217=>192|266=>217|n=>n,fun|9=>9|4=>4|3=>3|5=>5|117=>307|116=>306|0=>0|124=>310|21=>21|105=>281|46=>333|119=>261|139=>339|138=>338|n=>n,fun|3=>4|4=>5|n=>n⟩
theorem Tryz.lays162:Go.Proofs.Lays.n162 Tryz.prog Tryz.lays162_ren:={
 mixed:=by kernel_rfl
 f119:=Tryz.func287.trans (Ar some tF)
 f120:=Tryz.func268.trans (Ar some tF)
 f137:=Tryz.func158.trans (Ar some tF)
 f151:=Tryz.func250.trans (Ar some tF)
 f152:=Tryz.func269.trans (Ar some tF)
 f162:=Tryz.func198.trans (Ar some tF)
 f197:=Tryz.func204.trans (Ar some tF)
 f217:=Tryz.func192.trans (Ar some tF)
 f224:=Tryz.func280.trans (Ar some tF)
 f225:=Tryz.func279.trans (Ar some tF)
 f227:=Tryz.func226.trans (Ar some tF)
 f228:=Tryz.func248.trans (Ar some tF)
 f232:=Tryz.func225.trans (Ar some tF)
 f234:=Tryz.func227.trans (Ar some tF)
 f236:=Tryz.func228.trans (Ar some tF)
 f260:=Tryz.func230.trans (Ar some tF)
 f266:=Tryz.func217.trans (Ar some tF)
 f271:=Tryz.func249.trans (Ar some tF)
 t0:=Tryz.underlying0
 a0:=Tryz.isAgg0
 z0:=Tryz.sizeOf0
 v0:=Tryz.zeroValue0
 t3:=Tryz.underlying3
 a3:=Tryz.isAgg3
 z3:=Tryz.sizeOf3
 v3:=Tryz.zeroValue3
 t4:=Tryz.underlying4
 a4:=Tryz.isAgg4
 z4:=Tryz.sizeOf4
 v4:=Tryz.zeroValue4
 t5:=Tryz.underlying5
 a5:=Tryz.isAgg5
 z5:=Tryz.sizeOf5
 v5:=Tryz.zeroValue5
 t9:=Tryz.underlying9
 a9:=Tryz.isAgg9
 z9:=Tryz.sizeOf9
 v9:=Tryz.zeroValue9
 t21:=Tryz.underlying21
 a21:=Tryz.isAgg21
 z21:=Tryz.sizeOf21
 v21:=Tryz.zeroValue21
 t46:=Tryz.underlying333
 a46:=Tryz.isAgg333
 z46:=Tryz.sizeOf333
 v46:=Tryz.zeroValue333
 t105:=Tryz.underlying281
 a105:=Tryz.isAgg281
 z105:=Tryz.sizeOf281
 v105:=Tryz.zeroValue281
 t116:=Tryz.underlying306
 a116:=Tryz.isAgg306
 z116:=Tryz.sizeOf306
 t117:=Tryz.underlying307
 a117:=Tryz.isAgg307
 z117:=Tryz.sizeOf307
 v117:=Tryz.zeroValue307
 t119:=Tryz.underlying261
 a119:=Tryz.isAgg261
 z119:=Tryz.sizeOf261
 t124:=Tryz.underlying310
 a124:=Tryz.isAgg310
 z124:=Tryz.sizeOf310
 v124:=Tryz.zeroValue310
 t138:=Tryz.underlying338
 a138:=Tryz.isAgg338
 z138:=Tryz.sizeOf338
 v138:=Tryz.zeroValue338
 t139:=Tryz.underlying339
 a139:=Tryz.isAgg339
 z139:=Tryz.sizeOf339
 v139:=Tryz.zeroValue339
 g3:=by kernel_rfl
 g4:=by kernel_rfl}
open Go.RowKit in
theorem Tryz.strings_TrimRight_one (s:ByteArray)(c:UInt8)(hc:c.toNat<128)(w:World)(hs:s.size<=9223372036854775807):
 Calls Tryz.prog 198 #[.string s,.string ⟨#[c]⟩] w fun e w'=>e= .returned (.string ⟨(Lib.trimRightB s.data.toList c).toArray⟩)/\w'=w:=Any.strings_TrimRight_one Tryz.lays162 s c hc w hs
def Tryz.lays137_ren:Go.Shelf.Ren:=⟨fun|137=>158|217=>192|266=>217|n=>n,fun|9=>9|5=>5|3=>3|n=>n,fun|n=>n⟩
theorem Tryz.lays137:Go.Proofs.Lays.n137 Tryz.prog Tryz.lays137_ren:={
 mixed:=by kernel_rfl
 f137:=Tryz.func158.trans (Ar some tF)
 f217:=Tryz.func192.trans (Ar some tF)
 f266:=Tryz.func217.trans (Ar some tF)
 t3:=Tryz.underlying3
 a3:=Tryz.isAgg3
 z3:=Tryz.sizeOf3
 v3:=Tryz.zeroValue3
 t5:=Tryz.underlying5
 a5:=Tryz.isAgg5
 z5:=Tryz.sizeOf5
 v5:=Tryz.zeroValue5
 t9:=Tryz.underlying9
 a9:=Tryz.isAgg9
 z9:=Tryz.sizeOf9
 v9:=Tryz.zeroValue9}
open Go.RowKit in
theorem Tryz.strings_IndexByte (s:ByteArray)(c:Int)(w:World):
 Calls Tryz.prog 158 #[.string s,.int .u8 c] w fun e w'=>e= .returned (.int .i64 (Lib.indexByte s.data.toList c.toNat.toUInt8))/\w'=w:=Any.strings_IndexByte Tryz.lays137 s c w
def Tryz.lays121_ren:Go.Shelf.Ren:=⟨fun|121=>175|214=>200|n=>n,fun|4=>4|9=>9|n=>n,fun|n=>n⟩
theorem Tryz.lays121:Go.Proofs.Lays.n121 Tryz.prog Tryz.lays121_ren:={
 mixed:=by kernel_rfl
 f121:=Tryz.func175.trans (Ar some tF)
 f214:=Tryz.func200.trans (Ar some tF)
 t4:=Tryz.underlying4
 a4:=Tryz.isAgg4
 z4:=Tryz.sizeOf4
 v4:=Tryz.zeroValue4
 t9:=Tryz.underlying9
 a9:=Tryz.isAgg9
 z9:=Tryz.sizeOf9
 v9:=Tryz.zeroValue9}
open Go.RowKit in
theorem Tryz.strconv_FormatBool (b:Bool)(w:World):
 Calls Tryz.prog 175 #[.bool b] w fun e w'=>e= .returned (.string ⟨(Lib.formatBool b).toArray⟩)/\w'=w:=Any.strconv_FormatBool Tryz.lays121 b w
def Tryz.laysM173_ren:Go.Shelf.Ren:=⟨fun|173=>172|246=>197|283=>221|284=>222|285=>223|286=>224|129=>244|317=>243|318=>245|319=>246|320=>247|337=>266|338=>267|n=>n,fun|2=>2|3=>3|9=>9|4=>4|171=>298|0=>0|53=>299|37=>106|5=>5|173=>302|212=>330|51=>286|20=>20|213=>331|46=>333|232=>368|233=>369|n=>n,fun|17=>3|18=>8|19=>9|n=>n⟩
theorem Tryz.laysM173:Go.Proofs.LaysM.n173 Tryz.prog Tryz.laysM173_ren:={
 mixed:=by kernel_rfl
 f129:=Tryz.func244.trans (Ar some tF)
 f173:=Tryz.func172.trans (Ar some tF)
 f246:=Tryz.func197.trans (Ar some tF)
 f283:=Tryz.func221.trans (Ar some tF)
 f284:=Tryz.func222.trans (Ar some tF)
 f285:=Tryz.func223.trans (Ar some tF)
 f286:=Tryz.func224.trans (Ar some tF)
 f317:=Tryz.func243.trans (Ar some tF)
 f318:=Tryz.func245.trans (Ar some tF)
 f319:=Tryz.func246.trans (Ar some tF)
 f320:=Tryz.func247.trans (Ar some tF)
 f337:=Tryz.func266.trans (Ar some tF)
 f338:=Tryz.func267.trans (Ar some tF)
 t0:=Tryz.underlying0
 a0:=Tryz.isAgg0
 z0:=Tryz.sizeOf0
 v0:=Tryz.zeroValue0
 t2:=Tryz.underlying2
 a2:=Tryz.isAgg2
 z2:=Tryz.sizeOf2
 v2:=Tryz.zeroValue2
 t3:=Tryz.underlying3
 a3:=Tryz.isAgg3
 z3:=Tryz.sizeOf3
 v3:=Tryz.zeroValue3
 t4:=Tryz.underlying4
 a4:=Tryz.isAgg4
 z4:=Tryz.sizeOf4
 v4:=Tryz.zeroValue4
 t5:=Tryz.underlying5
 a5:=Tryz.isAgg5
 z5:=Tryz.sizeOf5
 v5:=Tryz.zeroValue5
 t9:=Tryz.underlying9
 a9:=Tryz.isAgg9
 z9:=Tryz.sizeOf9
 v9:=Tryz.zeroValue9
 t20:=Tryz.underlying20
 a20:=Tryz.isAgg20
 z20:=Tryz.sizeOf20
 v20:=Tryz.zeroValue20
 t37:=Tryz.underlying106
 a37:=Tryz.isAgg106
 z37:=Tryz.sizeOf106
 v37:=Tryz.zeroValue106
 t46:=Tryz.underlying333
 a46:=Tryz.isAgg333
 z46:=Tryz.sizeOf333
 v46:=Tryz.zeroValue333
 t51:=Tryz.underlying286
 a51:=Tryz.isAgg286
 z51:=Tryz.sizeOf286
 v51:=Tryz.zeroValue286
 t53:=Tryz.underlying299
 a53:=Tryz.isAgg299
 z53:=Tryz.sizeOf299
 v53:=Tryz.zeroValue299
 t171:=Tryz.underlying298
 a171:=Tryz.isAgg298
 z171:=Tryz.sizeOf298
 v171:=Tryz.zeroValue298
 t173:=Tryz.underlying302
 a173:=Tryz.isAgg302
 z173:=Tryz.sizeOf302
 v173:=Tryz.zeroValue302
 t212:=Tryz.underlying330
 a212:=Tryz.isAgg330
 z212:=Tryz.sizeOf330
 v212:=Tryz.zeroValue330
 t213:=Tryz.underlying331
 a213:=Tryz.isAgg331
 z213:=Tryz.sizeOf331
 t232:=Tryz.underlying368
 a232:=Tryz.isAgg368
 z232:=Tryz.sizeOf368
 v232:=Tryz.zeroValue368
 t233:=Tryz.underlying369
 a233:=Tryz.isAgg369
 z233:=Tryz.sizeOf369
 v233:=Tryz.zeroValue369
 g17:=by kernel_rfl
 g18:=by kernel_rfl
 g19:=by kernel_rfl
 i0:=by kernel_rfl
 i2:=by kernel_rfl
 i3:=by kernel_rfl
 i4:=by kernel_rfl
 i5:=by kernel_rfl
 i9:=by kernel_rfl
 i20:=by kernel_rfl
 i37:=by kernel_rfl
 i46:=by kernel_rfl
 i51:=by kernel_rfl
 i53:=by kernel_rfl
 i171:=by kernel_rfl
 i173:=by kernel_rfl
 i212:=by kernel_rfl
 i232:=by kernel_rfl
 i233:=by kernel_rfl
 m17:=by kernel_rfl
 m18:=by kernel_rfl
 m19:=by kernel_rfl}
open Go.RowKit Go.Sort Go.Lib in
theorem Tryz.strconv_FormatInt_10 (n:Int)(h0: -9223372036854775808<=n)(h1:n<=9223372036854775807)(w:World)(htab:Lib.TabIs Tryz.prog w "internal/strconv.uint64pow10" .u64 Lib.pow10Tab):
 Calls Tryz.prog 172 #[.int .i64 n,.int .i64 10] w fun e w'=>e= .returned (.string ⟨(Lib.itoa n).toArray⟩)/\∃k os,w'=grow (w.drewN k) os:=Any.strconv_FormatInt_10 Tryz.laysM173 n h0 h1 w htab
def Tryz.laysC174_ren:Go.Shelf.Ren:=⟨fun|174=>216|247=>240|245=>241|287=>260|279=>261|280=>262|281=>263|282=>264|321=>282|322=>283|316=>284|171=>286|205=>285|243=>289|246=>197|283=>221|284=>222|285=>223|286=>224|129=>244|317=>243|318=>245|319=>246|320=>247|337=>266|338=>267|n=>n,fun|9=>9|3=>3|2=>2|75=>131|85=>295|4=>4|167=>348|5=>5|53=>299|175=>349|46=>333|168=>351|37=>106|0=>0|210=>366|21=>21|127=>187|145=>374|143=>372|171=>298|173=>302|212=>330|51=>286|20=>20|213=>331|232=>368|233=>369|80=>134|n=>n,fun|15=>6|16=>7|17=>3|18=>8|19=>9|n=>n⟩
theorem Tryz.laysC174:Go.Proofs.LaysC.n174 Tryz.prog Tryz.laysC174_ren:={
 mixed:=by kernel_rfl
 f129:=Tryz.func244.trans (Ar some tF)
 f171:=Tryz.func286.trans (Ar some tF)
 f174:=Tryz.func216.trans (Ar some tF)
 f205:=Tryz.func285.trans (Ar some tF)
 f243:=Tryz.func289.trans (Ar some tF)
 f245:=Tryz.func241.trans (Ar some tF)
 f246:=Tryz.func197.trans (Ar some tF)
 f247:=Tryz.func240.trans (Ar some tF)
 f279:=Tryz.func261.trans (Ar some tF)
 f280:=Tryz.func262.trans (Ar some tF)
 f281:=Tryz.func263.trans (Ar some tF)
 f282:=Tryz.func264.trans (Ar some tF)
 f283:=Tryz.func221.trans (Ar some tF)
 f284:=Tryz.func222.trans (Ar some tF)
 f285:=Tryz.func223.trans (Ar some tF)
 f286:=Tryz.func224.trans (Ar some tF)
 f287:=Tryz.func260.trans (Ar some tF)
 f316:=Tryz.func284.trans (Ar some tF)
 f317:=Tryz.func243.trans (Ar some tF)
 f318:=Tryz.func245.trans (Ar some tF)
 f319:=Tryz.func246.trans (Ar some tF)
 f320:=Tryz.func247.trans (Ar some tF)
 f321:=Tryz.func282.trans (Ar some tF)
 f322:=Tryz.func283.trans (Ar some tF)
 f337:=Tryz.func266.trans (Ar some tF)
 f338:=Tryz.func267.trans (Ar some tF)
 t0:=Tryz.underlying0
 a0:=Tryz.isAgg0
 z0:=Tryz.sizeOf0
 v0:=Tryz.zeroValue0
 t2:=Tryz.underlying2
 a2:=Tryz.isAgg2
 z2:=Tryz.sizeOf2
 v2:=Tryz.zeroValue2
 t3:=Tryz.underlying3
 a3:=Tryz.isAgg3
 z3:=Tryz.sizeOf3
 v3:=Tryz.zeroValue3
 t4:=Tryz.underlying4
 a4:=Tryz.isAgg4
 z4:=Tryz.sizeOf4
 v4:=Tryz.zeroValue4
 t5:=Tryz.underlying5
 a5:=Tryz.isAgg5
 z5:=Tryz.sizeOf5
 v5:=Tryz.zeroValue5
 t9:=Tryz.underlying9
 a9:=Tryz.isAgg9
 z9:=Tryz.sizeOf9
 v9:=Tryz.zeroValue9
 t20:=Tryz.underlying20
 a20:=Tryz.isAgg20
 z20:=Tryz.sizeOf20
 v20:=Tryz.zeroValue20
 t21:=Tryz.underlying21
 a21:=Tryz.isAgg21
 z21:=Tryz.sizeOf21
 v21:=Tryz.zeroValue21
 t37:=Tryz.underlying106
 a37:=Tryz.isAgg106
 z37:=Tryz.sizeOf106
 v37:=Tryz.zeroValue106
 t46:=Tryz.underlying333
 a46:=Tryz.isAgg333
 z46:=Tryz.sizeOf333
 v46:=Tryz.zeroValue333
 t51:=Tryz.underlying286
 a51:=Tryz.isAgg286
 z51:=Tryz.sizeOf286
 v51:=Tryz.zeroValue286
 t53:=Tryz.underlying299
 a53:=Tryz.isAgg299
 z53:=Tryz.sizeOf299
 v53:=Tryz.zeroValue299
 t75:=Tryz.underlying131
 a75:=Tryz.isAgg131
 z75:=Tryz.sizeOf131
 v75:=Tryz.zeroValue131
 t85:=Tryz.underlying295
 a85:=Tryz.isAgg295
 z85:=Tryz.sizeOf295
 v85:=Tryz.zeroValue295
 t127:=Tryz.underlying187
 a127:=Tryz.isAgg187
 z127:=Tryz.sizeOf187
 v127:=Tryz.zeroValue187
 t143:=Tryz.underlying372
 a143:=Tryz.isAgg372
 z143:=Tryz.sizeOf372
 v143:=Tryz.zeroValue372
 t145:=Tryz.underlying374
 a145:=Tryz.isAgg374
 z145:=Tryz.sizeOf374
 v145:=Tryz.zeroValue374
 t167:=Tryz.underlying348
 a167:=Tryz.isAgg348
 z167:=Tryz.sizeOf348
 v167:=Tryz.zeroValue348
 t168:=Tryz.underlying351
 a168:=Tryz.isAgg351
 z168:=Tryz.sizeOf351
 v168:=Tryz.zeroValue351
 t171:=Tryz.underlying298
 a171:=Tryz.isAgg298
 z171:=Tryz.sizeOf298
 v171:=Tryz.zeroValue298
 t173:=Tryz.underlying302
 a173:=Tryz.isAgg302
 z173:=Tryz.sizeOf302
 v173:=Tryz.zeroValue302
 t175:=Tryz.underlying349
 a175:=Tryz.isAgg349
 z175:=Tryz.sizeOf349
 v175:=Tryz.zeroValue349
 t210:=Tryz.underlying366
 a210:=Tryz.isAgg366
 z210:=Tryz.sizeOf366
 v210:=Tryz.zeroValue366
 t212:=Tryz.underlying330
 a212:=Tryz.isAgg330
 z212:=Tryz.sizeOf330
 v212:=Tryz.zeroValue330
 t213:=Tryz.underlying331
 a213:=Tryz.isAgg331
 z213:=Tryz.sizeOf331
 t232:=Tryz.underlying368
 a232:=Tryz.isAgg368
 z232:=Tryz.sizeOf368
 v232:=Tryz.zeroValue368
 t233:=Tryz.underlying369
 a233:=Tryz.isAgg369
 z233:=Tryz.sizeOf369
 v233:=Tryz.zeroValue369
 g15:=by kernel_rfl
 g16:=by kernel_rfl
 g17:=by kernel_rfl
 g18:=by kernel_rfl
 g19:=by kernel_rfl
 t80:=Tryz.underlying134
 a80:=Tryz.isAgg134
 z80:=Tryz.sizeOf134
 v80:=Tryz.zeroValue134
 i0:=by kernel_rfl
 i2:=by kernel_rfl
 i3:=by kernel_rfl
 i4:=by kernel_rfl
 i5:=by kernel_rfl
 i9:=by kernel_rfl
 i20:=by kernel_rfl
 i21:=by kernel_rfl
 i37:=by kernel_rfl
 i46:=by kernel_rfl
 i51:=by kernel_rfl
 i53:=by kernel_rfl
 i75:=by kernel_rfl
 i80:=by kernel_rfl
 i85:=by kernel_rfl
 i127:=by kernel_rfl
 i143:=by kernel_rfl
 i145:=by kernel_rfl
 i167:=by kernel_rfl
 i168:=by kernel_rfl
 i171:=by kernel_rfl
 i173:=by kernel_rfl
 i175:=by kernel_rfl
 i210:=by kernel_rfl
 i212:=by kernel_rfl
 i232:=by kernel_rfl
 i233:=by kernel_rfl
 m15:=by kernel_rfl
 m16:=by kernel_rfl
 m17:=by kernel_rfl
 m18:=by kernel_rfl
 m19:=by kernel_rfl
 c0:=by kernel_rfl
 c2:=by kernel_rfl
 c3:=by kernel_rfl
 c4:=by kernel_rfl
 c5:=by kernel_rfl
 c9:=by kernel_rfl
 c20:=by kernel_rfl
 c21:=by kernel_rfl
 c37:=by kernel_rfl
 c46:=by kernel_rfl
 c51:=by kernel_rfl
 c53:=by kernel_rfl
 c75:=by kernel_rfl
 c80:=by kernel_rfl
 c85:=by kernel_rfl
 c127:=by kernel_rfl
 c143:=by kernel_rfl
 c145:=by kernel_rfl
 c167:=by kernel_rfl
 c168:=by kernel_rfl
 c171:=by kernel_rfl
 c173:=by kernel_rfl
 c175:=by kernel_rfl
 c210:=by kernel_rfl
 c212:=by kernel_rfl
 c213:=by kernel_rfl
 c232:=by kernel_rfl
 c233:=by kernel_rfl}
open Go.RowKit in
theorem Tryz.strconv_ParseInt_10_at64_ok (s:ByteArray)(hmax:s.size<=9223372036854775806)(v:Int)(h:Lib.parseIntB 64 s.data.toList= .ok v)(w:World):
 Calls Tryz.prog 216 #[.string s,.int .i64 10,.int .i64 64] w fun e w'=>e= .returned (.tuple #[.int .i64 v,.nilIface])/\(w'=w\/∃t,w'=Lib.bytesWorld w 5 t):=Any.strconv_ParseInt_10_at64_ok Tryz.laysC174 s hmax v h w
open Go.RowKit in
theorem Tryz.strconv_ParseInt_10_at64_range (s:ByteArray)(hlim:s.size<=281474976710656)(h:Lib.parseIntB 64 s.data.toList= .range)(ev:Value)(w:World)(hv:w.cell? ⟨7,0,none⟩=some ev)(hev:ev= .nilIface\/∃te pe,ev= .iface te pe):
 Calls Tryz.prog 216 #[.string s,.int .i64 10,.int .i64 64] w fun e w'=>∃N,e= .returned (.tuple #[.int .i64 (Lib.intSat 64 s.data.toList),.iface 351 (.pointer (some ⟨N,0,none⟩))])/\w.heap.size<=N/\w'.heap[N]? =some (.cells #[.string ⟨#[80,97,114,115,101,73,110,116]⟩,.string s,ev] 366 (0,0))/\Below w.heap.size w w':=Any.strconv_ParseInt_10_at64_range Tryz.laysC174 s hlim h ev w hv hev
def Tryz.lays145_ren:Go.Shelf.Ren:=⟨fun|145=>213|220=>237|219=>259|217=>192|225=>279|224=>280|267=>281|266=>217|314=>288|n=>n,fun|9=>9|4=>4|59=>293|3=>3|5=>5|46=>333|146=>370|51=>286|n=>n,fun|1=>1|n=>n⟩
theorem Tryz.lays145:Go.Proofs.Lays.n145 Tryz.prog Tryz.lays145_ren:={
 mixed:=by kernel_rfl
 f145:=Tryz.func213.trans (Ar some tF)
 f217:=Tryz.func192.trans (Ar some tF)
 f219:=Tryz.func259.trans (Ar some tF)
 f220:=Tryz.func237.trans (Ar some tF)
 f224:=Tryz.func280.trans (Ar some tF)
 f225:=Tryz.func279.trans (Ar some tF)
 f266:=Tryz.func217.trans (Ar some tF)
 f267:=Tryz.func281.trans (Ar some tF)
 f314:=Tryz.func288.trans (Ar some tF)
 t3:=Tryz.underlying3
 a3:=Tryz.isAgg3
 z3:=Tryz.sizeOf3
 v3:=Tryz.zeroValue3
 t4:=Tryz.underlying4
 a4:=Tryz.isAgg4
 z4:=Tryz.sizeOf4
 v4:=Tryz.zeroValue4
 t5:=Tryz.underlying5
 a5:=Tryz.isAgg5
 z5:=Tryz.sizeOf5
 v5:=Tryz.zeroValue5
 t9:=Tryz.underlying9
 a9:=Tryz.isAgg9
 z9:=Tryz.sizeOf9
 v9:=Tryz.zeroValue9
 t46:=Tryz.underlying333
 a46:=Tryz.isAgg333
 z46:=Tryz.sizeOf333
 v46:=Tryz.zeroValue333
 t51:=Tryz.underlying286
 a51:=Tryz.isAgg286
 z51:=Tryz.sizeOf286
 v51:=Tryz.zeroValue286
 t59:=Tryz.underlying293
 a59:=Tryz.isAgg293
 z59:=Tryz.sizeOf293
 v59:=Tryz.zeroValue293
 t146:=Tryz.underlying370
 a146:=Tryz.isAgg370
 z146:=Tryz.sizeOf370
 v146:=Tryz.zeroValue370
 g1:=by kernel_rfl}
open Go.RowKit Go.Lib in
theorem Tryz.strings_Cut (s sep:ByteArray)(m:Int)(w:World)(hs:s.size<4294967281)(hm:w.cell? ⟨1,0,none⟩=some (.int .i64 m)):
 Calls Tryz.prog 213 #[.string s,.string sep] w fun e w'=>e= .returned (.tuple #[.string ⟨(Lib.cut s.data.toList sep.data.toList).1.toArray⟩,.string ⟨(Lib.cut s.data.toList sep.data.toList).2.1.toArray⟩,.bool (Lib.cut s.data.toList sep.data.toList).2.2])/\∃n,w'=w.drewN n:=Any.strings_Cut Tryz.lays145 s sep m w hs hm
def Tryz.laysGw17_ren:Go.Shelf.Ren:=⟨fun|17=>218|15=>242|20=>265|n=>n,fun|9=>9|23=>263|4=>4|3=>3|0=>0|21=>21|n=>n,fun|n=>n⟩
theorem Tryz.laysGw17:Go.Proofs.LaysGw.n17 Tryz.prog Tryz.laysGw17_ren:={
 mixed:=by kernel_rfl
 f15:=Tryz.func242.trans (Ar some tF)
 f17:=Tryz.func218.trans (Ar some tF)
 f20:=Tryz.func265.trans (Ar some tF)
 t0:=Tryz.underlying0
 a0:=Tryz.isAgg0
 z0:=Tryz.sizeOf0
 v0:=Tryz.zeroValue0
 i0:=by kernel_rfl
 t3:=Tryz.underlying3
 a3:=Tryz.isAgg3
 z3:=Tryz.sizeOf3
 v3:=Tryz.zeroValue3
 i3:=by kernel_rfl
 t4:=Tryz.underlying4
 a4:=Tryz.isAgg4
 z4:=Tryz.sizeOf4
 v4:=Tryz.zeroValue4
 i4:=by kernel_rfl
 t9:=Tryz.underlying9
 a9:=Tryz.isAgg9
 z9:=Tryz.sizeOf9
 v9:=Tryz.zeroValue9
 i9:=by kernel_rfl
 t21:=Tryz.underlying21
 a21:=Tryz.isAgg21
 z21:=Tryz.sizeOf21
 v21:=Tryz.zeroValue21
 i21:=by kernel_rfl
 t23:=Tryz.underlying263
 a23:=Tryz.isAgg263
 z23:=Tryz.sizeOf263
 v23:=Tryz.zeroValue263
 i23:=by kernel_rfl}
open Go.RowKit Go.Lib in
theorem Tryz.strings_ContainsFunc_runes (g:Nat)(lb:Array Value)(eg:∀args w,(callFunc g args).run Tryz.prog w= .ok (.enter g args) w)(p:Nat->Bool)(s:ByteArray)(w:World)(hp:PredAtRunes Tryz.prog g lb p w):
 Calls Tryz.prog 218 #[.string s,.func (.func g) #[] lb] w fun e w'=>e= .returned (.bool (decide (0<=Lib.idxFunc p true s)))/\Below w.heap.size w w':=Any.strings_ContainsFunc_runes Tryz.laysGw17 g lb eg p s w hp
def Tryz.lays99_ren:Go.Shelf.Ren:=⟨fun|99=>157|206=>191|n=>n,fun|9=>9|4=>4|3=>3|n=>n,fun|n=>n⟩
theorem Tryz.lays99:Go.Proofs.Lays.n99 Tryz.prog Tryz.lays99_ren:={
 mixed:=by kernel_rfl
 f99:=Tryz.func157.trans (Ar some tF)
 f206:=Tryz.func191.trans (Ar some tF)
 t3:=Tryz.underlying3
 a3:=Tryz.isAgg3
 z3:=Tryz.sizeOf3
 v3:=Tryz.zeroValue3
 t4:=Tryz.underlying4
 a4:=Tryz.isAgg4
 z4:=Tryz.sizeOf4
 v4:=Tryz.zeroValue4
 t9:=Tryz.underlying9
 a9:=Tryz.isAgg9
 z9:=Tryz.sizeOf9
 v9:=Tryz.zeroValue9}
open Go.RowKit Go.Lib in
theorem Tryz.strings_HasPrefix (s p:ByteArray)(w:World):
 Calls Tryz.prog 157 #[.string s,.string p] w fun e w'=>e= .returned (.bool (Lib.hasPrefix s.data.toList p.data.toList))/\w'=w:=Any.strings_HasPrefix Tryz.lays99 s p w
def Tryz.lays101_ren:Go.Shelf.Ren:=⟨fun|101=>214|208=>238|206=>191|n=>n,fun|9=>9|4=>4|3=>3|n=>n,fun|n=>n⟩
theorem Tryz.lays101:Go.Proofs.Lays.n101 Tryz.prog Tryz.lays101_ren:={
 mixed:=by kernel_rfl
 f101:=Tryz.func214.trans (Ar some tF)
 f206:=Tryz.func191.trans (Ar some tF)
 f208:=Tryz.func238.trans (Ar some tF)
 t3:=Tryz.underlying3
 a3:=Tryz.isAgg3
 z3:=Tryz.sizeOf3
 v3:=Tryz.zeroValue3
 t4:=Tryz.underlying4
 a4:=Tryz.isAgg4
 z4:=Tryz.sizeOf4
 v4:=Tryz.zeroValue4
 t9:=Tryz.underlying9
 a9:=Tryz.isAgg9
 z9:=Tryz.sizeOf9
 v9:=Tryz.zeroValue9}
open Go.RowKit Go.Lib in
theorem Tryz.strings_TrimPrefix (s p:ByteArray)(w:World):
 Calls Tryz.prog 214 #[.string s,.string p] w fun e w'=>e= .returned (.string ⟨(Lib.trimPrefix s.data.toList p.data.toList).toArray⟩)/\w'=w:=Any.strings_TrimPrefix Tryz.lays101 s p w
def Tryz.lays155_ren:Go.Shelf.Ren:=⟨fun|155=>199|154=>229|138=>251|165=>52|143=>252|166=>53|197=>204|169=>54|195=>270|218=>271|240=>96|241=>97|219=>259|260=>230|276=>151|277=>152|217=>192|225=>279|224=>280|267=>281|266=>217|314=>288|n=>n,fun|9=>9|3=>3|4=>4|72=>128|0=>0|76=>132|105=>281|21=>21|5=>5|70=>126|20=>20|37=>106|75=>131|127=>187|164=>226|46=>333|119=>261|139=>339|138=>338|146=>370|51=>286|80=>134|n=>n,fun|1=>1|3=>4|4=>5|n=>n⟩
theorem Tryz.lays155:Go.Proofs.Lays.n155 Tryz.prog Tryz.lays155_ren:={
 mixed:=by kernel_rfl
 f138:=Tryz.func251.trans (Ar some tF)
 f143:=Tryz.func252.trans (Ar some tF)
 f154:=Tryz.func229.trans (Ar some tF)
 f155:=Tryz.func199.trans (Ar some tF)
 f165:=Tryz.func52.trans (Ar some tF)
 f166:=Tryz.func53.trans (Ar some tF)
 f169:=Tryz.func54.trans (Ar some tF)
 f195:=Tryz.func270.trans (Ar some tF)
 f197:=Tryz.func204.trans (Ar some tF)
 f217:=Tryz.func192.trans (Ar some tF)
 f218:=Tryz.func271.trans (Ar some tF)
 f219:=Tryz.func259.trans (Ar some tF)
 f224:=Tryz.func280.trans (Ar some tF)
 f225:=Tryz.func279.trans (Ar some tF)
 f240:=Tryz.func96.trans (Ar some tF)
 f241:=Tryz.func97.trans (Ar some tF)
 f260:=Tryz.func230.trans (Ar some tF)
 f266:=Tryz.func217.trans (Ar some tF)
 f267:=Tryz.func281.trans (Ar some tF)
 f276:=Tryz.func151.trans (Ar some tF)
 f277:=Tryz.func152.trans (Ar some tF)
 f314:=Tryz.func288.trans (Ar some tF)
 t0:=Tryz.underlying0
 a0:=Tryz.isAgg0
 z0:=Tryz.sizeOf0
 v0:=Tryz.zeroValue0
 t3:=Tryz.underlying3
 a3:=Tryz.isAgg3
 z3:=Tryz.sizeOf3
 v3:=Tryz.zeroValue3
 t4:=Tryz.underlying4
 a4:=Tryz.isAgg4
 z4:=Tryz.sizeOf4
 v4:=Tryz.zeroValue4
 t5:=Tryz.underlying5
 a5:=Tryz.isAgg5
 z5:=Tryz.sizeOf5
 v5:=Tryz.zeroValue5
 t9:=Tryz.underlying9
 a9:=Tryz.isAgg9
 z9:=Tryz.sizeOf9
 v9:=Tryz.zeroValue9
 t20:=Tryz.underlying20
 a20:=Tryz.isAgg20
 z20:=Tryz.sizeOf20
 v20:=Tryz.zeroValue20
 t21:=Tryz.underlying21
 a21:=Tryz.isAgg21
 z21:=Tryz.sizeOf21
 v21:=Tryz.zeroValue21
 t37:=Tryz.underlying106
 a37:=Tryz.isAgg106
 z37:=Tryz.sizeOf106
 v37:=Tryz.zeroValue106
 t46:=Tryz.underlying333
 a46:=Tryz.isAgg333
 z46:=Tryz.sizeOf333
 v46:=Tryz.zeroValue333
 t51:=Tryz.underlying286
 a51:=Tryz.isAgg286
 z51:=Tryz.sizeOf286
 v51:=Tryz.zeroValue286
 t70:=Tryz.underlying126
 a70:=Tryz.isAgg126
 z70:=Tryz.sizeOf126
 v70:=Tryz.zeroValue126
 t72:=Tryz.underlying128
 a72:=Tryz.isAgg128
 z72:=Tryz.sizeOf128
 v72:=Tryz.zeroValue128
 t75:=Tryz.underlying131
 a75:=Tryz.isAgg131
 z75:=Tryz.sizeOf131
 v75:=Tryz.zeroValue131
 t76:=Tryz.underlying132
 a76:=Tryz.isAgg132
 z76:=Tryz.sizeOf132
 v76:=Tryz.zeroValue132
 t105:=Tryz.underlying281
 a105:=Tryz.isAgg281
 z105:=Tryz.sizeOf281
 v105:=Tryz.zeroValue281
 t119:=Tryz.underlying261
 a119:=Tryz.isAgg261
 z119:=Tryz.sizeOf261
 t127:=Tryz.underlying187
 a127:=Tryz.isAgg187
 z127:=Tryz.sizeOf187
 v127:=Tryz.zeroValue187
 t138:=Tryz.underlying338
 a138:=Tryz.isAgg338
 z138:=Tryz.sizeOf338
 v138:=Tryz.zeroValue338
 t139:=Tryz.underlying339
 a139:=Tryz.isAgg339
 z139:=Tryz.sizeOf339
 v139:=Tryz.zeroValue339
 t146:=Tryz.underlying370
 a146:=Tryz.isAgg370
 z146:=Tryz.sizeOf370
 v146:=Tryz.zeroValue370
 t164:=Tryz.underlying226
 a164:=Tryz.isAgg226
 z164:=Tryz.sizeOf226
 v164:=Tryz.zeroValue226
 g1:=by kernel_rfl
 g3:=by kernel_rfl
 g4:=by kernel_rfl}
theorem Tryz.Builder_Extra_155:Builder.Extra Tryz.prog Tryz.lays155_ren:={
 sizeBuilder:=by kernel_rfl
 liesBuilder:=by kernel_rfl
 t5:=Tryz.underlying5
 a5:=Tryz.isAgg5
 z5:=Tryz.sizeOf5
 v5:=Tryz.zeroValue5
 infoByte:=by kernel_rfl
 cellsByte:=by kernel_rfl
 sizeByte:=by kernel_rfl
 neB5:=by decide}
open Go.RowKit Go.Lib in
theorem Tryz.strings_ReplaceAll (s old new:ByteArray)(m:Int)(w:World)(hs:s.size<4294967281)(hm:w.cell? ⟨1,0,none⟩=some (.int .i64 m))(h1:1<=old.size)(hlen:s.size+Lib.countB s old*new.size<=140737488355328):
 Calls Tryz.prog 199 #[.string s,.string old,.string new] w fun e w'=>
  e= .returned (.string ⟨(Lib.replaceAll s.data.toList old.data.toList new.data.toList).toArray⟩)/\Below w.heap.size w w':=Any.strings_ReplaceAll Tryz.lays155 Tryz.Builder_Extra_155 s old new m w hs hm h1 hlen
def Tryz.lays111_ren:Go.Shelf.Ren:=⟨fun|111=>37|n=>n,fun|28=>36|3=>3|4=>4|0=>0|n=>n,fun|n=>n⟩
theorem Tryz.lays111:Go.Proofs.Lays.n111 Tryz.prog Tryz.lays111_ren:={
 mixed:=by kernel_rfl
 f111:=Tryz.func37.trans (Ar some tF)
 t0:=Tryz.underlying0
 a0:=Tryz.isAgg0
 z0:=Tryz.sizeOf0
 v0:=Tryz.zeroValue0
 t3:=Tryz.underlying3
 a3:=Tryz.isAgg3
 z3:=Tryz.sizeOf3
 v3:=Tryz.zeroValue3
 t4:=Tryz.underlying4
 a4:=Tryz.isAgg4
 z4:=Tryz.sizeOf4
 v4:=Tryz.zeroValue4
 t28:=Tryz.underlying36
 a28:=Tryz.isAgg36
 z28:=Tryz.sizeOf36
 v28:=Tryz.zeroValue36}
open Go.RowKit Go.Lib in
theorem Tryz.slices_Equal_int (b1 o1 n c b2 o2 m d:Nat)(xs ys:List Int)(w:World)(hx:n<=xs.length)(hy:m<=ys.length)(hbig:n<=9223372036854775807)(hbig2:m<=9223372036854775807)(hc1:∀j,j<xs.length->w.cell? ⟨b1,o1+j,none⟩=some (.int .i64 (xs.getD j 0)))(hc2:∀j,j<ys.length->w.cell? ⟨b2,o2+j,none⟩=some (.int .i64 (ys.getD j 0))):
 Calls Tryz.prog 37 #[.slice (some ⟨b1,o1,none⟩) n c,.slice (some ⟨b2,o2,none⟩) m d] w fun e w'=>e= .returned (.bool (xs.take n==ys.take m))/\∃q,w'=w.drewN q:=Any.slices_Equal_int Tryz.lays111 b1 o1 n c b2 o2 m d xs ys w hx hy hbig hbig2 hc1 hc2
open Go.RowKit Go.Lib in
theorem Tryz.slices_Equal_int_empty (a1 a2:Option Addr)(c m d:Nat)(w:World)(hbig2:m<=9223372036854775807):
 Calls Tryz.prog 37 #[.slice a1 0 c,.slice a2 m d] w fun e w'=>e= .returned (.bool (decide (m=0)))/\w'=w:=Any.slices_Equal_int_empty Tryz.lays111 a1 a2 c m d w hbig2
end Go.Proofs

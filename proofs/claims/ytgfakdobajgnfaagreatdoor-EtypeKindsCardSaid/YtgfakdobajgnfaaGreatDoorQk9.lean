import Derived.Test.YtgfakdobajgnfaaGreatDoorQk7
import Derived.Test.YtgfakdobajgnfaaGreatDoorQk8
set_option maxRecDepth 100000
set_option maxHeartbeats 16000000
namespace Go.Proofs.YtgfakdobajgnfaaGreatDoor
open Go Go.RowKit Go.Lib Go.Sort Go.Shelf
def Fu (w:Wd)(line col:Int):Value:= .agg #[.int .u8 w.k,.string ⟨w.t.toArray⟩,.int .u8 w.v.1,.int .i64 w.v.2.1,.string ⟨w.v.2.2.toArray⟩,.int .i64 line,.int .i64 col]
def Qa (c:World)(r:Except Int (Wd×Nat))(e:Ending)(w':World):Prop:=
 Below c.heap.size c w'/\match r with
  | .ok p=>e= .returned (.tuple #[Fu p.1 0 0,.int .i64 (p.2:Nat),.int .i64 0])
  | .error q=>∃d n,e= .returned (.tuple #[Fu d 0 0,.int .i64 n,.int .i64 q])
def Dp:Array Value:= #[.int .u8 0,.string ⟨#[]⟩,.int .u8 0,.int .i64 0,.string ⟨#[]⟩,.int .i64 0,.int .i64 0]
structure Bi (w:World)(b:Nat)(k:Int)(t:ByteArray)(vk vn:Int)(vs:ByteArray)(line col:Int):Prop where
 c0:w.cell? ⟨b,0,none⟩=some (.int .u8 k)
 c1:w.cell? ⟨b,1,none⟩=some (.string t)
 c2:w.cell? ⟨b,2,none⟩=some (.int .u8 vk)
 c3:w.cell? ⟨b,3,none⟩=some (.int .i64 vn)
 c4:w.cell? ⟨b,4,none⟩=some (.string vs)
 c5:w.cell? ⟨b,5,none⟩=some (.int .i64 line)
 c6:w.cell? ⟨b,6,none⟩=some (.int .i64 col)
 fz:∀i,w.frozen? ⟨b,i,none⟩=false
theorem Bi.new (w:World):Bi (w.alloc (.cells Dp 94)) w.heap.size 0 ⟨#[]⟩ 0 0 ⟨#[]⟩ 0 0:=by
 have h:=(MapKept.heap_alloc w (.cells Dp 94)).1;constructor<;>first|(simp only[World.cell?,h];rfl)|(intro i;simp only[World.frozen?,h];simp)
theorem Bi.newc (w:World)(k:Int)(t:ByteArray)(vk vn:Int)(vs:ByteArray)(line col:Int):Bi (w.alloc (.cells #[.int .u8 k,.string t,.int .u8 vk,.int .i64 vn,.string vs,.int .i64 line,.int .i64 col] 94)) w.heap.size k t vk vn vs line col:=by
 have h:=(MapKept.heap_alloc w (.cells #[.int .u8 k,.string t,.int .u8 vk,.int .i64 vn,.string vs,.int .i64 line,.int .i64 col] 94)).1;constructor<;>first|(simp only[World.cell?,h];rfl)|(intro i;simp only[World.frozen?,h];simp)
theorem Bi.below {w w':World}{b:Nat}{k:Int}{t:ByteArray}{vk vn:Int}{vs:ByteArray}{line col:Int}(h:Bi w b k t vk vn vs line col)(d:Below w.heap.size w w'):Bi w' b k t vk vn vs line col:=by
 have c:=Bn h.c0;simp only at c;have e:=d.block b c;exact zx7
theorem Bi.isSome {w:World}{b:Nat}{k:Int}{t:ByteArray}{vk vn:Int}{vs:ByteArray}{line col:Int}(h:Bi w b k t vk vn vs line col):∀i,i<7->(w.cell? ⟨b,i,none⟩).isSome=true:=fun i c=>by
 match i,c with
 |0,_=>rw[h.c0];rfl
 |1,_=>rw[h.c1];rfl
 |2,_=>rw[h.c2];rfl
 |3,_=>rw[h.c3];rfl
 |4,_=>rw[h.c4];rfl
 |5,_=>rw[h.c5];rfl
 |6,_=>rw[h.c6];rfl
def set7 (w:World)(b:Nat)(k:Int)(t:ByteArray)(vk vn:Int)(vs:ByteArray)(line col:Int):World:=
 ((((((w.setCell ⟨b,0,none⟩ (.int .u8 k)).setCell ⟨b,1,none⟩ (.string t)).setCell ⟨b,2,none⟩ (.int .u8 vk)).setCell ⟨b,3,none⟩ (.int .i64 vn)).setCell ⟨b,4,none⟩ (.string vs)).setCell ⟨b,5,none⟩ (.int .i64 line)).setCell ⟨b,6,none⟩ (.int .i64 col)
theorem E6 {w:World}{b i:Nat}(j:Nat)(v:Value)(h:(w.cell? ⟨b,i,none⟩).isSome=true):((w.setCell ⟨b,j,none⟩ v).cell? ⟨b,i,none⟩).isSome=true:=by
 by_cases e:j=i
 ·subst e;rw[World.cell?_setCell_same' _ _ _ h];rfl
 have q:(⟨b,j,none⟩:Addr)≠⟨b,i,none⟩:=fun z=>by injection z with _ z;exact e z
 rw[World.cell?_setCell_other (h:=q)];exact h
theorem cell_far {w:World}{b i:Nat}(j:Nat)(v u:Value)(c:j≠i)(h:w.cell? ⟨b,i,none⟩=some u):(w.setCell ⟨b,j,none⟩ v).cell? ⟨b,i,none⟩=some u:=by
 have q:(⟨b,j,none⟩:Addr)≠⟨b,i,none⟩:=fun z=>by injection z with _ z;exact c z
 rw[World.cell?_setCell_other (h:=q)];exact h
theorem Bi.set7 {w:World}{b:Nat}{k:Int}{t:ByteArray}{vk vn:Int}{vs:ByteArray}{line col:Int}(h:Bi w b k t vk vn vs line col)(m:Int)(t':ByteArray)(f g:Int)(j:ByteArray)(c e:Int):
 Bi (set7 w b m t' f g j c e) b m t' f g j c e:=by
 have H:=h.isSome;have n:=fun i d=>E6 (i:=i) 0 (.int .u8 m) (H i d)
 have o:=fun i d=>E6 (i:=i) 1 (.string t') (n i d)
 have p:=fun i d=>E6 (i:=i) 2 (.int .u8 f) (o i d)
 have q:=fun i d=>E6 (i:=i) 3 (.int .i64 g) (p i d)
 have r:=fun i d=>E6 (i:=i) 4 (.string j) (q i d)
 have u:=fun i d=>E6 (i:=i) 5 (.int .i64 c) (r i d)
 refine⟨?_,?_,?_,?_,?_,?_,?_,fun i=>?_⟩
 ·exact cell_far 6 _ _ rH (cell_far 5 _ _ rH (cell_far 4 _ _ rH (cell_far 3 _ _ rH (cell_far 2 _ _ rH (cell_far 1 _ _ rH (World.cell?_setCell_same' _ _ _ (H 0 rH)))))))
 ·exact cell_far 6 _ _ rH (cell_far 5 _ _ rH (cell_far 4 _ _ rH (cell_far 3 _ _ rH (cell_far 2 _ _ rH (World.cell?_setCell_same' _ _ _ (n 1 rH))))))
 ·exact cell_far 6 _ _ rH (cell_far 5 _ _ rH (cell_far 4 _ _ rH (cell_far 3 _ _ rH (World.cell?_setCell_same' _ _ _ (o 2 rH)))))
 ·exact cell_far 6 _ _ rH (cell_far 5 _ _ rH (cell_far 4 _ _ rH (World.cell?_setCell_same' _ _ _ (p 3 rH))))
 ·exact cell_far 6 _ _ rH (cell_far 5 _ _ rH (World.cell?_setCell_same' _ _ _ (q 4 rH)))
 ·exact cell_far 6 _ _ rH (World.cell?_setCell_same' _ _ _ (r 5 rH))
 ·exact World.cell?_setCell_same' _ _ _ (u 6 rH)
 have:=h.fz i
 simpa[Proofs.YtgfakdobajgnfaaGreatDoor.set7] using this
theorem A7 {w V:World}{b:Nat}(h:Below w.heap.size w V)(c:w.heap.size<=b)(j:Int)(t':ByteArray)(f g:Int)(i:ByteArray)(d e:Int):Below w.heap.size w (set7 V b j t' f g i d e):=
 ((((((h.setCell c _).setCell c _).setCell c _).setCell c _).setCell c _).setCell c _).setCell c _
theorem Ir (V:World)(b:Nat)(h:Int)(t':ByteArray)(e f:Int)(g:ByteArray)(c d:Int):(set7 V b h t' e f g c d).heap.size=V.heap.size:=by simp [set7]
theorem Gx (V:World)(o:Obj):Below V.heap.size V (V.alloc o).drew:=((Aq _ V).alloc (Ak _) o).drew
theorem Zf (s:ByteArray)(w:World)(q:s.size<=9223372036854775806):
 Calls Tryz.prog 141 #[.string s] w fun e w'=>e= .returned (.tuple #[.string ⟨(if E9 (dl s) then(dl s).tail.take (Ba Cv (dl s).tail) else[]).toArray⟩,.bool (E9 (dl s))])/\w=w':=by
 by_cases h2:s.size<2
 ·have d:E9 (dl s)=false:=by
   have g:=A5 s
   match dl s,g with
   |[],_=>rfl
   |[_],_=>rfl
   |_::_::_,g=>simp at g;omega
  rw[d];have r:decide ((s.size:Int)<2)=true:=by simp;omega
  clear d h2;go_enter Tryz.func141,Tryz.ntmps141
  go_wp2
  refine Au (v:= .tuple #[.string ⟨#[]⟩,.bool false]) uF rfl ?_;exact⟨rfl,rfl⟩
 have r:decide ((s.size:Int)<2)=false:=by simp;omega
 have y:(1:Int)<(s.size:Int):=by omega
 have g:1<s.size:=by omega
 have d:E9 (dl s)=D7 s[1]:=by
  have h:=Gc (s:=s) (i:=1) g
  match dl s,h with
  |_::c::_,h=>injection h with h;rw[←h];rfl
 have f:=Nn s[1] w;rw[d];rw[←d] at f;cases hb:D7 s[1] with
 |false=>
  rw[d,hb] at f;have m:=Ax f;clear f d hb h2;go_enter Tryz.func141,Tryz.ntmps141;go_wp2_with fail;refine m.out.mono ?_;rintro e V ⟨rfl,rfl⟩
  go_wp2
  refine Au (v:= .tuple #[.string ⟨#[]⟩,.bool false]) uF rfl ?_;exact⟨rfl,rfl⟩
 |true=>
  rw[d,hb] at f;have k:=I7 s 143 Cv (fun args w=>by kernel_rfl) q 1 w rF fun c V=>T6 c V
  have j:=Ds Cv ((dl s).drop 1);rw[List.length_drop,A5] at j;have o:(⟨((dl s).tail.take (Ba Cv (dl s).tail)).toArray⟩:ByteArray)=s.extract 1 (1+Ba Cv ((dl s).drop 1)):=Ch (by rw[Da,Ep,List.drop_one,Nat.add_sub_cancel_left]);simp only[if_true];rw[o];obtain⟨n,p⟩:∃n,Ba Cv ((dl s).drop 1)=n:=⟨_,rfl⟩;rw[p] at k j ⊢;have u:((1:Nat):Int)=1:=rfl;rw[u] at k;have A:(1:Int)+(n:Int)<=(s.size:Int):=by omega
  have m:=Ax f;have x:=Ax k;clear f d hb h2 k o p;go_enter Tryz.func141,Tryz.ntmps141;go_wp2_with fail;refine m.out.mono ?_;rintro e V ⟨rfl,rfl⟩;go_wp2_with fail;refine x.out.mono ?_;rintro e V ⟨rfl,rfl⟩
  go_wp2
  refine Au (v:= .tuple #[.string (s.extract 1 (1+n)),.bool true]) uF rfl ?_;exact⟨rfl,rfl⟩
open Go Go.RowKit Go.Lib Go.Sort Go.Shelf
theorem fW (s:ByteArray):∃c,Ba Bg (dl s)=c/\c<=s.size/\((∃h:c+1<s.size,s[c]=46/\Bg s[c+1]=true/\Ce (dl s)=c+(1+Ba Bg ((dl s).drop (c+1))))\/
 (Ce (dl s)=c/\(¬c+1<s.size\/(∃h:c+1<s.size,s[c]≠46)\/(∃h:c+1<s.size,s[c]=46/\Bg s[c+1]=false)))):=by
 have d:=Ds Bg (dl s);rw[A5] at d;obtain⟨c,f⟩:∃c,Ba Bg (dl s)=c:=⟨_,rfl⟩;rw[f] at d;refine⟨c,f,d,?_⟩;rw[F0,f]
 show(∃h:c+1<s.size,s[c]=46/\Bg s[c+1]=true/\Cn c ((dl s).drop c)=c+(1+Ba Bg ((dl s).drop (c+1))))\/(Cn c ((dl s).drop c)=c/\_)
 by_cases h:c+1<s.size
 ·have j:c<(dl s).length:=by rw[A5];omega
  have i:c+1<(dl s).length:=by rw[A5];exact h
  have hd:(dl s).drop c=s[c]::s[c+1]::(dl s).drop (c+2):=by
   rw[List.drop_eq_getElem_cons j,List.drop_eq_getElem_cons i];rfl
  have g:(dl s).drop (c+1)=s[c+1]::(dl s).drop (c+2):=by
   rw[List.drop_eq_getElem_cons i];rfl
  rw[hd,g];by_cases hc:s[c]=46
  ·rw[hc];by_cases hg:Bg s[c+1]=true
   ·refine .inl ⟨h,hc,hg,?_⟩
    show(if Bg s[c+1]=true then _ else _)=_
    rw[Ap hg]
   refine .inr ⟨?_,.inr (.inr ⟨h,hc,by simpa using hg⟩)⟩
   show(if Bg s[c+1]=true then _ else _)=_
   rw[Ao hg]
  refine .inr ⟨?_,.inr (.inl ⟨h,hc⟩)⟩;unfold Cn
  split
  ·rename_i e
   injection e with e;exact absurd e hc
  rfl
 refine .inr ⟨?_,.inl h⟩;unfold Cn
 split
 ·rename_i e
  have:=Ar List.length e
  rw[List.length_drop,A5] at this;simp at this;omega
 rfl
theorem Zt {s:ByteArray}{h:0<s.size}(hd:Bg s[0]=true):1<=Ce (dl s)/\Ce (dl s)<=s.size:=by
 have e:dl s=s[0]::(dl s).drop 1:=by
  have l1:0<(dl s).length:=by rw[A5];exact h
  exact zwf
 have:=Nx (c:=s[0]) (r:=(dl s).drop 1) hd
 rw[←e,A5] at this;exact this
theorem Xf (s:ByteArray)(w:World)(h0:0<s.size)(b7:Bg s[0]=true)(hs:s.size<=65536)(hR:Rd w):
 Calls Tryz.prog 145 #[.string s] w (Qa w (Md (dl s))):=by
 obtain⟨E,A⟩:∃E,w.alloc (.cells Dp 94)=E:=⟨_,rfl⟩;have T:Below w.heap.size w E:=by rw[←A];exact(Aq w.heap.size w).alloc (Ak _) _
 have U:=Bi.new w;have b8:E.heap.size=w.heap.size+1:=by rw[←A];simp
 rw[A] at U;unfold Dp at A;obtain⟨j8,j9⟩:=Zt b7;obtain⟨d,hn,k8,p⟩:=fW s;have O:∀(V:World) (i:Nat) (hi:i<s.size),Calls Tryz.prog 144 #[.int .u8 (s[i].toNat:Int)] V fun e w'=>e= .returned (.bool (Bg s[i]))/\V=w':=fun V i hi=>Kh s[i] V
 have G:=I7 s 144 Bg (fun args w=>by kernel_rfl) rF 0 E rF fun c V=>Kh c V
 rw[List.drop_zero,show((0:Nat):Int)=0 from rfl] at G;have D:=fun(h:Ba Bg (dl s)+1<=s.size)=>I7 s 144 Bg (fun args w=>by kernel_rfl) rF (Ba Bg (dl s)+1) E h fun c V=>Kh c V
 have f:=Ds Bg ((dl s).drop (Ba Bg (dl s)+1));rw[List.length_drop,A5] at f;rw[hn] at G D f;obtain⟨N,hN⟩:∃N,Ce (dl s)=N:=⟨_,rfl⟩;have I:dl (s.extract 0 N)=(dl s).take N:=by rw[Ep,List.drop_zero,Nat.sub_zero]
 have hP:Md (dl s)=match Dy (dl (s.extract 0 N)) with
  | .ok v=> .ok (⟨4,(dl s).take N,v⟩,N)
  | .error e=> .error (if e=9 then 9 else 4):=by
  unfold Md;rw[hN,I];cases Dy ((dl s).take N)<;>rfl
 have d8:(⟨((dl s).take N).toArray⟩:ByteArray)=s.extract 0 N:=Ch (by rw[Da,I]);rw[hN] at p j8 j9;rw[hP];have f7:(s.extract 0 N).size<=9223372036854775807:=by rw[←A5,I,List.length_take,A5];omega
 have hp:=T9 (s.extract 0 N) E f7 (hR.below T);obtain⟨r,hr⟩:∃r,Dy (dl (s.extract 0 N))=r:=⟨_,rfl⟩;have f8:∀q,r= .error q->q=3\/q=4\/q=9:=fun q hq=>O1 (hr.trans hq)
 rw[hr] at hp ⊢;have f9:=Ax A;have W:=Ax T;have X:=Ax U;have Hz0:=Ax b8;have Hp:=Ax hp;have Y:=Ax f8;have Hex:=Ax d8;have g:=Ax O;have i6:=Ax G;have m:=Ax D;have r7:=Ax h0;clear A T U b8 hp f8 d8 O G D hP I hr hN b7 hR hn h0 f7;have jN:(N:Int)<=(s.size:Int):=by omega
 go_enter Tryz.func145,Tryz.ntmps145;go_upto_region 1 with fail
 rw[f9.out];clear f9;go_wp2_with fail;refine i6.out.mono ?_;rintro e V ⟨rfl,rfl⟩;clear i6;go_upto_region 2 with fail
 obtain⟨R,j⟩:∃R,R=decide (∃h:d+1<s.size,s[d]=46/\Bg s[d+1]=true):=⟨_,rfl⟩
 go_cut [25] from 8 to 25 (fun u25 wx=>u25= .bool R/\wx=E)
 case first=>
  rcases p with ⟨o,C,F,n⟩|⟨n,o|⟨o,C⟩|⟨o,C,F⟩⟩
  ·have i7:d<s.size:=by omega
   have u:=g.out E (d+1) o;rw[F] at u;have x:R=true:=by rw[j];exact Am ⟨o,C,F⟩
   subst x;have i1:(d:Int)+1<(s.size:Int):=by omega
   have i2:decide ((d:Int)+1<(s.size:Int))=true:=by simp;omega
   have i3:(d:Int)<(s.size:Int):=by omega
   have i4:(0:Int)<=(d:Int):=by omega
   have i5:((s[d].toNat:Int)==46)=true:=by rw[C];rfl
   have e2:((d:Int)+1).toNat=d+1:=by omega
   have a8:=Ax u;clear u C F g m n j f;go_wp2_with fail;refine a8.out.mono ?_;rintro e V ⟨rfl,rfl⟩;exact zyz
  ·have i2:decide ((d:Int)+1<(s.size:Int))=false:=by simp;omega
   have x:R=false:=by rw[j];exact An fun h=>o h.1
   subst x;clear o g m f n j;exact zyz
  ·have i2:decide ((d:Int)+1<(s.size:Int))=true:=by simp;omega
   have i7:d<s.size:=by omega
   have i3:(d:Int)<(s.size:Int):=by omega
   have i5:((s[d].toNat:Int)==46)=false:=by
    have:s[d].toNat≠46:=fun e=>C (UInt8.toNat_inj.1 e)
    simp;omega
   have x:R=false:=by rw[j];exact An fun h=>C h.2.1
   subst x;have i4:(0:Int)<=(d:Int):=by omega
   clear C g m f n j;exact zyz
  have i2:decide ((d:Int)+1<(s.size:Int))=true:=by simp;omega
  have i7:d<s.size:=by omega
  have i1:(d:Int)+1<(s.size:Int):=by omega
  have i3:(d:Int)<(s.size:Int):=by omega
  have i5:((s[d].toNat:Int)==46)=true:=by rw[C];rfl
  have x:R=false:=by rw[j];exact An fun⟨_,_,h3⟩=>absurd (F.symm.trans h3) rI
  subst x;have u:=g.out E (d+1) o;rw[F] at u;have e2:((d:Int)+1).toNat=d+1:=by omega
  have i4:(0:Int)<=(d:Int):=by omega
  have a8:=Ax u;clear C F u g m f n j;go_wp2_with fail;refine a8.out.mono ?_;rintro e V ⟨rfl,rfl⟩;exact zyz
 case rest=>
 obtain⟨rfl,rfl⟩:=hcut
 go_upto_if 25 with fail
 go_cut [3] from 26 to 32 (fun u3 wx=>u3= .int .i64 N/\wx=wc)
 case first=>
  cases R with
  |true=>
   obtain⟨o,C,F⟩:=of_decide_eq_true j.symm
   have n:N=d+(1+Ba Bg ((dl s).drop (d+1))):=by
    rcases p with ⟨_,_,_,n⟩|⟨_,h|⟨_,h⟩|⟨_,_,h⟩⟩
    ·exact n
    ·exact absurd o h
    ·exact absurd C h
    rw[F] at h;cases h
   obtain⟨k,hk⟩:∃k,Ba Bg ((dl s).drop (d+1))=k:=⟨_,rfl⟩;have L:=m.out rF;rw[hk] at L f n;have e1:((d+1:Nat):Int)=(d:Int)+1:=by omega
   have e3:(d:Int)+(1+(k:Int))=(N:Int):=by omega
   rw[e1] at L;have l7:=Ax L;have n9:=Ax e3;clear L C F hk e1 e3 g m p j;go_wp2_with fail;refine l7.out.mono ?_;rintro e V ⟨rfl,rfl⟩
   go_wp2
   go_meet
   case rel=>exact⟨by rw[←n9.out],rfl⟩
  |false=>
   have n:N=d:=by
    rcases p with ⟨h1,h2,h3,_⟩|⟨h,_⟩
    ·exact absurd ⟨h1,h2,h3⟩ (of_decide_eq_false j.symm)
    exact h
   have p8:=Ax n;clear n p j g m f
   go_wp2
   go_meet
   case rel=>exact⟨by rw[p8.out],rfl⟩
 case rest=>
  obtain⟨rfl,rfl⟩:=hcut;clear p g m f k8 j;go_wp2_with fail;refine Hp.out.mono ?_;rintro e V ⟨hb,he⟩;obtain⟨c0,c1,c2,c3,c4,c5,c6,fz⟩:=X.out.below hb;have HB:=Ax (W.out.trans (hb.mono tP));have hz:w.heap.size<V.heap.size:=by have:=hb.size;have:=Hz0.out;omega
  cases r with
  |ok v=>
   obtain⟨vk,vn,vs⟩:=v;simp only at he;subst he;have hT:=(Bi.set7 ⟨c0,c1,c2,c3,c4,c5,c6,fz⟩ 4 (s.extract 0 N) vk vn ⟨vs.toArray⟩ 0 0).below (Gx _ (.cells #[.int .u8 vk,.int .i64 vn,.string ⟨vs.toArray⟩] 23));have y:=(A7 HB.out (Ak _) 4 (s.extract 0 N) vk vn ⟨vs.toArray⟩ 0 0).trans ((Gx _ (.cells #[.int .u8 vk,.int .i64 vn,.string ⟨vs.toArray⟩] 23)).mono uM);obtain⟨Z,M⟩:∃Z,((set7 V w.heap.size 4 (s.extract 0 N) vk vn ⟨vs.toArray⟩ 0 0).alloc (.cells #[.int .u8 vk,.int .i64 vn,.string ⟨vs.toArray⟩] 23)).drew=Z:=⟨_,rfl⟩;rw[M] at hT y;unfold set7 at M;have HT:=Ax hT;have HB2:=Ax y;have HZ:=Ax M;clear Hp Y X W Hz0 hb hT y M HB;go_wp2_with fail;go_region
   all_goals
    rw[HZ.out];obtain⟨d0,d1,d2,d3,d4,d5,d6,_⟩:=HT.out;clear c0 c1 c2 c3 c4 c5 c6 fz
    go_wp2
    refine Au (v:= .tuple #[.agg #[.int .u8 4,.string (s.extract 0 N),.int .u8 vk,.int .i64 vn,.string ⟨vs.toArray⟩,.int .i64 0,.int .i64 0],.int .i64 N,.int .i64 0]) sV rfl ?_;exact⟨HB2.out,by rw[←Hex.out];rfl⟩
  |error q=>
   simp only at he;subst he;have hq:=Y.out q rfl;have hT:=(Bi.set7 ⟨c0,c1,c2,c3,c4,c5,c6,fz⟩ 4 (s.extract 0 N) 0 0 ⟨#[]⟩ 0 0).below (Gx _ (.cells #[.int .u8 0,.int .i64 0,.string ⟨#[]⟩] 23));have y:=(A7 HB.out (Ak _) 4 (s.extract 0 N) 0 0 ⟨#[]⟩ 0 0).trans ((Gx _ (.cells #[.int .u8 0,.int .i64 0,.string ⟨#[]⟩] 23)).mono uM);obtain⟨Z,M⟩:∃Z,((set7 V w.heap.size 4 (s.extract 0 N) 0 0 ⟨#[]⟩ 0 0).alloc (.cells #[.int .u8 0,.int .i64 0,.string ⟨#[]⟩] 23)).drew=Z:=⟨_,rfl⟩;rw[M] at hT y;unfold set7 at M;have HT:=Ax hT;have HB2:=Ax y;have HZ:=Ax M;clear Hp Y X W Hz0 hb hT y M HB;rcases hq with rfl|rfl|rfl
   ·exact zyb
   ·exact zyb
   go_wp2_with fail;go_region
   all_goals
    rw[HZ.out];obtain⟨d0,d1,d2,d3,d4,d5,d6,_⟩:=HT.out;clear c0 c1 c2 c3 c4 c5 c6 fz
    go_wp2
    refine Au (v:= .tuple #[.agg #[.int .u8 4,.string (s.extract 0 N),.int .u8 0,.int .i64 0,.string ⟨#[]⟩,.int .i64 0,.int .i64 0],.int .i64 N,.int .i64 9]) sV rfl ?_;exact⟨HB2.out,⟨4,(dl s).take N,(0,0,[])⟩,_,by rw[←Hex.out];rfl⟩
open Go Go.RowKit Go.Lib Go.Sort Go.Shelf
def stB:Bool->List UInt8->Nat->Bool
 |b,_,0=>b
 |b,[],_+1=>b
 |b,c::r,i+1=>stB (c==92 && !b) r i
theorem iI (b:Bool)(l:List UInt8):stB b l 0=b:=by cases l<;>rfl
theorem Xx:∀(b:Bool) (l:List UInt8) (i:Nat) (c:UInt8),l[i]? =some c->stB b l (i+1)=(c==92 && !stB b l i)
 |b,[],i,c,h=>by simp at h
 |b,d::r,0,c,h=>by
  injection h with h;subst h;cases r<;>rfl
 |b,d::r,i+1,c,h=>by
  rw[List.getElem?_cons_succ] at h;exact Xx _ r i c h
def Mh (b:Bool)(c:UInt8):Bool:=!((c==34 && !b)||!El c)
def Uo (b:Bool)(l:List UInt8)(i:Nat):Bool:=match l[i]? with
 |some c=>Mh (stB b l i) c
 |none=>false
theorem Ym:∀(b:Bool) (l:List UInt8) (i:Nat),i<Bd b l->Uo b l i=true
 |b,[],i,h=>by simp [Bd] at h
 |b,c::r,i,h=>by
  rw[Ci] at h;by_cases hc:((c==34 && !b)||!El c)=true
  ·rw[Ap hc] at h;omega
  rw[Ao hc] at h;cases i with
  |zero=>
   show(!((c==34 && !b)||!El c))=true
   rw[Bool.eq_false_iff.2 hc];rfl
  |succ i=>exact Ym (c==92 && !b) r i rF
theorem Th:∀(b:Bool) (l:List UInt8),Bd b l<l.length->Uo b l (Bd b l)=false
 |b,[],h=>by simp [Bd] at h
 |b,c::r,h=>by
  rw[Ci] at h ⊢;by_cases hc:((c==34 && !b)||!El c)=true
  ·rw[Ap hc]
   show(!((c==34 && !b)||!El c))=false
   rw[hc];rfl
  rw[Ao hc] at h ⊢;rw[Nat.add_comm];exact Th (c==92 && !b) r (by rw[Aa] at h;omega)
theorem eK (c:UInt8)(b:Bool)(B:Nat)(w:World)(h:w.heap[B]? =some (.cells #[.bool b] 4 (0,0))):
 Calls Tryz.prog 199 #[.int .u8 (c.toNat:Int),.pointer (some ⟨B,0,none⟩)] w fun e w'=>e= .returned (.bool (Mh b c))/\w'=w.setCell ⟨B,0,none⟩ (.bool (c==92 && !b)):=by
 have u:w.cell? ⟨B,0,none⟩=some (.bool b):=by simp [World.cell?,h]
 have v:w.frozen? ⟨B,0,none⟩=false:=by simp [World.frozen?,h]
 have m:c=34\/c=92\/(c≠34/\c≠92/\c.toNat<32)\/(c≠34/\c≠92/\126<c.toNat)\/(c≠34/\c≠92/\32<=c.toNat/\c.toNat<=126):=by
  by_cases i:c=34
  ·exact .inl i
  by_cases g:c=92
  ·exact .inr (.inl g)
  by_cases k:c.toNat<32
  ·exact .inr (.inr (.inl ⟨i,g,k⟩))
  by_cases n:126<c.toNat
  ·exact .inr (.inr (.inr (.inl ⟨i,g,n⟩)))
  exact .inr (.inr (.inr (.inr ⟨i,g,by omega,by omega⟩)))
 have f:∀d:UInt8,c≠d->((c.toNat:Int)==(d.toNat:Int))=false:=fun d hd=>by
  have:c.toNat≠d.toNat:=fun e=>hd (UInt8.toNat_inj.1 e)
  simp;omega
 clear h;rcases m with rfl|rfl|⟨i,g,k⟩|⟨i,g,k⟩|⟨i,g,k,n⟩
 ·clear f;have e:Mh b 34=b:=by cases b<;>rfl
  rw[e];clear e;cases b
  all_goals
   go_enter Tryz.func199,Tryz.ntmps199
   go_wp2
   exact zyn
 ·clear f;have e:Mh b 92=true:=by cases b<;>rfl
  rw[e];clear e;cases b
  all_goals
   go_enter Tryz.func199,Tryz.ntmps199
   go_wp2
   exact zyn
 ·have o:((c.toNat:Int)==34)=false:=f 34 i;have p:((c.toNat:Int)==92)=false:=f 92 g;have q:decide ((c.toNat:Int)<32)=true:=by simp;omega
  have e:Mh b c=false:=by
   have:El c=false:=by unfold El;simp;omega
   simp [Mh,this]
  have j:(c==92 && !b)=false:=by simp [g]
  rw[e,j];clear e j f i g k;go_enter Tryz.func199,Tryz.ntmps199
  go_wp2
  exact zyn
 ·have o:((c.toNat:Int)==34)=false:=f 34 i;have p:((c.toNat:Int)==92)=false:=f 92 g;have q:decide ((c.toNat:Int)<32)=false:=by simp;omega
  have r:decide ((126:Int)<(c.toNat:Int))=true:=by simp;omega
  have e:Mh b c=false:=by
   have:El c=false:=by unfold El;simp;omega
   simp [Mh,this]
  have j:(c==92 && !b)=false:=by simp [g]
  rw[e,j];clear e j f i g k;go_enter Tryz.func199,Tryz.ntmps199
  go_wp2
  exact zyn
 have o:((c.toNat:Int)==34)=false:=f 34 i;have p:((c.toNat:Int)==92)=false:=f 92 g;have q:decide ((c.toNat:Int)<32)=false:=by simp;omega
 have r:decide ((126:Int)<(c.toNat:Int))=false:=by simp;omega
 have e:Mh b c=true:=by
  have:El c=true:=by unfold El;simp;omega
  simp [Mh,this,i]
 have j:(c==92 && !b)=false:=by simp [g]
 rw[e,j];clear e j f i g k n;go_enter Tryz.func199,Tryz.ntmps199
 go_wp2
 exact zyn
structure qK (w0 V:World)(B:Nat)(l:List UInt8)(k:Nat):Prop where
 below:Below B w0 V
 box:V.heap[B]? =some (.cells #[.bool (stB false l (k - 1))] 4 (0,0))
theorem dY (s:ByteArray)(w:World)(h0:0<s.size)(hs:s.size<=65536)(hR:Rd w):
 Calls Tryz.prog 146 #[.string s] w (Qa w (Sb (dl s))):=by
 obtain⟨x,g⟩:∃x,w.alloc (.cells Dp 94)=x:=⟨_,rfl⟩;have b7:Below w.heap.size w x:=by rw[←g];exact(Aq w.heap.size w).alloc (Ak _) _
 have L:=Bi.new w;have A:x.heap.size=w.heap.size+1:=by rw[←g];simp
 rw[g] at L;unfold Dp at g;obtain⟨W1,C⟩:∃W1,x.alloc (.cells #[.bool false] 4)=W1:=⟨_,rfl⟩;have b8:Below (w.heap.size+1) x W1:=by rw[←C,←A];exact(Aq x.heap.size x).alloc (Ak _) _
 have M:qK x W1 (w.heap.size+1) (dl s).tail 1:=⟨b8,by rw[Nat.sub_self,iI,←C,←A];exact(MapKept.heap_alloc x _).1⟩;have hl:=A5 s
 have O:∃c q,dl s=c::q:=by
  cases hd:dl s with
  |nil=>rw[hd] at hl;simp at hl;omega
  |cons c q=>exact⟨c,q,rfl⟩
 obtain⟨c,q,hd⟩:=O;have i7:q.length+1=s.size:=by rw[←hl,hd];rfl
 have I:∀i,1<=i->∀(h:i<s.size),q[i - 1]? =some s[i]:=fun i hi h=>by
  have:=Gc h
  rw[hd] at this;obtain⟨j,rfl⟩:∃j,i=j+1:=⟨i - 1,by omega⟩;simpa using this
 have f9:=Mw false q;obtain⟨N,hN⟩:∃N,Bd false q=N:=⟨_,rfl⟩;have R:=Ym false q;have T:=Th false q;rw[hN] at R T f9
 have U:=Ua s 199 #[.pointer (some ⟨w.heap.size+1,0,none⟩)] (fun i=>Uo false q (i - 1)) (fun k V=>qK x V (w.heap.size+1) q k) (fun args w=>by kernel_rfl) rF 1 (1+N) W1 rF rF
  (fun i h1 h2=>R (i - 1) rF) (fun h=>by
   show Uo false q (1+N - 1)=false;rw[Nat.add_sub_cancel_left]
   exact T rF) (by rw[hd] at M;exact M) (fun i V h h1 hI=>by
   have hg:=I i h1 h;refine(eK s[i] _ (w.heap.size+1) V hI.box).mono ?_;rintro e V' ⟨rfl,rfl⟩;refine⟨?_,(hI.below.setCell rI _),?_⟩
   ·show _=Ending.returned (.bool (Uo false q (i - 1)));unfold Uo;rw[hg]
   rw[A2 hI.box,show i+1 - 1=(i - 1)+1 by omega,Xx _ _ _ _ hg]
   rfl)
 have e1:((1:Nat):Int)=1:=rfl;have e2:(((1+N:Nat):Int) - 1)=(N:Int):=by omega
 rw[e1,e2] at U;have m:=Ax g;have n:=Ax C;have o:=Ax b7;have p:=Ax L;have Hz0:=Ax A;have u:=Ax U;rw[hd,Iu,hN];clear g b7 L A U e1 e2 R T I C b8 M hl;have D:dl (s.extract 0 (N+2))=(c::q).take (N+2):=by rw[Ep,List.drop_zero,Nat.sub_zero,hd]
 have W:(⟨(q.take N).toArray⟩:ByteArray)=s.extract 1 (1+N):=Ch (by rw[Da,Ep,hd,List.drop_one,List.tail_cons,Nat.add_sub_cancel_left]);have E:((c::q).drop (1+N)).head? =(dl s)[1+N]?:=by rw[List.head?_drop,hd]
 by_cases F:∃h:1+N<s.size,s[1+N]=34
 ·obtain⟨G,hc⟩:=F;rw[E,Gc G,hc,Ap rfl,←D];have hp:=fun V (f:Below w.heap.size w V)=>T9 (s.extract 0 (N+2)) V (by rw[←A5,D,List.length_take,Aa];omega) (hR.below f)
  obtain⟨r,hr⟩:∃r,Dy (dl (s.extract 0 (N+2)))=r:=⟨_,rfl⟩;have d8:∀q,r= .error q->q=3\/q=4\/q=9:=fun q F=>O1 (hr.trans F)
  rw[hr];simp only[hr] at hp;have i1:decide ((s.size:Int)<=1+(N:Int))=false:=by simp;omega
  have i2:1+(N:Int)<(s.size:Int):=by omega
  have i3:(N:Int)+2<=(s.size:Int):=by omega
  have i4:((s[1+N].toNat:Int) !=34)=false:=by rw[hc];rfl
  have i5:(0:Int)<=(N:Int):=by omega
  have Hp:=Ax hp;have Y:=Ax d8;have i6:=Ax W;clear hp d8 W D E hc hR hr hd hN;go_enter Tryz.func146,Tryz.ntmps146;go_upto_region 1 with fail
  rw[m.out];clear m;go_upto_region 2 with fail
  rw[n.out,Hz0.out];go_wp2_with fail;refine u.out.mono ?_;rintro e V ⟨rfl,k,f⟩;have d:Below w.heap.size w V:=o.out.trans (f.below.mono rF);obtain⟨c0,c1,c2,c3,c4,c5,c6,fz⟩:=p.out.below (f.below.mono tP);have f7:w.heap.size+1<V.heap.size:=Ay f.box;have y:=Ax d;clear f d u o p Hz0 n;have a8:=Ax (Hp.out V y.out);clear Hp;go_wp2_with fail;refine a8.out.mono ?_;rintro e X ⟨hb,he⟩;obtain⟨c0,c1,c2,c3,c4,c5,c6,fz⟩:=(show Bi V w.heap.size 0 ⟨#[]⟩ 0 0 ⟨#[]⟩ 0 0 from⟨c0,c1,c2,c3,c4,c5,c6,fz⟩).below hb;have HB2:=Ax (y.out.trans (hb.mono y.out.size));have hz:w.heap.size<X.heap.size:=by have:=hb.size;omega
  cases r with
  |ok v=>
   obtain⟨vk,vn,vs⟩:=v;simp only at he;subst he;clear a8 Y hb y;have hT:=(Bi.set7 (w:=X) ⟨c0,c1,c2,c3,c4,c5,c6,fz⟩ 5 (s.extract 1 (1+N)) vk vn ⟨vs.toArray⟩ 0 0).below (Gx _ (.cells #[.int .u8 vk,.int .i64 vn,.string ⟨vs.toArray⟩] 23));have hB2:=(A7 HB2.out (Ak _) 5 (s.extract 1 (1+N)) vk vn ⟨vs.toArray⟩ 0 0).trans ((Gx _ (.cells #[.int .u8 vk,.int .i64 vn,.string ⟨vs.toArray⟩] 23)).mono uM);obtain⟨Z,hZ⟩:∃Z,((set7 X w.heap.size 5 (s.extract 1 (1+N)) vk vn ⟨vs.toArray⟩ 0 0).alloc (.cells #[.int .u8 vk,.int .i64 vn,.string ⟨vs.toArray⟩] 23)).drew=Z:=⟨_,rfl⟩;rw[hZ] at hT hB2;unfold set7 at hZ;have HT:=Ax hT;have HB3:=Ax hB2;have HZ:=Ax hZ;clear hT hB2 hZ HB2;go_wp2_with fail;go_region
   all_goals
    rw[HZ.out];obtain⟨d0,d1,d2,d3,d4,d5,d6,_⟩:=HT.out;clear c0 c1 c2 c3 c4 c5 c6 fz
    go_wp2
    refine Au (v:= .tuple #[.agg #[.int .u8 5,.string (s.extract 1 (1+N)),.int .u8 vk,.int .i64 vn,.string ⟨vs.toArray⟩,.int .i64 0,.int .i64 0],.int .i64 ((N:Int)+2),.int .i64 0]) sH rfl ?_;exact⟨HB3.out,by rw[←i6.out];rfl⟩
  |error q=>
   simp only at he;subst he;have F:=Y.out q rfl;clear a8 Y hb y;rcases F with rfl|rfl|rfl
   ·exact zzq
   ·exact zzq
   exact zzq
 rw[E]
 have f8:¬(dl s)[1+N]? =some 34:=fun h=>F (by
  have h1:=(List.getElem?_eq_some_iff.1 h).1;rw[A5] at h1;rw[Gc h1] at h;injection h with h
  exact⟨h1,h⟩)
 rw[Ao f8];clear f8 E W D hR;by_cases G:1+N<s.size
 ·have hc:s[1+N]≠34:=fun e=>F ⟨G,e⟩
  have i1:decide ((s.size:Int)<=1+(N:Int))=false:=by simp;omega
  have i2:1+(N:Int)<(s.size:Int):=by omega
  have i4:((s[1+N].toNat:Int) !=34)=true:=by
   have:s[1+N].toNat≠34:=fun e=>hc (UInt8.toNat_inj.1 e)
   simp;omega
  have i5:(0:Int)<=(N:Int):=by omega
  clear F hc hd hN;go_enter Tryz.func146,Tryz.ntmps146;go_upto_region 1 with fail
  rw[m.out];clear m;go_upto_region 2 with fail
  rw[n.out,Hz0.out];go_wp2_with fail;refine u.out.mono ?_;rintro e V ⟨rfl,k,f⟩;have d:Below w.heap.size w V:=o.out.trans (f.below.mono rF);obtain⟨c0,c1,c2,c3,c4,c5,c6,fz⟩:=p.out.below (f.below.mono tP);have f7:w.heap.size+1<V.heap.size:=Ay f.box;have y:=Ax d;clear f d u o p Hz0 n;have hT:=Bi.set7 (w:=V) ⟨c0,c1,c2,c3,c4,c5,c6,fz⟩ 0 ⟨#[]⟩ 0 0 ⟨#[]⟩ 0 0;have hB2:=A7 y.out (Ak _) 0 ⟨#[]⟩ 0 0 ⟨#[]⟩ 0 0;obtain⟨Z,hZ⟩:∃Z,set7 V w.heap.size 0 ⟨#[]⟩ 0 0 ⟨#[]⟩ 0 0=Z:=⟨_,rfl⟩;rw[hZ] at hT hB2;unfold set7 at hZ;have HT:=Ax hT;have HB3:=Ax hB2;have HZ:=Ax hZ;clear hT hB2 hZ y;exact zzj
 have i1:decide ((s.size:Int)<=1+(N:Int))=true:=by simp;omega
 clear F hd hN G;go_enter Tryz.func146,Tryz.ntmps146;go_upto_region 1 with fail
 rw[m.out];clear m;go_upto_region 2 with fail
 rw[n.out,Hz0.out];go_wp2_with fail;refine u.out.mono ?_;rintro e V ⟨rfl,k,f⟩;have d:Below w.heap.size w V:=o.out.trans (f.below.mono rF);obtain⟨c0,c1,c2,c3,c4,c5,c6,fz⟩:=p.out.below (f.below.mono tP);have f7:w.heap.size+1<V.heap.size:=Ay f.box;have y:=Ax d;clear f d u o p Hz0 n;have hT:=Bi.set7 (w:=V) ⟨c0,c1,c2,c3,c4,c5,c6,fz⟩ 0 ⟨#[]⟩ 0 0 ⟨#[]⟩ 0 0;have hB2:=A7 y.out (Ak _) 0 ⟨#[]⟩ 0 0 ⟨#[]⟩ 0 0;obtain⟨Z,hZ⟩:∃Z,set7 V w.heap.size 0 ⟨#[]⟩ 0 0 ⟨#[]⟩ 0 0=Z:=⟨_,rfl⟩;rw[hZ] at hT hB2;unfold set7 at hZ;have HT:=Ax hT;have HB3:=Ax hB2;have HZ:=Ax hZ;clear hT hB2 hZ y;exact zzj
open Go Go.RowKit Go.Lib Go.Sort Go.Shelf
def tw (i:Nat):ByteArray:=match i with
 |0=>⟨#[60,61]⟩|1=>⟨#[62,61]⟩|2=>⟨#[60,62]⟩|_=>⟨#[46,46]⟩
theorem kV (i:Nat):dl (tw i)∈Jy:=by
 match i with
 |0=>exact .head _
 |1=>exact .tail _ (.head _)
 |2=>exact .tail _ (.tail _ (.head _))
 |n+3=>exact .tail _ (.tail _ (.tail _ (.head _)))
theorem gZ (i:Nat):(dl (tw i)).length=2:=(show ∀x∈Jy,x.length=2 by decide) _ (kV i)
theorem Xb {l p:List UInt8}(c:p.length=2):hasPrefix l p=decide (l.take 2=p):=by
 unfold hasPrefix;rw[Bool.eq_iff_iff,List.isPrefixOf_iff_prefix,List.prefix_iff_eq_take,c,decide_eq_true_iff];exact eq_comm
theorem eO {l:List UInt8}(h:∀j,j<4->hasPrefix l (dl (tw j))=false):¬l.take 2∈Jy:=by
 have c:∀j,j<4->l.take 2≠dl (tw j):=fun j f=>by
  have:=h j f
  rw[Xb (gZ j)] at this;exact of_decide_eq_false this
 intro d;simp only[Jy,List.mem_cons,List.not_mem_nil,or_false] at d;rcases d with e|e|e|e
 ·exact c 0 rH e
 ·exact c 1 rH e
 ·exact c 2 rH e
 exact c 3 rH e
theorem bM:∀(l:List UInt8) (c:UInt8),indexByte l c<0↔c∉l
 |[],c=>by simp [indexByte]
 |b::l,c=>by
  have d:=bM l c;have g:=indexByte_ge l c;unfold indexByte;by_cases h:b=c
  ·subst h;simp
  have i:(b==c)=false:=by simpa using h
  rw[i];simp only[Bool.false_eq_true,if_false,List.mem_cons,not_or];by_cases h2:indexByte l c= -1
  ·rw[h2] at d ⊢;simp only[beq_self_eq_true,if_true];constructor
   ·intro _;exact⟨fun e=>h e.symm,d.1 rH⟩
   intro _;decide
  have j:(indexByte l c== -1)=false:=by simpa using h2
  rw[j];simp only[Bool.false_eq_true,if_false];constructor
  ·intro f;omega
  intro f
  have:=d.2 f.2
  omega
theorem tx0 (w:World):(Instr.index 225 (.agg #[.string ⟨#[60,61]⟩,.string ⟨#[62,61]⟩,.string ⟨#[60,62]⟩,.string ⟨#[46,46]⟩]) (.int .i64 0)).run Tryz.prog w= .ok (.string ⟨#[60,61]⟩) w:=by kernel_rfl
theorem tx1 (w:World):(Instr.index 225 (.agg #[.string ⟨#[60,61]⟩,.string ⟨#[62,61]⟩,.string ⟨#[60,62]⟩,.string ⟨#[46,46]⟩]) (.int .i64 1)).run Tryz.prog w= .ok (.string ⟨#[62,61]⟩) w:=by kernel_rfl
theorem tx2 (w:World):(Instr.index 225 (.agg #[.string ⟨#[60,61]⟩,.string ⟨#[62,61]⟩,.string ⟨#[60,62]⟩,.string ⟨#[46,46]⟩]) (.int .i64 2)).run Tryz.prog w= .ok (.string ⟨#[60,62]⟩) w:=by kernel_rfl
theorem tx3 (w:World):(Instr.index 225 (.agg #[.string ⟨#[60,61]⟩,.string ⟨#[62,61]⟩,.string ⟨#[60,62]⟩,.string ⟨#[46,46]⟩]) (.int .i64 3)).run Tryz.prog w= .ok (.string ⟨#[46,46]⟩) w:=by kernel_rfl
theorem fG (s:ByteArray)(w:World)(h0:0<s.size)(hs:s.size<=65536):
 Calls Tryz.prog 147 #[.string s] w (Qa w (F5 (dl s))):=by
 obtain⟨G,y⟩:∃G,w.alloc (.cells Dp 94)=G:=⟨_,rfl⟩;have i7:Below w.heap.size w G:=by rw[←y];exact(Aq w.heap.size w).alloc (Ak _) _
 have b7:=Bi.new w;rw[y] at b7;unfold Dp at y
 have ix:∀(i:Nat) (w:World),i<4->(Instr.index 225 (.agg #[.string ⟨#[60,61]⟩,.string ⟨#[62,61]⟩,.string ⟨#[60,62]⟩,.string ⟨#[46,46]⟩]) (.int .i64 (i:Nat))).run Tryz.prog w= .ok (.string (tw i)) w:=fun i w hi=>by
  match i,hi with
  |0,_=>exact tx0 w
  |1,_=>exact tx1 w
  |2,_=>exact tx2 w
  |3,_=>exact tx3 w
 have j8:dl s=s[0]::(dl s).drop 1:=by
  have l1:0<(dl s).length:=by rw[A5];exact h0
  exact zwf
 have b8:=Tryz.strings_IndexByte ⟨#[40,41,91,93,44,58,61,60,62,43,45,42,47]⟩ (s[0].toNat:Int) G
 have hu:((s[0].toNat:Int).toNat.toUInt8)=s[0]:=by
  rw[Int.toNat_natCast];exact UInt8.ofNat_toNat
 rw[hu] at b8;have A:=bM Lu s[0]
 have O:∀b:Bool,decide (s[0]∉Lu)=b->((dl s).take 1∈(Lu.map fun c=>[c])↔b=false):=fun b o=>by
  rw[j8,List.take_succ_cons,List.take_zero,List.mem_map];cases b with
  |true=>
   have:=of_decide_eq_true o
   simp only[List.cons.injEq,and_true,exists_eq_right,Bool.true_eq_false,iff_false];exact this
  |false=>
   have:=of_decide_eq_false o
   simp only[List.cons.injEq,and_true,exists_eq_right,iff_true];simpa using this
 obtain⟨x,hx⟩:∃x,indexByte Lu s[0]=x:=⟨_,rfl⟩;have R:Calls Tryz.prog 200 #[.string ⟨#[40,41,91,93,44,58,61,60,62,43,45,42,47]⟩,.int .u8 (s[0].toNat:Int)] G fun e w'=>e= .returned (.int .i64 x)/\w'=G:=by rw[←hx];exact b8
 rw[hx] at A;have j9:(⟨((dl s).take 1).toArray⟩:ByteArray)=s.extract 0 1:=Ch (by rw[Da,Ep,List.drop_zero]);have k8:=Ax y;have d8:=Ax i7;have f7:=Ax b7;have f8:=Ax ix;have r:=Ax R;have k:=Ax O;have g:=Ax A;have I:=Ax j9;have i0:(0:Int)<(s.size:Int):=by omega
 have i1:(1:Int)<=(s.size:Int):=by omega
 clear y i7 b7 ix b8 R O A hx j8 j9 hu;go_enter Tryz.func147,Tryz.ntmps147;go_upto_region 1 with fail
 rw[k8.out];clear k8
 go_wp2
 go_loopw [8] (fun v8 wr=>∃i:Nat,i<=4/\v8= .int .i64 i/\Hid ((∀j,j<i->hasPrefix (dl s) (dl (tw j))=false)/\G=wr)) (fun v8 _=>4 - (intOf v8).toNat)
 case atStart=>exact⟨0,by omega,rfl,fun j h=>by omega,rfl⟩
 obtain⟨i,hi,rfl,hq⟩:=hrel;obtain⟨u,rfl⟩:=hq.out;by_cases hlt:i<4
 ·have i2:(i:Int)<4:=by omega
  have l7:=f8.out i G hlt;have n:=Tryz.strings_HasPrefix s (tw i) G;have L:=Xb (l:=dl s) (gZ i);obtain⟨b,o⟩:∃b,hasPrefix (dl s) (dl (tw i))=b:=⟨_,rfl⟩;have f9:hasPrefix s.data.toList (tw i).data.toList=b:=o;rw[f9] at n;rw[o] at L;have C:=kV i;cases b with
  |true=>
   have d:F5 (dl s)= .ok (⟨7,dl (tw i),v0⟩,2):=by
    have e:(dl s).take 2=dl (tw i):=of_decide_eq_true L.symm;unfold F5;rw[e,Ap C]
   obtain⟨z,hz⟩:∃z,tw i=z:=⟨_,rfl⟩;rw[hz] at l7 n d;have i6:=Ax n;have m:=Ax d;clear n d o f9 L C u hq hz r k g I;go_wp2_with fail;refine i6.out.mono ?_;rintro e V ⟨rfl,rfl⟩;obtain⟨T,U,W,X,Y,c5,c6,fz⟩:=f7.out;have D:=Bi.set7 (w:=V) (b:=w.heap.size) ⟨T,U,W,X,Y,c5,c6,fz⟩ 7 z 0 0 ⟨#[]⟩ 0 0;have f:=A7 d8.out (Ak _) 7 z 0 0 ⟨#[]⟩ 0 0;obtain⟨Z,p⟩:∃Z,set7 V w.heap.size 7 z 0 0 ⟨#[]⟩ 0 0=Z:=⟨_,rfl⟩;rw[p] at D f;unfold set7 at p;have HT:=Ax D;have E:=Ax f;have HZ:=Ax p;clear D f p;go_wp2_with fail;rw[HZ.out];obtain⟨d0,d1,d2,d3,d4,d5,d6,_⟩:=HT.out;clear T U W X Y c5 c6 fz;refine Au (v:= .tuple #[.agg #[.int .u8 7,.string z,.int .u8 0,.int .i64 0,.string ⟨#[]⟩,.int .i64 0,.int .i64 0],.int .i64 2,.int .i64 0]) uA rfl ?_;rw[m.out];exact⟨E.out,by rw[←J9 z];rfl⟩
  |false=>
   have a8:∀j,j<i+1->hasPrefix (dl s) (dl (tw j))=false:=fun j hj=>by
    rcases Nat.lt_or_ge j i with q|q
    ·exact u j q
    obtain rfl:j=i:=by omega
    exact o
   obtain⟨z,hz⟩:∃z,tw i=z:=⟨_,rfl⟩;rw[hz] at l7 n;have i6:=Ax n;have n9:=Ax a8;clear n o f9 L C u hq hz a8 r k g I;go_wp2_with fail;refine i6.out.mono ?_;rintro e V ⟨rfl,rfl⟩
   go_wp2
   go_roundw
   case rel=>exact⟨i+1,by omega,by go_num,n9.out,by trivial⟩
   case measure=>simp [intOf];omega
 obtain rfl:i=4:=by omega
 have M:=eO u;obtain⟨b,o⟩:∃b,decide (s[0]∉Lu)=b:=⟨_,rfl⟩;have N:=k.out b o;cases b with
 |true=>
  have F:x<0:=g.out.2 (of_decide_eq_true o)
  have d:F5 (dl s)= .error 4:=by
   unfold F5;rw[Ao M,Ao (fun h=>absurd (N.1 h) rI)]
  have i3:decide (x<0)=true:=by simpa using F
  have m:=Ax d;clear d F o N M u hq f8 k g I;go_wp2_with fail;refine r.out.mono ?_;rintro e V ⟨rfl,rfl⟩;clear r;obtain⟨T,U,W,X,Y,c5,c6,fz⟩:=f7.out;have D:=Bi.set7 (w:=V) (b:=w.heap.size) ⟨T,U,W,X,Y,c5,c6,fz⟩ 0 ⟨#[]⟩ 0 0 ⟨#[]⟩ 0 0;have f:=A7 d8.out (Ak _) 0 ⟨#[]⟩ 0 0 ⟨#[]⟩ 0 0;obtain⟨Z,p⟩:∃Z,set7 V w.heap.size 0 ⟨#[]⟩ 0 0 ⟨#[]⟩ 0 0=Z:=⟨_,rfl⟩;rw[p] at D f;unfold set7 at p;have HT:=Ax D;have E:=Ax f;have HZ:=Ax p;clear D f p;go_wp2_with fail;rw[HZ.out];obtain⟨d0,d1,d2,d3,d4,d5,d6,_⟩:=HT.out;clear T U W X Y c5 c6 fz;refine Au (v:= .tuple #[.agg #[.int .u8 0,.string ⟨#[]⟩,.int .u8 0,.int .i64 0,.string ⟨#[]⟩,.int .i64 0,.int .i64 0],.int .i64 0,.int .i64 4]) uA rfl ?_;rw[m.out];exact⟨E.out,⟨0,[],(0,0,[])⟩,0,rfl⟩
 |false=>
  have F:¬x<0:=fun h=>absurd (g.out.1 h) (of_decide_eq_false o)
  have d:F5 (dl s)= .ok (⟨7,(dl s).take 1,v0⟩,1):=by
   unfold F5;rw[Ao M,Ap (N.2 rfl)]
  have i3:decide (x<0)=false:=by simpa using F
  have m:=Ax d;clear d F o N M u hq f8 k g;go_wp2_with fail;refine r.out.mono ?_;rintro e V ⟨rfl,rfl⟩;clear r;obtain⟨T,U,W,X,Y,c5,c6,fz⟩:=f7.out;have D:=Bi.set7 (w:=V) (b:=w.heap.size) ⟨T,U,W,X,Y,c5,c6,fz⟩ 7 (s.extract 0 1) 0 0 ⟨#[]⟩ 0 0;have f:=A7 d8.out (Ak _) 7 (s.extract 0 1) 0 0 ⟨#[]⟩ 0 0;obtain⟨Z,p⟩:∃Z,set7 V w.heap.size 7 (s.extract 0 1) 0 0 ⟨#[]⟩ 0 0=Z:=⟨_,rfl⟩;rw[p] at D f;unfold set7 at p;have HT:=Ax D;have E:=Ax f;have HZ:=Ax p;clear D f p;go_wp2_with fail;rw[HZ.out];obtain⟨d0,d1,d2,d3,d4,d5,d6,_⟩:=HT.out;clear T U W X Y c5 c6 fz;refine Au (v:= .tuple #[.agg #[.int .u8 7,.string (s.extract 0 1),.int .u8 0,.int .i64 0,.string ⟨#[]⟩,.int .i64 0,.int .i64 0],.int .i64 1,.int .i64 0]) uA rfl ?_;rw[m.out];exact⟨E.out,by rw[←I.out];rfl⟩
open Go Go.RowKit Go.Lib Go.Sort Go.Shelf
theorem fS (s:ByteArray)(w:World)(h0:0<s.size)(hs:s.size<=65536)(W:Rd w):
 Calls Tryz.prog 87 #[.string s] w (Qa w (B2 (dl s))):=by
 obtain⟨A,O⟩:∃A,w.alloc (.cells Dp 94)=A:=⟨_,rfl⟩;have f7:Below w.heap.size w A:=by rw[←O];exact(Aq w.heap.size w).alloc (Ak _) _
 have a8:=Bi.new w;rw[O] at a8;unfold Dp at O;have b7:=Zf s A rF;have h:=Nn s[0] A;have i:=Kh s[0] A
 have i7:∃q,dl s=s[0]::q:=by
  have l1:0<(dl s).length:=by rw[A5];exact h0
  have:=List.drop_eq_getElem_cons l1
  rw[List.drop_zero] at this;exact⟨_,this⟩
 obtain⟨q,R⟩:=i7;have j9:q.length+1=s.size:=by rw[←A5,R];rfl
 have u:B2 (dl s)=if D7 s[0] then C7 ⟨1,(dl s).take (Ba Cv (dl s)),v0⟩ (Ba Cv (dl s))
  else if Bg s[0] then Md (dl s)
  else if s[0]=34 then Sb (dl s)
  else if s[0]=63 then(if E9 (dl s) then C7 ⟨2,q.take (Ba Cv q),v0⟩ (1+Ba Cv q) else .ok (⟨3,[],v0⟩,1))
  else if s[0]=35/\E9 (dl s)=true then C7 ⟨6,q.take (Ba Cv q),(5,0,q.take (Ba Cv q))⟩ (1+Ba Cv q)
  else F5 (dl s):=by rw[R];rfl
 have f8:(dl s).tail=q:=by rw[R];rfl
 rw[f8] at b7;have G:Ba Cv q<=q.length:=Ds _ _;obtain⟨own,T⟩:∃own:ByteArray,(⟨(q.take (Ba Cv q)).toArray⟩:ByteArray)=own:=⟨_,rfl⟩;have b8:dl own=q.take (Ba Cv q):=by rw[←T]
 have C:own.size=Ba Cv q:=by rw[←A5,b8,List.length_take];omega
 have U:Calls Tryz.prog 141 #[.string s] A fun e w'=>e= .returned (.tuple #[.string (if E9 (dl s) then own else⟨#[]⟩),.bool (E9 (dl s))])/\A=w':=by
  refine b7.mono ?_;rintro e w' ⟨rfl,rfl⟩;refine⟨?_,rfl⟩;rw[←T];cases E9 (dl s)<;>rfl
 have y:∀d:UInt8,s[0]≠d->((s[0].toNat:Int)==(d.toNat:Int))=false:=fun d hd=>by
  have:s[0].toNat≠d.toNat:=fun e=>hd (UInt8.toNat_inj.1 e)
  simp;omega
 obtain⟨mk,hm⟩:∃mk,E9 (dl s)=mk:=⟨_,rfl⟩;rw[hm] at u U;have i0:(0:Int)<(s.size:Int):=by omega
 obtain⟨N,X⟩:∃N,Ba Cv q=N:=⟨_,rfl⟩;have m:=Ax O;have j:=Ax f7;have x:=Ax a8;have o:=Ax U;have Hod:=Ax b8;clear O f7 a8 b7 U hm f8 T b8;by_cases h1:D7 s[0]=true
 ·have Y:=I7 s 143 Cv (fun args w=>by kernel_rfl) rF 0 A rF fun c V=>T6 c V
  rw[List.drop_zero,show((0:Nat):Int)=0 from rfl] at Y;rw[Ap h1] at u;rw[h1] at h;have f9:=Ds Cv (dl s);rw[A5] at f9;have d8:(⟨((dl s).take (Ba Cv (dl s))).toArray⟩:ByteArray)=s.extract 0 (Ba Cv (dl s)):=Ch (by rw[Da,Ep,List.drop_zero,Nat.sub_zero]);obtain⟨n,hn⟩:∃n,Ba Cv (dl s)=n:=⟨_,rfl⟩;rw[hn] at Y u f9 d8;have I:((dl s).take n).length=n:=by rw[List.length_take,A5];omega
  have i1:(n:Int)<=(s.size:Int):=by omega
  have Hw:=Ax Y;have HW:=Ax u;have f:=Ax h;have i6:=Ax d8;have Hlt:=Ax I;clear Y u h i y C G X hn I d8 W h1 R;cases mk
  all_goals
   go_enter Tryz.func87,Tryz.ntmps87;go_upto_region 1 with fail
   rw[m.out];clear m;go_wp2_with fail;refine o.out.mono ?_;rintro e V ⟨rfl,rfl⟩;clear o;go_wp2_with fail;refine f.out.mono ?_;rintro e V ⟨rfl,rfl⟩;clear f;go_wp2_with fail;refine Hw.out.mono ?_;rintro e V ⟨rfl,rfl⟩;clear Hw;obtain⟨c0,c1,c2,c3,c4,c5,c6,fz⟩:=x.out;by_cases hlong:12<n
   ·have k1:decide ((12:Int)<(n:Int))=true:=by simp;omega
    have hT:=(Bi.set7 (w:=A) (b:=w.heap.size) ⟨c0,c1,c2,c3,c4,c5,c6,fz⟩ 1 (s.extract 0 n) 0 0 ⟨#[]⟩ 0 0).set7 1 (s.extract 0 n) 0 0 ⟨#[]⟩ 0 0;have hB2:=A7 (A7 j.out (Ak _) 1 (s.extract 0 n) 0 0 ⟨#[]⟩ 0 0) (Ak _) 1 (s.extract 0 n) 0 0 ⟨#[]⟩ 0 0;obtain⟨Z,hZ⟩:∃Z,set7 (set7 A w.heap.size 1 (s.extract 0 n) 0 0 ⟨#[]⟩ 0 0) w.heap.size 1 (s.extract 0 n) 0 0 ⟨#[]⟩ 0 0=Z:=⟨_,rfl⟩;rw[hZ] at hT hB2;unfold set7 at hZ;have HT:=Ax hT;have HB3:=Ax hB2;have HZ:=Ax hZ;clear hT hB2 hZ;go_wp2_with fail;rw[HZ.out];obtain⟨d0,d1,d2,d3,d4,d5,d6,_⟩:=HT.out;clear c0 c1 c2 c3 c4 c5 c6 fz;refine Au (v:= .tuple #[.agg #[.int .u8 1,.string (s.extract 0 n),.int .u8 0,.int .i64 0,.string ⟨#[]⟩,.int .i64 0,.int .i64 0],.int .i64 (n:Int),.int .i64 4]) rN rfl ?_;rw[HW.out];unfold C7;rw[Ap sX];exact⟨HB3.out,⟨1,(dl s).take n,v0⟩,_,by rw[←i6.out];rfl⟩
   have k1:decide ((12:Int)<(n:Int))=false:=by simp;omega
   have hT:=(Bi.set7 (w:=A) (b:=w.heap.size) ⟨c0,c1,c2,c3,c4,c5,c6,fz⟩ 1 (s.extract 0 n) 0 0 ⟨#[]⟩ 0 0).set7 1 (s.extract 0 n) 0 0 ⟨#[]⟩ 0 0;have hB2:=A7 (A7 j.out (Ak _) 1 (s.extract 0 n) 0 0 ⟨#[]⟩ 0 0) (Ak _) 1 (s.extract 0 n) 0 0 ⟨#[]⟩ 0 0;obtain⟨Z,hZ⟩:∃Z,set7 (set7 A w.heap.size 1 (s.extract 0 n) 0 0 ⟨#[]⟩ 0 0) w.heap.size 1 (s.extract 0 n) 0 0 ⟨#[]⟩ 0 0=Z:=⟨_,rfl⟩;rw[hZ] at hT hB2;unfold set7 at hZ;have HT:=Ax hT;have HB3:=Ax hB2;have HZ:=Ax hZ;clear hT hB2 hZ;go_wp2_with fail;rw[HZ.out];obtain⟨d0,d1,d2,d3,d4,d5,d6,_⟩:=HT.out;clear c0 c1 c2 c3 c4 c5 c6 fz;refine Au (v:= .tuple #[.agg #[.int .u8 1,.string (s.extract 0 n),.int .u8 0,.int .i64 0,.string ⟨#[]⟩,.int .i64 0,.int .i64 0],.int .i64 (n:Int),.int .i64 0]) rN rfl ?_;rw[HW.out];unfold C7;rw[Ao sX];exact⟨HB3.out,by rw[←i6.out];rfl⟩
 rw[Ao h1] at u;have L:D7 s[0]=false:=by simpa using h1
 rw[L] at h;by_cases h2:Bg s[0]=true
 ·rw[Ap h2] at u;rw[h2] at i;have D:=Xf s A h0 h2 hs (W.below j.out);obtain⟨r,hr⟩:∃r,Md (dl s)=r:=⟨_,rfl⟩;rw[hr] at D u;have E:=Ax D;have HW:=Ax u;have f:=Ax h;have g:=Ax i;clear D u h i y C G X W h1 R hr h2 L;cases mk
  all_goals
   go_enter Tryz.func87,Tryz.ntmps87;go_upto_region 1 with fail
   rw[m.out];clear m;go_wp2_with fail;refine o.out.mono ?_;rintro e V ⟨rfl,rfl⟩;clear o;go_wp2_with fail;refine f.out.mono ?_;rintro e V ⟨rfl,rfl⟩;clear f;go_wp2_with fail;refine g.out.mono ?_;rintro e V ⟨rfl,rfl⟩;clear g;go_wp2_with fail;refine E.out.mono ?_;rintro e V ⟨F,he⟩;obtain⟨c0,c1,c2,c3,c4,c5,c6,fz⟩:=x.out.below F;have HBV:=Ax (j.out.trans (F.mono j.out.size));clear x F E;cases r with
   |ok p=>
    exact zz1
   |error q=>
    exact zz2
 rw[Ao h2] at u;have M:Bg s[0]=false:=by simpa using h2
 rw[M] at i;by_cases h3:s[0]=34
 ·rw[Ap h3] at u;have D:=dY s A h0 hs (W.below j.out);obtain⟨r,hr⟩:∃r,Sb (dl s)=r:=⟨_,rfl⟩;rw[hr] at D u;have j1:((s[0].toNat:Int)==34)=true:=by rw[h3];rfl
  have E:=Ax D;have HW:=Ax u;have f:=Ax h;have g:=Ax i;clear D u h i y C G X W h1 R hr h2 L M h3;cases mk
  all_goals
   go_enter Tryz.func87,Tryz.ntmps87;go_upto_region 1 with fail
   rw[m.out];clear m;go_wp2_with fail;refine o.out.mono ?_;rintro e V ⟨rfl,rfl⟩;clear o;go_wp2_with fail;refine f.out.mono ?_;rintro e V ⟨rfl,rfl⟩;clear f;go_wp2_with fail;refine g.out.mono ?_;rintro e V ⟨rfl,rfl⟩;clear g;go_wp2_with fail;refine E.out.mono ?_;rintro e V ⟨F,he⟩;obtain⟨c0,c1,c2,c3,c4,c5,c6,fz⟩:=x.out.below F;have HBV:=Ax (j.out.trans (F.mono j.out.size));clear x F E;cases r with
   |ok p=>
    exact zz1
   |error q=>
    exact zz2
 rw[Ao h3] at u;have j1:((s[0].toNat:Int)==34)=false:=y 34 h3;by_cases h4:s[0]=63
 ·rw[Ap h4] at u;have j2:((s[0].toNat:Int)==63)=true:=by rw[h4];rfl
  have f:=Ax h;have g:=Ax i;cases mk with
  |true=>
   rw[Ap rfl] at u;rw[X] at u C G Hod;have I:(q.take N).length=N:=by rw[List.length_take];omega
   have HW:=Ax u;have Hlt:=Ax I;have hj:(own.size:Int)=(N:Int):=by omega
   have Hj:=Ax hj;have j8:=Ax C;have i2:(own.size:Int)<=65536:=by omega
   clear u h i y X I W h1 R h2 L M h3 h4 hj C;go_enter Tryz.func87,Tryz.ntmps87;go_upto_region 1 with fail
   rw[m.out];clear m;go_wp2_with fail;refine o.out.mono ?_;rintro e V ⟨rfl,rfl⟩;clear o;go_wp2_with fail;refine f.out.mono ?_;rintro e V ⟨rfl,rfl⟩;clear f;go_wp2_with fail;refine g.out.mono ?_;rintro e V ⟨rfl,rfl⟩;clear g;obtain⟨c0,c1,c2,c3,c4,c5,c6,fz⟩:=x.out;by_cases hlong:12<N
   ·have k1:decide ((12:Int)<(own.size:Int))=true:=by have:=Hj.out;simp;omega
    have hT:=(Bi.set7 (w:=A) (b:=w.heap.size) ⟨c0,c1,c2,c3,c4,c5,c6,fz⟩ 2 own 0 0 ⟨#[]⟩ 0 0).set7 2 own 0 0 ⟨#[]⟩ 0 0;have hB2:=A7 (A7 j.out (Ak _) 2 own 0 0 ⟨#[]⟩ 0 0) (Ak _) 2 own 0 0 ⟨#[]⟩ 0 0;obtain⟨Z,hZ⟩:∃Z,set7 (set7 A w.heap.size 2 own 0 0 ⟨#[]⟩ 0 0) w.heap.size 2 own 0 0 ⟨#[]⟩ 0 0=Z:=⟨_,rfl⟩;rw[hZ] at hT hB2;unfold set7 at hZ;have HT:=Ax hT;have HB3:=Ax hB2;have HZ:=Ax hZ;clear hT hB2 hZ;go_wp2_with fail;rw[HZ.out];obtain⟨d0,d1,d2,d3,d4,d5,d6,_⟩:=HT.out;clear c0 c1 c2 c3 c4 c5 c6 fz;refine Au (v:= .tuple #[.agg #[.int .u8 2,.string own,.int .u8 0,.int .i64 0,.string ⟨#[]⟩,.int .i64 0,.int .i64 0],.int .i64 (1+(own.size:Int)),.int .i64 4]) rN rfl ?_;rw[HW.out];unfold C7;rw[Ap sX];exact⟨HB3.out,⟨2,q.take N,v0⟩,_,by rw[←J9 own,Hod.out];rfl⟩
   have k1:decide ((12:Int)<(own.size:Int))=false:=by have:=Hj.out;simp;omega
   have hT:=(Bi.set7 (w:=A) (b:=w.heap.size) ⟨c0,c1,c2,c3,c4,c5,c6,fz⟩ 2 own 0 0 ⟨#[]⟩ 0 0).set7 2 own 0 0 ⟨#[]⟩ 0 0;have hB2:=A7 (A7 j.out (Ak _) 2 own 0 0 ⟨#[]⟩ 0 0) (Ak _) 2 own 0 0 ⟨#[]⟩ 0 0;obtain⟨Z,hZ⟩:∃Z,set7 (set7 A w.heap.size 2 own 0 0 ⟨#[]⟩ 0 0) w.heap.size 2 own 0 0 ⟨#[]⟩ 0 0=Z:=⟨_,rfl⟩;rw[hZ] at hT hB2;unfold set7 at hZ;have HT:=Ax hT;have HB3:=Ax hB2;have HZ:=Ax hZ;clear hT hB2 hZ;go_wp2_with fail;rw[HZ.out];obtain⟨d0,d1,d2,d3,d4,d5,d6,_⟩:=HT.out;clear c0 c1 c2 c3 c4 c5 c6 fz;refine Au (v:= .tuple #[.agg #[.int .u8 2,.string own,.int .u8 0,.int .i64 0,.string ⟨#[]⟩,.int .i64 0,.int .i64 0],.int .i64 (1+(own.size:Int)),.int .i64 0]) rN rfl ?_;exact zwi
  |false=>
   rw[Ao rI] at u;have HW:=Ax u;clear u h i y X W h1 R h2 L M h3 h4 C G;go_enter Tryz.func87,Tryz.ntmps87;go_upto_region 1 with fail
   rw[m.out];clear m;go_wp2_with fail;refine o.out.mono ?_;rintro e V ⟨rfl,rfl⟩;clear o;go_wp2_with fail;refine f.out.mono ?_;rintro e V ⟨rfl,rfl⟩;clear f;go_wp2_with fail;refine g.out.mono ?_;rintro e V ⟨rfl,rfl⟩;clear g;obtain⟨c0,c1,c2,c3,c4,c5,c6,fz⟩:=x.out;have hT:=Bi.set7 (w:=A) (b:=w.heap.size) ⟨c0,c1,c2,c3,c4,c5,c6,fz⟩ 3 ⟨#[]⟩ 0 0 ⟨#[]⟩ 0 0;have hB2:=A7 j.out (Ak _) 3 ⟨#[]⟩ 0 0 ⟨#[]⟩ 0 0;obtain⟨Z,hZ⟩:∃Z,set7 A w.heap.size 3 ⟨#[]⟩ 0 0 ⟨#[]⟩ 0 0=Z:=⟨_,rfl⟩;rw[hZ] at hT hB2;unfold set7 at hZ;have HT:=Ax hT;have HB3:=Ax hB2;have HZ:=Ax hZ;clear hT hB2 hZ;go_wp2_with fail;rw[HZ.out];obtain⟨d0,d1,d2,d3,d4,d5,d6,_⟩:=HT.out;clear c0 c1 c2 c3 c4 c5 c6 fz;refine Au (v:= .tuple #[.agg #[.int .u8 3,.string ⟨#[]⟩,.int .u8 0,.int .i64 0,.string ⟨#[]⟩,.int .i64 0,.int .i64 0],.int .i64 1,.int .i64 0]) rN rfl ?_;rw[HW.out];exact⟨HB3.out,rfl⟩
 rw[Ao h4] at u;have j2:((s[0].toNat:Int)==63)=false:=y 63 h4;by_cases h5:s[0]=35/\mk=true
 ·rw[Ap h5] at u;obtain⟨h5,rfl⟩:=h5;have j3:((s[0].toNat:Int)==35)=true:=by rw[h5];rfl
  have f:=Ax h;have g:=Ax i;rw[X] at u C G Hod;have I:(q.take N).length=N:=by rw[List.length_take];omega
  have HW:=Ax u;have Hlt:=Ax I;have hj:(own.size:Int)=(N:Int):=by omega
  have Hj:=Ax hj;have j8:=Ax C;have i2:(own.size:Int)<=65536:=by omega
  clear u h i y X I W h1 R h2 L M h3 h4 hj C h5;go_enter Tryz.func87,Tryz.ntmps87;go_upto_region 1 with fail
  rw[m.out];clear m;go_wp2_with fail;refine o.out.mono ?_;rintro e V ⟨rfl,rfl⟩;clear o;go_wp2_with fail;refine f.out.mono ?_;rintro e V ⟨rfl,rfl⟩;clear f;go_wp2_with fail;refine g.out.mono ?_;rintro e V ⟨rfl,rfl⟩;clear g;obtain⟨c0,c1,c2,c3,c4,c5,c6,fz⟩:=x.out;by_cases hlong:12<N
  ·have k1:decide ((12:Int)<(own.size:Int))=true:=by have:=Hj.out;simp;omega
   have hT:=(Bi.set7 (w:=A) (b:=w.heap.size) ⟨c0,c1,c2,c3,c4,c5,c6,fz⟩ 6 own 5 0 own 0 0).set7 6 own 5 0 own 0 0;have hB2:=A7 (A7 j.out (Ak _) 6 own 5 0 own 0 0) (Ak _) 6 own 5 0 own 0 0;obtain⟨Z,hZ⟩:∃Z,set7 (set7 A w.heap.size 6 own 5 0 own 0 0) w.heap.size 6 own 5 0 own 0 0=Z:=⟨_,rfl⟩;rw[hZ] at hT hB2;unfold set7 at hZ;have HT:=Ax hT;have HB3:=Ax hB2;have HZ:=Ax hZ;clear hT hB2 hZ;go_wp2_with fail;rw[HZ.out];obtain⟨d0,d1,d2,d3,d4,d5,d6,_⟩:=HT.out;clear c0 c1 c2 c3 c4 c5 c6 fz;refine Au (v:= .tuple #[.agg #[.int .u8 6,.string own,.int .u8 5,.int .i64 0,.string own,.int .i64 0,.int .i64 0],.int .i64 (1+(own.size:Int)),.int .i64 4]) rN rfl ?_;rw[HW.out];unfold C7;rw[Ap sX];exact⟨HB3.out,⟨6,q.take N,(5,0,q.take N)⟩,_,by rw[←J9 own,Hod.out];rfl⟩
  have k1:decide ((12:Int)<(own.size:Int))=false:=by have:=Hj.out;simp;omega
  have hT:=(Bi.set7 (w:=A) (b:=w.heap.size) ⟨c0,c1,c2,c3,c4,c5,c6,fz⟩ 6 own 5 0 own 0 0).set7 6 own 5 0 own 0 0;have hB2:=A7 (A7 j.out (Ak _) 6 own 5 0 own 0 0) (Ak _) 6 own 5 0 own 0 0;obtain⟨Z,hZ⟩:∃Z,set7 (set7 A w.heap.size 6 own 5 0 own 0 0) w.heap.size 6 own 5 0 own 0 0=Z:=⟨_,rfl⟩;rw[hZ] at hT hB2;unfold set7 at hZ;have HT:=Ax hT;have HB3:=Ax hB2;have HZ:=Ax hZ;clear hT hB2 hZ;go_wp2_with fail;rw[HZ.out];obtain⟨d0,d1,d2,d3,d4,d5,d6,_⟩:=HT.out;clear c0 c1 c2 c3 c4 c5 c6 fz;refine Au (v:= .tuple #[.agg #[.int .u8 6,.string own,.int .u8 5,.int .i64 0,.string own,.int .i64 0,.int .i64 0],.int .i64 (1+(own.size:Int)),.int .i64 0]) rN rfl ?_;exact zwi
 rw[Ao h5] at u;have D:=fG s A h0 hs;obtain⟨r,hr⟩:∃r,F5 (dl s)=r:=⟨_,rfl⟩;rw[hr] at D u;have E:=Ax D;have HW:=Ax u;have f:=Ax h;have g:=Ax i;cases mk with
 |true=>
  have j3:((s[0].toNat:Int)==35)=false:=y 35 fun e=>h5 ⟨e,rfl⟩
  clear D u h i y C G X W h1 R hr h2 L M h3 h4 h5;go_enter Tryz.func87,Tryz.ntmps87;go_upto_region 1 with fail
  rw[m.out];clear m;go_wp2_with fail;refine o.out.mono ?_;rintro e V ⟨rfl,rfl⟩;clear o;go_wp2_with fail;refine f.out.mono ?_;rintro e V ⟨rfl,rfl⟩;clear f;go_wp2_with fail;refine g.out.mono ?_;rintro e V ⟨rfl,rfl⟩;clear g;go_wp2_with fail;refine E.out.mono ?_;rintro e V ⟨F,he⟩;obtain⟨c0,c1,c2,c3,c4,c5,c6,fz⟩:=x.out.below F;have HBV:=Ax (j.out.trans (F.mono j.out.size));clear x F E;cases r with
  |ok p=>
   exact zz1
  |error q=>
   exact zz2
 |false=>
  clear D u h i C G X W h1 R hr h2 L M h3 h4 h5;by_cases h6:s[0]=35
  ·have j3:((s[0].toNat:Int)==35)=true:=by rw[h6];rfl
   clear h6 y;go_enter Tryz.func87,Tryz.ntmps87;go_upto_region 1 with fail
   rw[m.out];clear m;go_wp2_with fail;refine o.out.mono ?_;rintro e V ⟨rfl,rfl⟩;clear o;go_wp2_with fail;refine f.out.mono ?_;rintro e V ⟨rfl,rfl⟩;clear f;go_wp2_with fail;refine g.out.mono ?_;rintro e V ⟨rfl,rfl⟩;clear g;go_wp2_with fail;refine E.out.mono ?_;rintro e V ⟨F,he⟩;obtain⟨c0,c1,c2,c3,c4,c5,c6,fz⟩:=x.out.below F;have HBV:=Ax (j.out.trans (F.mono j.out.size));clear x F E;cases r with
   |ok p=>
    exact zz1
   |error q=>
    exact zz2
  have j3:((s[0].toNat:Int)==35)=false:=y 35 h6;clear h6 y;go_enter Tryz.func87,Tryz.ntmps87;go_upto_region 1 with fail
  rw[m.out];clear m;go_wp2_with fail;refine o.out.mono ?_;rintro e V ⟨rfl,rfl⟩;clear o;go_wp2_with fail;refine f.out.mono ?_;rintro e V ⟨rfl,rfl⟩;clear f;go_wp2_with fail;refine g.out.mono ?_;rintro e V ⟨rfl,rfl⟩;clear g;go_wp2_with fail;refine E.out.mono ?_;rintro e V ⟨F,he⟩;obtain⟨c0,c1,c2,c3,c4,c5,c6,fz⟩:=x.out.below F;have HBV:=Ax (j.out.trans (F.mono j.out.size));clear x F E;cases r with
  |ok p=>
   exact zz1
  |error q=>
   exact zz2
end Go.Proofs.YtgfakdobajgnfaaGreatDoor

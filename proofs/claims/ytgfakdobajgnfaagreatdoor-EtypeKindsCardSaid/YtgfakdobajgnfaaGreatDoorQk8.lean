import Derived.Lib.ReplaceLaws
import Derived.Test.YtgfakdobajgnfaaGreatDoorQk6
set_option maxRecDepth 100000
set_option maxHeartbeats 16000000
namespace Go.Proofs.YtgfakdobajgnfaaGreatDoor
open Go Go.RowKit Go.Lib Go.Sort Go.Shelf
theorem Pa {B:Nat}{a w:World}(h:Below B a w)(n:Nat):Below B a (w.drewN n):=⟨h.os,h.tape,h.output,h.size,h.block⟩
theorem Xu (n:Int)(w:World)(h0: -9223372036854775808<=n)(h1:n<=9223372036854775807)(m:Rd w):
 Calls Tryz.prog 44 #[.int .i64 n] w fun e w'=>e= .returned (.string ⟨(K8 n).toArray⟩)/\Below w.heap.size w w':=by
 have hf:=Tryz.strconv_FormatInt_10 n h0 h1 w m.tab;have Hf:=Ax hf;clear hf m;go_enter Tryz.func44,Tryz.ntmps44;go_wp2_with fail;refine Hf.out.mono ?_;rintro e W ⟨rfl,k,os,hW⟩;have x:Below w.heap.size w W:=by rw[hW];exact Ru w k os
 clear hW;obtain⟨S,N⟩:∃S:ByteArray,(⟨(itoa n).toArray⟩:ByteArray)=S:=⟨_,rfl⟩;have o:dl S=itoa n:=by rw[←N]
 rw[N];clear N;have y:S.size<=21:=by rw[←A5,o];exact itoa_length_le n h0 h1
 obtain⟨d,hd⟩:∃d,decDigits n.natAbs=d:=⟨_,rfl⟩;have A:1<=d.length:=by rw[←hd];exact List.length_pos_iff.2 (Kr _)
 have u:itoa n=if n<0 then 45::d else d:=by
  rw[←hd];unfold itoa;by_cases h:n<0
  ·rw[Ap h,Ap h]
  rw[Ao h,Ao h];congr 1;omega
 have O:∃L:ByteArray,∃T:ByteArray,dl T=d/\T.size<=21/\dl L=(if n<0 then[45] else[])/\((n<0/\L=⟨#[45]⟩/\T=S.extract 1 S.size/\1<=S.size)\/(¬n<0/\L=⟨#[]⟩/\T=S)):=by
  by_cases h:n<0
  ·have e:dl S=45::d:=by rw[o,u,Ap h]
   refine⟨⟨#[45]⟩,S.extract 1 S.size,by rw[Ft,e];rfl,?_,by rw[Ap h],.inl ⟨h,rfl,rfl,?_⟩⟩
   ·rw[←A5,Ft,List.length_drop,A5];omega
   rw[←A5,e];simp
  exact⟨⟨#[]⟩,S,by rw[o,u,Ao h],y,by rw[Ao h],.inr ⟨h,rfl,rfl⟩⟩
 obtain⟨L,T,U,C,p,v⟩:=O;have D:1<=T.size:=by rw[←A5,U];exact A
 have Hd:=Ax hd;have HT:=Ax U;have E:=Ax p;have M:=Ax x;clear o u hd U p x y A Hf
 have fin:∀T2:ByteArray,(∃j,dl T2=List.replicate j 48++d/\(j=0\/T2.size<=5))->¬T2.size<5->dl T2=Ky d:=fun T2 ⟨j,e,hj⟩ g=>by
  have hl:=Ar List.length e;rw[A5,Ab,List.length_replicate] at hl;have V:j=5 - d.length:=by omega
  rw[e,V];rfl
 have r:=Ax fin;clear fin;rcases v with ⟨hn,rfl,rfl,b7⟩|⟨hn,rfl,rfl⟩
 ·have i1:(1:Int)<=(S.size:Int):=by omega
  go_wp2
  go_quiet (fail)
  go_wp2
  go_loop [3] (fun v3=>∃T2:ByteArray,v3= .string T2/\T2.size<=21/\1<=T2.size/\Hid (∃j,dl T2=List.replicate j 48++d/\(j=0\/T2.size<=5))) (fun v3=>match v3 with| .string s=>5 - s.size|_=>0)
  case atStart=>exact⟨_,rfl,C,D,0,HT.out,.inl rfl⟩
  obtain⟨T2,rfl,F,X,hq⟩:=hrel;by_cases g:T2.size<5
  ·exact zy2
  have G:=r.out T2 hq.out g;have i2:5<=(T2.size:Int):=by omega
  have Y:5<=T2.size:=by omega
  have i3:4<=(T2.size:Int):=by omega
  have I:=Ax G;clear hq G g;go_wp2_with fail;refine(Tryz.strings_TrimRight_one _ 48 rH _ ?hs).mono ?_
  case hs=>rw[ByteArray.size_extract];omega
  rintro e w' ⟨rfl,rfl⟩;obtain⟨R,m⟩:∃R:ByteArray,(⟨(trimRightB (T2.extract (T2.size - 4) T2.size).data.toList 48).toArray⟩:ByteArray)=R:=⟨_,rfl⟩;rw[m]
  have hRd:dl R=trimRightB ((dl T2).drop (T2.size - 4)) 48:=by
   rw[←m];show trimRightB (dl (T2.extract (T2.size - 4) T2.size)) 48=_;rw[Ft]
  obtain⟨q,hq⟩:∃q,decide (R.size=0)=q:=⟨_,rfl⟩;obtain⟨Z,c,f⟩:=D9 R hq
  have i:G8 ((dl T2).drop (T2.size - 4))=if q then[48] else dl R:=by
   exact zxk
  have HF:Hid (K8 n=dl ⟨#[45]⟩++((dl T2).take (T2.size - 4)++46::(if q then[48] else dl R))):=Ax (by
   unfold K8
   rw[Hd.out,←I.out,A5,i,←E.out])
  have a8:R.size<=21:=by
   exact zv7
  clear m hRd hq i I;cases q
  ·have he:=f rfl;clear c f
   go_wp2
   go_ret;exact⟨Ee uI,Pa M.out _⟩
  have he:=c rfl;clear c f
  go_wp2
  go_ret;exact⟨Ee uI,Pa M.out _⟩
 have b8:0<=n:=by omega
 go_wp2
 go_loop [3] (fun v3=>∃T2:ByteArray,v3= .string T2/\T2.size<=21/\1<=T2.size/\Hid (∃j,dl T2=List.replicate j 48++d/\(j=0\/T2.size<=5))) (fun v3=>match v3 with| .string s=>5 - s.size|_=>0)
 case atStart=>exact⟨_,rfl,C,D,0,HT.out,.inl rfl⟩
 obtain⟨T2,rfl,F,X,hq⟩:=hrel;by_cases g:T2.size<5
 ·exact zy2
 have G:=r.out T2 hq.out g;have i2:5<=(T2.size:Int):=by omega
 have Y:5<=T2.size:=by omega
 have i3:4<=(T2.size:Int):=by omega
 have I:=Ax G;clear hq G g;go_wp2_with fail;refine(Tryz.strings_TrimRight_one _ 48 rH _ ?hs).mono ?_
 case hs=>rw[ByteArray.size_extract];omega
 rintro e w' ⟨rfl,rfl⟩;obtain⟨R,m⟩:∃R:ByteArray,(⟨(trimRightB (T2.extract (T2.size - 4) T2.size).data.toList 48).toArray⟩:ByteArray)=R:=⟨_,rfl⟩;rw[m]
 have hRd:dl R=trimRightB ((dl T2).drop (T2.size - 4)) 48:=by
  rw[←m];show trimRightB (dl (T2.extract (T2.size - 4) T2.size)) 48=_;rw[Ft]
 obtain⟨q,hq⟩:∃q,decide (R.size=0)=q:=⟨_,rfl⟩;obtain⟨Z,c,f⟩:=D9 R hq
 have i:G8 ((dl T2).drop (T2.size - 4))=if q then[48] else dl R:=by
  exact zxk
 have HF:Hid (K8 n=dl ⟨#[]⟩++((dl T2).take (T2.size - 4)++46::(if q then[48] else dl R))):=Ax (by
  unfold K8
  rw[Hd.out,←I.out,A5,i,←E.out])
 have a8:R.size<=21:=by
  exact zv7
 clear m hRd hq i I;cases q
 ·have he:=f rfl;clear c f
  go_wp2
  go_ret;exact⟨Ee uI,M.out⟩
 have he:=c rfl;clear c f
 go_wp2
 go_ret;exact⟨Ee uI,M.out⟩
open Go Go.RowKit Go.Lib Go.Sort Go.Shelf
theorem aJ (s:ByteArray)(w:World)(I:s.size<=200)(q:Rd w):
 Calls Tryz.prog 45 #[.string s] w fun e w'=>e= .returned (.string ⟨(Z2 (dl s)).toArray⟩)/\Below w.heap.size w w':=by
 obtain⟨m,i⟩:=q.ml;have r:=countB_mul_le ⟨#[92]⟩ rH s.size s (Ak _)
 have j:=Tryz.strings_ReplaceAll s ⟨#[92]⟩ ⟨#[92,92]⟩ m w rF i rH (by
  have k:(⟨#[92]⟩:ByteArray).size=1:=rfl;have n:(⟨#[92,92]⟩:ByteArray).size=2:=rfl;rw[k] at r;rw[n]
  omega)
 have u:replaceAll (dl s) [92] [92,92]=N7 92 [92,92] (dl s):=I9 92 [92,92] _ rH;obtain⟨S,o⟩:∃S:ByteArray,(⟨(replaceAll (dl s) [92] [92,92]).toArray⟩:ByteArray)=S:=⟨_,rfl⟩;have c:dl S=N7 92 [92,92] (dl s):=by rw[←o,Da,u]
 have A:S.size<=400:=by
  rw[←A5,c,←A5] at*
  unfold N7;rw[List.length_flatMap]
  have:∀l:List UInt8,(l.map fun b=>(if b=92 then[92,92] else[b]).length).sum<=2*l.length:=fun l=>by
   induction l with
   |nil=>simp
   |cons b l ih=>
    rw[List.map_cons,List.sum_cons,Aa]
    have:(if b=92 then[92,92] else[b]).length<=2:=by split<;>simp
    omega
  have:=this (dl s)
  omega
 have v:(⟨((replaceAll s.data.toList (⟨#[92]⟩:ByteArray).data.toList (⟨#[92,92]⟩:ByteArray).data.toList)).toArray⟩:ByteArray)=S:=o;rw[v] at j;have x:=countB_mul_le ⟨#[34]⟩ rH S.size S (Ak _)
 have p:=fun V (hV:Below w.heap.size w V)=>Tryz.strings_ReplaceAll S ⟨#[34]⟩ ⟨#[92,34]⟩ m V rF (A4 hV i) rH (by
  have k:(⟨#[34]⟩:ByteArray).size=1:=rfl;have n:(⟨#[92,34]⟩:ByteArray).size=2:=rfl;rw[k] at x;rw[n]
  omega)
 obtain⟨T,g⟩:∃T:ByteArray,(⟨(replaceAll (dl S) [34] [92,34]).toArray⟩:ByteArray)=T:=⟨_,rfl⟩;have y:(⟨((replaceAll S.data.toList (⟨#[34]⟩:ByteArray).data.toList (⟨#[92,34]⟩:ByteArray).data.toList)).toArray⟩:ByteArray)=T:=g;simp only[y] at p;have d:dl T=Kc (dl s):=by rw[←g,Da,I9 34 [92,34] _ rH,c];rfl
 have C:T.size<=800:=by
  rw[←A5,←g,Da,I9 34 [92,34] _ rH];unfold N7;rw[List.length_flatMap]
  have:∀l:List UInt8,(l.map fun b=>(if b=34 then[92,34] else[b]).length).sum<=2*l.length:=fun l=>by
   induction l with
   |nil=>simp
   |cons b l ih=>
    rw[List.map_cons,List.sum_cons,Aa]
    have:(if b=34 then[92,34] else[b]).length<=2:=by split<;>simp
    omega
  have:=this (dl S)
  rw[A5] at this;omega
 have D:=Ax j;have E:=Ax p;have F:=Ax d;clear j p d g y v o c u r x q i;go_enter Tryz.func45,Tryz.ntmps45;go_wp2_with fail;refine D.out.mono ?_;rintro e W ⟨rfl,h⟩;go_wp2_with fail;refine(E.out W h).mono ?_;rintro e L ⟨rfl,f⟩;have G:=Ax (h.trans (f.mono h.size));clear h f
 go_wp2
 go_ret;exact⟨Ee (by rw[Dz,Dz,F.out,Da];rfl),G.out⟩
theorem nK (s:ByteArray):G9 s=Jh (dl s):=by
 unfold G9 Jh;have d:=A5 s;cases h:s.data.toList with
 |nil=>simp [dl,h]
 |cons c r=>
  have e:dl s=c::r:=h;rw[e] at d ⊢;simp only[Aa] at d
  have f:decide (s.size<=12)=decide (r.length<12):=by
   rw[←d];exact decide_eq_decide.2 rF
  have g:Ef c.toNat=D7 c:=by simp [Ef,D7]
  have i:(!r.any fun b=>Ij b.toNat)=r.all fun b=>D7 b||Bg b:=by
   rw[List.not_any_eq_all_not];congr 1;funext b;simp [Ij,Ef,Jd,D7,Bg]
  simp only[f,g,i]
theorem nS (s:ByteArray):K4 s=cN (dl s):=by
 unfold K4 cN;rw[A5];congr 1;rw[List.not_any_eq_all_not];congr 1;funext b;simp only[I8,El];by_cases h1:b.toNat<32\/126<b.toNat
 ·rw[Am h1];by_cases c:32<=b.toNat
  ·have d:¬b.toNat<=126:=by omega
   simp [d]
  simp [c]
 have c:32<=b.toNat:=by omega
 have d:b.toNat<=126:=by omega
 rw[An h1];simp [c,d]
theorem Kt (v:Vl):cZ v=Fl v.k v.n (dl v.s):=by
 have c:decide (v.s.size=0)=(dl v.s).isEmpty:=by
  rw[←A5];cases dl v.s<;>simp
 unfold cZ Fl;rw[c,nK,nS]
def Nu (v:Vl):ByteArray:=⟨(C3 v.k v.n (dl v.s)).toArray⟩
def Vl.fit (v:Vl):Prop:=v.s.size<=9223372036854775807/\ -9223372036854775808<=v.n/\v.n<=9223372036854775807
theorem Sn (v:Vl)(w:World)(R:v.fit)(E:Rd w):
 Calls Tryz.prog 15 #[.agg #[.int .u8 v.k,.int .i64 v.n,.string v.s]] w fun e w'=>e= .returned (.string (Nu v))/\Below w.heap.size w w':=by
 obtain⟨T,I,L⟩:=R;have m:Below w.heap.size w (w.alloc (.cells #[.int .u8 v.k,.int .i64 v.n,.string v.s] 23)):=(Aq w.heap.size w).alloc (Ak _) _;have u:=oU v T (w.alloc (.cells #[.int .u8 v.k,.int .i64 v.n,.string v.s] 23));have o:=(MapKept.heap_alloc w (.cells #[.int .u8 v.k,.int .i64 v.n,.string v.s] 23)).1;rw[Kt] at u;unfold Nu C3;obtain⟨k,n,s⟩:=v;simp only at*
 have h:∀V,Below (w.heap.size+1) (w.alloc (.cells #[.int .u8 k,.int .i64 n,.string s] 23)) V->V.cell? ⟨w.heap.size,0,none⟩=some (.int .u8 k)/\V.cell? ⟨w.heap.size,1,none⟩=some (.int .i64 n)/\V.cell? ⟨w.heap.size,2,none⟩=some (.string s)/\Below w.heap.size w V/\Rd V:=fun V M=>by
  have C:(w.alloc (.cells #[.int .u8 k,.int .i64 n,.string s] 23)).heap.size=w.heap.size+1:=by simp
  have i:=(M.block w.heap.size rF).trans o;have x:=m.trans (M.mono rF);exact⟨by simp [World.cell?,i],by simp [World.cell?,i],by simp [World.cell?,i],x,E.below x⟩
 have p:=Ax h;have C:(w.alloc (.cells #[.int .u8 k,.int .i64 n,.string s] 23)).heap.size=w.heap.size+1:=by simp
 rw[C] at u;have y:=Ax u;obtain⟨U,X,Y,_,_⟩:=h (w.alloc (.cells #[.int .u8 k,.int .i64 n,.string s] 23)) (Aq _ _);cases hmy:Fl k n (dl s) with
 |false=>
  rw[hmy] at y;simp only[Bool.false_eq_true,if_false];clear u o m h E C hmy;go_enter Tryz.func15,Tryz.ntmps15;go_wp2_with fail;refine y.out.mono ?_;rintro e W ⟨rfl,i⟩;have HB:=Ax (p.out W i).2.2.2.1;clear i;exact zzf
 |true=>
  rw[hmy] at y;simp only[if_true];have F:=Ax (Kl hmy);clear u o m h E C hmy;go_enter Tryz.func15,Tryz.ntmps15;go_wp2_with fail;refine y.out.mono ?_;rintro e W ⟨rfl,i⟩;obtain⟨d0,d1,d2,f,d⟩:=p.out W i;clear i U X Y y p;have c:=Ax f;rcases F.out with ⟨rfl,rfl,r⟩|⟨rfl,r⟩|⟨rfl,r⟩|⟨rfl,rfl,G,Z⟩|⟨rfl,r,D⟩|⟨rfl,rfl,D⟩
  ·clear f d r
   go_wp2
   go_ret;exact⟨rfl,c.out⟩
  ·have j:=Ax (Tryz.strconv_FormatInt_10 n I L W d.tab);clear f d r;go_wp2_with fail;refine j.out.mono ?_;rintro e A ⟨rfl,q,os,N⟩;have HB:=Ax (c.out.trans ((by rw[N];exact Ru W q os:Below W.heap.size W A).mono c.out.size));clear N;exact zzf
  ·have j:=Ax (Xu n W I L d);clear f d r;go_wp2_with fail;refine j.out.mono ?_;rintro e A ⟨rfl,g⟩;have HB:=Ax (c.out.trans (g.mono c.out.size));clear g;exact zzf
  ·rw[A5] at G;have j:=Ax (aJ s W G d);clear f d Z G;go_wp2_with fail;refine j.out.mono ?_;rintro e A ⟨rfl,g⟩;have HB:=Ax (c.out.trans (g.mono c.out.size));clear g;exact zzf
  ·clear f d r;rcases D with rfl|rfl
   ·have j:=Ax (Tryz.strconv_FormatBool false W);go_wp2_with fail;refine j.out.mono ?_;rintro e A ⟨rfl,rfl⟩
    go_wp2
    go_ret;exact⟨rfl,c.out⟩
   have j:=Ax (Tryz.strconv_FormatBool true W);go_wp2_with fail;refine j.out.mono ?_;rintro e A ⟨rfl,rfl⟩
   go_wp2
   go_ret;exact⟨rfl,c.out⟩
  have O:s.size<=12:=by rw[←A5];exact(E8 D).2.1
  clear f d D
  go_wp2
  go_ret;exact⟨Ee (by rw[Dz];rfl),c.out⟩
open Go Go.RowKit Go.Lib Go.Sort Go.Shelf
def Qs (n:Nat):Bool:=decide (n<48\/57<n)
theorem pA (r:Nat)(h:128<=r):Qs r=true:=by
 have c:r<48\/57<r:=by omega
 simp [Qs,c]
theorem mP (x:Nat)(W:World)(f:x<=1114111):Calls Tryz.prog 134 #[.int .i32 (x:Int)] W fun e w'=>e= .returned (.bool (Qs x))/\w'=W:=by
 by_cases h1:x<48
 ·have c:decide ((x:Int)<48)=true:=by simp;omega
  go_enter Tryz.func134,Tryz.ntmps134
  go_wp2
  go_ret;exact⟨by simp [Qs,h1],rfl⟩
 have c:decide ((x:Int)<48)=false:=by simp;omega
 by_cases h2:57<x
 ·have d:decide ((57:Int)<(x:Int))=true:=by simp;omega
  go_enter Tryz.func134,Tryz.ntmps134
  go_wp2
  go_ret;exact⟨by simp [Qs,h2],rfl⟩
 have d:decide ((57:Int)<(x:Int))=false:=by simp;omega
 go_enter Tryz.func134,Tryz.ntmps134
 go_wp2
 go_ret;exact⟨by simp [Qs,h1,h2],rfl⟩
theorem fL (s:ByteArray)(w:World):Calls Tryz.prog 113 #[.string s,.func (.func 134) #[] #[]] w fun e w'=>e= .returned (.bool (s.data.toList.any fun b=>Qs b.toNat))/\Below w.heap.size w w':=by
 rw[←Pw Qs pA];exact Tryz.strings_ContainsFunc_runes 134 #[] (enters_of Tryz.func134 rG rfl) Qs s w fun W x c _=>(mP x W c).mono fun e w' ⟨d,f⟩=>⟨d,0,f⟩
theorem mT (s:ByteArray):F3 (dl s)=(!decide (s.size=0) && !(s.data.toList.any fun b=>Qs b.toNat)):=by
 unfold F3
 have e:decide (s.size=0)=(dl s).isEmpty:=by
  rw[←A5];cases dl s<;>simp
 rw[e];congr 1;rw[List.not_any_eq_all_not];congr 1;funext b;simp only[Qs,Bg];by_cases h1:b.toNat<48\/57<b.toNat
 ·rw[Am h1];by_cases c:48<=b.toNat
  ·have d:¬b.toNat<=57:=by omega
   simp [d]
  simp [c]
 have c:48<=b.toNat:=by omega
 have d:b.toNat<=57:=by omega
 rw[An h1];simp [c,d]
theorem Ri (s:ByteArray)(w:World):Calls Tryz.prog 83 #[.string s] w fun e w'=>e= .returned (.bool (F3 (dl s)))/\Below w.heap.size w w':=by
 rw[mT];obtain⟨q,g⟩:∃q,decide (s.size=0)=q:=⟨_,rfl⟩;obtain⟨i,c,d⟩:=D9 s g;rw[g];clear g;have f:=fL s w;obtain⟨b,h⟩:∃b,(s.data.toList.any fun b=>Qs b.toNat)=b:=⟨_,rfl⟩;rw[h] at f ⊢;have Hc:=Ax f;clear f h;cases q
 ·have j:=d rfl;clear c d;go_enter Tryz.func83,Tryz.ntmps83;exact zw9
 have j:=c rfl;clear c d;go_enter Tryz.func83,Tryz.ntmps83
 go_wp2
 go_ret;exact⟨Iz rI,Aq _ _⟩
def nI (w:World)(r:Except Int (Int×Int))(e:Ending)(w':World):Prop:=
 Below w.heap.size w w'/\match r with
  | .ok p=>e= .returned (.tuple #[.agg #[.int .u8 p.1,.int .i64 p.2,.string ⟨#[]⟩],.int .i64 0])
  | .error q=>∃k n s,e= .returned (.tuple #[.agg #[.int .u8 k,.int .i64 n,.string s],.int .i64 q])
theorem qJ (s:ByteArray):Lib.trimPrefix (dl s) [45]=(if(dl s).head? =some 45 then(dl s).tail else dl s):=by
 unfold Lib.trimPrefix Lib.hasPrefix;cases dl s with
 |nil=>rfl
 |cons c r=>
  exact zv8
theorem rA (s:ByteArray):Lib.hasPrefix (dl s) [45]=decide ((dl s).head? =some 45):=by
 unfold Lib.hasPrefix;cases dl s with
 |nil=>rfl
 |cons c r=>
  exact zv8
def pP (V:World)(n:Int)(e:Ending)(w':World):Prop:=e= .returned (.tuple #[.int .i64 n,.nilIface])/\Below V.heap.size V w'
def pI (V:World)(e:Ending)(w':World):Prop:=∃z t N,e= .returned (.tuple #[.int .i64 z,.iface t (.pointer (some ⟨N,0,none⟩))])/\Below V.heap.size V w'
theorem mY (D:ByteArray)(m:D.size<=10000)(V:World)(j:Rd V):Calls Tryz.prog 85 #[.string D,.int .i64 10,.int .i64 64] V (fun e w'=>match parseIntB 64 (dl D) with
 | .ok n=>pP V n e w'
 |_=>pI V e w'):=by
 cases h:parseIntB 64 (dl D)
 case ok n=>
  refine(Tryz.strconv_ParseInt_10_at64_ok D rF n h V).mono ?_;rintro e w' ⟨c,k⟩;refine⟨c,?_⟩;rcases k with rfl|⟨t,rfl⟩
  ·exact Aq _ _
  exact Lib.bytesWorld_below _ _ _
 case range=>
  obtain⟨d,f,g⟩:=j.rng;refine(Tryz.strconv_ParseInt_10_at64_range D rF h d V f g).mono ?_;rintro e w' ⟨N,c,_,_,i⟩;exact⟨_,_,N,c,i⟩
 obtain⟨d,f,g⟩:=j.syn;refine(Any.strconv_ParseInt_10_at64_syntax Tryz.laysC174 D rF h d V f g).mono ?_;rintro e w' ⟨N,c,_,_,i⟩;exact⟨_,_,N,c,i⟩
structure NSt (w V:World)(k n:Int):Prop where
 res:V.heap[w.heap.size]? =some (.cells #[.int .u8 0,.int .i64 0,.string ⟨#[]⟩] 23 (0,0))
 v:V.heap[w.heap.size+1]? =some (.cells #[.int .u8 k,.int .i64 n,.string ⟨#[]⟩] 23 (0,0))
 low:Below w.heap.size w V
 rd0:Rd w
theorem NSt.rd {w V:World}{k n:Int}(h:NSt w V k n):Rd V:=h.rd0.below h.low
theorem NSt.below {w V d:World}{k n:Int}(h:NSt w V k n)(c:Below V.heap.size V d):NSt w d k n:=
 ⟨(c.block _ (lt_of_block h.res)).trans h.res,(c.block _ (lt_of_block h.v)).trans h.v,h.low.trans (c.mono h.low.size),h.rd0⟩
theorem NSt.cells {w V:World}{k n:Int}(h:NSt w V k n):V.cell? ⟨w.heap.size,0,none⟩=some (.int .u8 0)/\V.cell? ⟨w.heap.size,1,none⟩=some (.int .i64 0)/\V.cell? ⟨w.heap.size,2,none⟩=some (.string ⟨#[]⟩)/\
 V.cell? ⟨w.heap.size+1,0,none⟩=some (.int .u8 k)/\V.cell? ⟨w.heap.size+1,1,none⟩=some (.int .i64 n)/\V.cell? ⟨w.heap.size+1,2,none⟩=some (.string ⟨#[]⟩)/\
 (∀i,V.frozen? ⟨w.heap.size,i,none⟩=false)/\(∀i,V.frozen? ⟨w.heap.size+1,i,none⟩=false)/\w.heap.size+1<V.heap.size:=
 ⟨by simp [World.cell?,h.res],by simp [World.cell?,h.res],by simp [World.cell?,h.res],by simp [World.cell?,h.v],by simp [World.cell?,h.v],by simp [World.cell?,h.v],
  fun i=>by simp [World.frozen?,h.res],fun i=>by simp [World.frozen?,h.v],lt_of_block h.v⟩
theorem NSt.two {w V:World}{k n:Int}(h:NSt w V k n):NSt w (V.setCell ⟨w.heap.size+1,0,none⟩ (.int .u8 2)) 2 n:=
 ⟨((Bb.refl [w.heap.size+1] V).setCell (.inl rI) _|>.block _ (lt_of_block h.res) rI).trans h.res,by rw[A2 h.v];rfl,h.low.setCell rI _,h.rd0⟩
theorem Y3 (s:ByteArray)(w:World)(hs:s.size<=402)(hR:Rd w):
 Calls Tryz.prog 51 #[.string s] w (nI w (Nt (dl s))):=by
 obtain⟨m,hm⟩:=hR.ml;have h1:=fun V:World=>Tryz.strings_TrimPrefix s ⟨#[45]⟩ V
 obtain⟨T,hT⟩:∃T:ByteArray,(⟨(Lib.trimPrefix (dl s) [45]).toArray⟩:ByteArray)=T:=⟨_,rfl⟩;have e1:(⟨(Lib.trimPrefix s.data.toList (⟨#[45]⟩:ByteArray).data.toList).toArray⟩:ByteArray)=T:=hT;simp only[e1] at h1;have F:dl T=if(dl s).head? =some 45 then(dl s).tail else dl s:=by rw[←hT,Da,qJ]
 have p8:T.size<=402:=by
  rw[←A5,F]
  have:=A5 s
  split
  ·rw[List.length_tail];omega
  omega
 have y:=fun V (g:Below w.heap.size w V)=>Tryz.strings_Cut T ⟨#[46]⟩ m V rF (A4 g hm)
 obtain⟨c,hc⟩:∃c,Lib.cut (dl T) [46]=c:=⟨_,rfl⟩;have e2:Lib.cut T.data.toList (⟨#[46]⟩:ByteArray).data.toList=c:=hc;simp only[e2] at y
 have x:c.1.length<=402/\c.2.1.length<=402:=by
  rw[←hc]
  have:=A5 T
  unfold Lib.cut
  split
  ·simp only[List.length_take,List.length_drop];omega
  simp;omega
 obtain⟨cw,cr,cp⟩:=c;obtain⟨X,hX⟩:∃X:ByteArray,(⟨cw.toArray⟩:ByteArray)=X:=⟨_,rfl⟩;obtain⟨Y,hY⟩:∃Y:ByteArray,(⟨cr.toArray⟩:ByteArray)=Y:=⟨_,rfl⟩;have G:dl X=cw:=by rw[←hX]
 have I:dl Y=cr:=by rw[←hY]
 simp only at y x;rw[hX,hY] at y;have r7:X.size<=402:=by rw[←A5,G];exact x.1
 have r8:Y.size<=402:=by rw[←A5,I];exact x.2
 obtain⟨Z,L⟩:∃Z,decide ((dl s).head? =some 45)=Z:=⟨_,rfl⟩;have h3:=fun V:World=>Tryz.strings_HasPrefix s ⟨#[45]⟩ V
 have e3:Lib.hasPrefix s.data.toList (⟨#[45]⟩:ByteArray).data.toList=Z:=(rA s).trans L;simp only[e3] at h3
 have HN:Hid (Nt (dl s)=if(!F3 (dl X)||(decide (1<(dl X).length) && (dl X).head? ==some 48))||(cp && (!F3 (dl Y)||decide (4<(dl Y).length))) then .error 4
  else match parseIntB 64 (if Z then 45::(if cp then dl X++(dl Y++[48,48,48,48]).take 4 else dl X) else(if cp then dl X++(dl Y++[48,48,48,48]).take 4 else dl X)) with
   | .ok n=> .ok (if cp then 2 else 1,n)
   |_=> .error 9):=Ax (by
  unfold Nt;rw[←F,hc,G,I,←L];simp only[decide_eq_true_eq]
  rfl)
 have H1:=Ax h1;have H2:=Ax y;have H3:=Ax h3;have HR:=Ax hR;clear h1 y h3 hR hm hT F hc hX hY G I L e1 e2 e3 x;obtain⟨M,k⟩:∃M,w.alloc (.cells #[.int .u8 0,.int .i64 0,.string ⟨#[]⟩] 23)=M:=⟨_,rfl⟩;have N:Below w.heap.size w M:=by rw[←k];exact(Aq w.heap.size w).alloc (Ak _) _
 have j:=(MapKept.heap_alloc w (.cells #[.int .u8 0,.int .i64 0,.string ⟨#[]⟩] 23)).1;have a8:M.heap.size=w.heap.size+1:=by rw[←k];simp
 rw[k] at j;have b7:=Ax k;have Hz0:=Ax a8;have b8:=Ax (H2.out M N);have d8:=Ax N;have f7:=Ax j;clear k N j a8;go_enter Tryz.func51,Tryz.ntmps51;go_upto_region 1 with fail
 rw[b7.out];go_wp2_with fail;refine(H1.out _).mono ?_;rintro e V ⟨rfl,g⟩;obtain rfl:=g.symm;clear g;go_wp2_with fail;refine b8.out.mono ?_;rintro e V ⟨rfl,nd,g⟩;have O:Below M.heap.size M V:=by rw[g];exact⟨rfl,rfl,rfl,Ak _,fun _ _=>rfl⟩
 have o:V.heap.size=w.heap.size+1:=by rw[g,←Hz0.out];rfl
 have j:=(O.block w.heap.size tP).trans f7.out;clear g;obtain⟨R,p⟩:∃R,V.alloc (.cells #[.int .u8 1,.int .i64 0,.string ⟨#[]⟩] 23)=R:=⟨_,rfl⟩;have U:Below V.heap.size V R:=by rw[←p];exact(Aq V.heap.size V).alloc (Ak _) _
 have f8:R.heap.size=w.heap.size+2:=by rw[←p,World.size_alloc,o]
 have W:=(MapKept.heap_alloc V (.cells #[.int .u8 1,.int .i64 0,.string ⟨#[]⟩] 23)).1;rw[p,o] at W;have A:=(U.block w.heap.size rF).trans j;have C:Below w.heap.size w R:=d8.out.trans ((O.trans (U.mono (by rw[o,Hz0.out];omega))).mono tP);have f9:=HR.out;have HS:=Ax (And.intro A (And.intro W (And.intro C f9)));have i6:=Ax p;have r9:=Ax o;have s7:=Ax f8;clear O j U f8 W A C f9 p H2 b8 b7 d8 f7 Hz0 HR;go_upto_region 3 with fail
 rw[i6.out];clear o;have i7:NSt w R 1 0:=⟨HS.out.1,HS.out.2.1,HS.out.2.2.1,HS.out.2.2.2⟩;have d:=Ax i7;have Hd:=Ax (Ri X R);clear i7 HS i6;obtain⟨dx,q⟩:∃dx,F3 (dl X)=dx:=⟨_,rfl⟩;rw[q] at HN Hd;cases dx with
 |false=>
  simp only[Bool.not_false,Bool.true_or,if_true] at HN;go_wp2_with fail;refine Hd.out.mono ?_;rintro e V ⟨rfl,hb⟩;have h1:=d.out.below hb;obtain⟨a0,a1,a2,b0,b1,b2,f0,f1,hlt⟩:=h1.cells;have HB:=Ax h1.low;clear h1 hb Hd d
  go_wp2
  refine Au (v:= .tuple #[.agg #[.int .u8 1,.int .i64 0,.string ⟨#[]⟩],.int .i64 4]) rV rfl ?_;exact zy0
 |true=>
  have l7:0<X.size:=by
   rw[←A5];cases h:dl X with
   |nil=>rw[h] at q;cases q
   |cons=>simp
  have i0:(0:Int)<(X.size:Int):=by omega
  have hh:=Ku l7;rw[A5,hh] at HN;have j8:=Ax fun V=>Ri Y V
  by_cases hz:1<X.size/\X[0].toNat=48
  ·have d1:decide ((1:Int)<(X.size:Int))=true:=by simp;omega
   have d2:((X[0].toNat:Int)==48)=true:=by simp;omega
   have D:X[0]=48:=UInt8.toNat_inj.1 hz.2;rw[Am hz.1,D] at HN;simp only[beq_self_eq_true,Bool.and_self,Bool.or_true,Bool.true_or,if_true] at HN;clear hz D hh q;go_wp2_with fail;refine Hd.out.mono ?_;rintro e V ⟨rfl,hb⟩;have h1:=d.out.below hb;obtain⟨a0,a1,a2,b0,b1,b2,f0,f1,hlt⟩:=h1.cells;have HB:=Ax h1.low;clear h1 hb Hd d
   go_wp2
   refine Au (v:= .tuple #[.agg #[.int .u8 1,.int .i64 0,.string ⟨#[]⟩],.int .i64 4]) rV rfl ?_;exact zy0
  have j9:(decide (1<X.size) && (some X[0]==some 48))=false:=by
   by_cases h1:1<X.size
   ·have:X[0]≠48:=fun e=>hz ⟨h1,by rw[e];rfl⟩
    simp [this]
   simp [h1]
  rw[j9] at HN;simp only[Bool.not_true,Bool.or_false,Bool.false_or] at HN
  have d1:(decide ((1:Int)<(X.size:Int))=true/\((X[0].toNat:Int)==48)=false)\/decide ((1:Int)<(X.size:Int))=false:=by
   by_cases h1:1<X.size
   ·have:X[0].toNat≠48:=fun e=>hz ⟨h1,e⟩
    exact .inl ⟨by simp;omega,by simp;omega⟩
   exact .inr rM
  clear hz j9 hh q;rcases d1 with ⟨d1,d2⟩|d1
  all_goals
   cases cp with
   |false=>
    simp only[Bool.false_and,Bool.false_eq_true,if_false] at HN;go_wp2_with fail;refine Hd.out.mono ?_;rintro e V ⟨rfl,hb⟩;have h1:=d.out.below hb;obtain⟨a0,a1,a2,b0,b1,b2,f0,f1,hlt⟩:=h1.cells;have Hs1:=Ax h1;clear h1 hb Hd d;go_wp2_with fail;refine(H3.out _).mono ?_;rintro e V' ⟨rfl,g⟩;obtain rfl:=g.symm;clear g;cases Z with
    |false=>
     have hDd:dl (X)=dl X:=by rfl
     have i:(X).size<=10000:=by omega
     have hp:=mY (X) i V (Hs1.out.rd);obtain⟨r,hr⟩:∃r,parseIntB 64 (dl (X))=r:=⟨_,rfl⟩;rw[hr] at hp;rw[hDd] at hr;simp only[Bool.false_eq_true,if_false] at HN;exact zzb
    |true=>
     have hDd:dl (⟨#[45]⟩++X)=45::dl X:=by rw[Dz];rfl
     have i:(⟨#[45]⟩++X).size<=10000:=by have e:(⟨#[45]⟩:ByteArray).size=1:=rfl;rw[ByteArray.size_append,e];omega
     have hp:=mY (⟨#[45]⟩++X) i V (Hs1.out.rd);obtain⟨r,hr⟩:∃r,parseIntB 64 (dl (⟨#[45]⟩++X))=r:=⟨_,rfl⟩;rw[hr] at hp;rw[hDd] at hr;simp only[if_true] at HN;exact zzb
   |true=>
    simp only[Bool.true_and,if_true] at HN;go_wp2_with fail;refine Hd.out.mono ?_;rintro e V1 ⟨rfl,hb⟩;have h1:=d.out.below hb;have d:=Ax h1;have f:=Ax (j8.out V1);clear h1 hb Hd j8;obtain⟨dy,k8⟩:∃dy,F3 (dl Y)=dy:=⟨_,rfl⟩;rw[k8] at HN f;clear k8;cases dy with
    |false=>
     simp only[Bool.not_false,Bool.true_or,if_true] at HN;go_wp2_with fail;refine f.out.mono ?_;rintro e V ⟨rfl,hb⟩;have h1:=d.out.below hb;obtain⟨a0,a1,a2,b0,b1,b2,f0,f1,hlt⟩:=h1.cells;have HB:=Ax h1.low;clear h1 hb f d
     go_wp2
     refine Au (v:= .tuple #[.agg #[.int .u8 1,.int .i64 0,.string ⟨#[]⟩],.int .i64 4]) rV rfl ?_;exact zy0
    |true=>
     rw[A5] at HN;by_cases hy4:4<Y.size
     ·have d4:decide ((4:Int)<(Y.size:Int))=true:=by simp;omega
      rw[Am hy4] at HN;simp only[Bool.or_true,if_true] at HN;go_wp2_with fail;refine f.out.mono ?_;rintro e V ⟨rfl,hb⟩;have h1:=d.out.below hb;obtain⟨a0,a1,a2,b0,b1,b2,f0,f1,hlt⟩:=h1.cells;have HB:=Ax h1.low;clear h1 hb f d
      go_wp2
      refine Au (v:= .tuple #[.agg #[.int .u8 1,.int .i64 0,.string ⟨#[]⟩],.int .i64 4]) rV rfl ?_;exact zy0
     have d4:decide ((4:Int)<(Y.size:Int))=false:=by simp;omega
     rw[An hy4] at HN;simp only[Bool.not_true,Bool.or_false,Bool.false_eq_true,if_false] at HN
     have e4:(Y++⟨#[48,48,48,48]⟩:ByteArray).size=Y.size+4:=by
      have e:(⟨#[48,48,48,48]⟩:ByteArray).size=4:=rfl;rw[ByteArray.size_append,e]
     have i4:(4:Int)<=((Y++⟨#[48,48,48,48]⟩:ByteArray).size:Int):=by omega
     have i5:4<=(Y++⟨#[48,48,48,48]⟩:ByteArray).size:=by omega
     have u:dl ((Y++⟨#[48,48,48,48]⟩:ByteArray).extract 0 4)=(dl Y++[48,48,48,48]).take 4:=by
      rw[Ep,Dz];rfl
     have n9:((Y++⟨#[48,48,48,48]⟩:ByteArray).extract 0 4).size<=4:=by
      rw[←A5,u,List.length_take];omega
     have E:=Ax u;clear e4 u;go_wp2_with fail;refine f.out.mono ?_;rintro e V1 ⟨rfl,hb⟩;have h1:=d.out.below hb;obtain⟨a0,a1,a2,b0,b1,b2,f0,f1,hlt⟩:=h1.cells;obtain⟨V,g⟩:∃V,V1.setCell ⟨w.heap.size+1,0,none⟩ (.int .u8 2)=V:=⟨_,rfl⟩;have y:NSt w V 2 0:=by rw[←g];exact h1.two
     have Hs1:=Ax y;have HV:=Ax g;clear h1 y hb f d g;go_upto_region 7 with fail
     rw[HV.out];clear HV a0 a1 a2 b0 b1 b2 f0 f1;go_wp2_with fail;refine(H3.out _).mono ?_;rintro e V' ⟨rfl,g⟩;obtain rfl:=g.symm;clear g;cases Z with
     |false=>
      have hDd:dl (X++(Y++⟨#[48,48,48,48]⟩).extract 0 4)=dl X++(dl Y++[48,48,48,48]).take 4:=by rw[Dz,E.out]
      have i:(X++(Y++⟨#[48,48,48,48]⟩).extract 0 4).size<=10000:=by(rw[ByteArray.size_append];omega)
      have hp:=mY (X++(Y++⟨#[48,48,48,48]⟩).extract 0 4) i V (Hs1.out.rd);obtain⟨r,hr⟩:∃r,parseIntB 64 (dl (X++(Y++⟨#[48,48,48,48]⟩).extract 0 4))=r:=⟨_,rfl⟩;rw[hr] at hp;rw[hDd] at hr;simp only[Bool.false_eq_true,if_false] at HN;exact zza
     |true=>
      have hDd:dl (⟨#[45]⟩++(X++(Y++⟨#[48,48,48,48]⟩).extract 0 4))=45::(dl X++(dl Y++[48,48,48,48]).take 4):=by rw[Dz,Dz,E.out];rfl
      have i:(⟨#[45]⟩++(X++(Y++⟨#[48,48,48,48]⟩).extract 0 4)).size<=10000:=by(have e0:(⟨#[45]⟩:ByteArray).size=1:=rfl;rw[ByteArray.size_append,ByteArray.size_append,e0];omega)
      have hp:=mY (⟨#[45]⟩++(X++(Y++⟨#[48,48,48,48]⟩).extract 0 4)) i V (Hs1.out.rd);obtain⟨r,hr⟩:∃r,parseIntB 64 (dl (⟨#[45]⟩++(X++(Y++⟨#[48,48,48,48]⟩).extract 0 4)))=r:=⟨_,rfl⟩;rw[hr] at hp;rw[hDd] at hr;simp only[if_true] at HN;exact zza
open Go Go.RowKit Go.Lib Go.Sort Go.Shelf
theorem Vg {l:List UInt8}(h:l.length<=1):B8 l=[]:=by
 match l,h with
 |[],_=>rfl
 |[_],_=>rfl
 |_::_::_,h=>simp at h
theorem La (l:List UInt8)(c:UInt8):byteCells l++[.int .u8 (c.toNat:Int)]=byteCells (l++[c]):=by simp [byteCells]
theorem Mk (l:List UInt8):(byteCells l).length=l.length:=by simp [byteCells]
theorem aX (s:ByteArray)(w:World)(W:1<=s.size)(hs:s.size<=402):
 Calls Tryz.prog 79 #[.string s] w fun e w'=>e= .returned (.tuple #[.agg #[.int .u8 3,.int .i64 0,.string ⟨(B8 (dl s).tail).toArray⟩],.int .i64 0])/\Below w.heap.size w w':=by
 obtain⟨f,g⟩:∃f,w.alloc (.cells #[.int .u8 0,.int .i64 0,.string ⟨#[]⟩] 23)=f:=⟨_,rfl⟩;have x:Below w.heap.size w f:=by rw[←g];exact(Aq w.heap.size w).alloc (Ak _) _
 have c:=(MapKept.heap_alloc w (.cells #[.int .u8 0,.int .i64 0,.string ⟨#[]⟩] 23)).1;have m:f.heap.size=w.heap.size+1:=by rw[←g];simp
 rw[g] at c;obtain⟨u,h⟩:∃u,f.alloc (.cells #[.pointer none,.slice none 0 0] 181)=u:=⟨_,rfl⟩;have y:Below (w.heap.size+1) f u:=by rw[←h,←m];exact(Aq f.heap.size f).alloc (Ak _) _
 have j:=fresh_isBuilder 181 5 f;rw[h,m] at j;have A:w.heap.size+1<u.heap.size:=by rw[←h,World.size_alloc];omega
 have E:=Ax g;have F:=Ax h;have G:=Ax m;have R:Hid (IsBuilder 181 5 (w.heap.size+1) (w.heap.size+1) (byteCells []) u/\Below (w.heap.size+1) f u):=Ax ⟨j,y⟩;have I:=Ax x;have M:=Ax c;clear g x c m h y j;go_enter Tryz.func79,Tryz.ntmps79;go_upto_region 1 with fail
 rw[E.out];go_upto_region 2 with fail
 rw[F.out];rw[G.out]
 go_wp2
 go_loopw [5] (fun v5 wr=>∃(i:Nat) (L:List UInt8),1<=i/\i<=s.size/\L.length+1<=i/\v5= .int .i64 i/\w.heap.size+1<wr.heap.size/\Hid (B8 (dl s).tail=L++B8 ((dl s).drop i))/\Hid (IsBuilder 181 5 (w.heap.size+1) (w.heap.size+1) (byteCells L) wr/\Below (w.heap.size+1) f wr)) (fun v5 _=>s.size - (intOf v5).toNat)
 case atStart=>exact⟨1,[],by omega,W,by simp,rfl,A,by rw[List.drop_one];rfl,R.out⟩
 clear R A;obtain⟨i,L,X,Y,Z,rfl,a8,d,n⟩:=hrel;by_cases hlt:i+1<s.size
 ·have l1:i<(dl s).length:=by rw[A5];omega
  have T:i+1<(dl s).length:=by rw[A5];exact hlt
  have q:(dl s).drop i=s[i]::s[i+1]::(dl s).drop (i+2):=by
   rw[List.drop_eq_getElem_cons l1,List.drop_eq_getElem_cons T];rfl
  rw[q] at d;have i1:(i:Int)<(s.size:Int) - 1:=by omega
  have i2:(0:Int)<=(i:Int):=by omega
  have i3:(i:Int)<(s.size:Int):=by omega
  by_cases hc:s[i]=92
  ·have N:((s[i].toNat:Int)==92)=true:=by rw[hc];rfl
   have i4:(i:Int)+1<(s.size:Int):=by omega
   have p:B8 (dl s).tail=(L++[s[i+1]])++B8 ((dl s).drop (i+2)):=by
    rw[d.out,B8,Ap hc,List.append_assoc];rfl
   have C:=Ax (Tc (w.heap.size+1) (w.heap.size+1) (byteCells L) (s[i+1].toNat:Int) wr n.out.1 (by rw[Mk];omega) rF);have o:=Ax n.out.2;have D:=Ax p;clear n d q hc p;go_wp2_with fail;refine C.out.mono ?_;rintro e V ⟨rfl,j,k⟩;rw[La] at j;have r:w.heap.size+1<V.heap.size:=by have:=k.size;omega
   have O:=Ax (And.intro j (o.out.trans k));clear j k C o
   go_wp2
   go_roundw
   case rel=>exact⟨i+2,L++[s[i+1]],by omega,by omega,by simp;omega,by go_num,r,D.out,O.out⟩
   case measure=>simp [intOf];omega
  have N:((s[i].toNat:Int)==92)=false:=by
   have:s[i].toNat≠92:=fun e=>hc (UInt8.toNat_inj.1 e)
   simp;omega
  have p:B8 (dl s).tail=(L++[s[i]])++B8 ((dl s).drop (i+1)):=by
   rw[d.out,B8,Ao hc,List.append_assoc,List.drop_eq_getElem_cons T];rfl
  have C:=Ax (Tc (w.heap.size+1) (w.heap.size+1) (byteCells L) (s[i].toNat:Int) wr n.out.1 (by rw[Mk];omega) rF);have o:=Ax n.out.2;have D:=Ax p;clear n d q hc p;go_wp2_with fail;refine C.out.mono ?_;rintro e V ⟨rfl,j,k⟩;rw[La] at j;have r:w.heap.size+1<V.heap.size:=by have:=k.size;omega
  have O:=Ax (And.intro j (o.out.trans k));clear j k C o
  go_wp2
  go_roundw
  case rel=>exact⟨i+1,L++[s[i]],by omega,by omega,by simp;omega,by go_num,r,D.out,O.out⟩
  case measure=>simp [intOf];omega
 have p:B8 (dl s).tail=L:=by rw[d.out,Vg tR,List.append_nil]
 have i1:¬(i:Int)<(s.size:Int) - 1:=by omega
 have i2:decide ((i:Int)<(s.size:Int) - 1)=false:=by simp;omega
 have U:=Ax (Tryz.Builder_String_any (w.heap.size+1) (w.heap.size+1) L wr n.out.1 rF);have o:=Ax n.out.2;have D:=Ax p;clear n d p;go_wp2_with fail;refine U.out.mono ?_;rintro e V ⟨rfl,k⟩;have c:=((o.out.trans k).block w.heap.size rF).trans M.out;have a0:V.cell? ⟨w.heap.size,0,none⟩=some (.int .u8 0):=by simp [World.cell?,c]
 have a1:V.cell? ⟨w.heap.size,1,none⟩=some (.int .i64 0):=by simp [World.cell?,c]
 have a2:V.cell? ⟨w.heap.size,2,none⟩=some (.string ⟨#[]⟩):=by simp [World.cell?,c]
 have f0:∀i,V.frozen? ⟨w.heap.size,i,none⟩=false:=fun i=>by simp [World.frozen?,c]
 have HB:Hid (Below w.heap.size w V):=Ax (I.out.trans ((o.out.trans k).mono rF));clear c k U o
 go_wp2
 refine Au (v:= .tuple #[.agg #[.int .u8 3,.int .i64 0,.string ⟨L.toArray⟩],.int .i64 0]) (by simp [results,Tryz.results79,go_sem, *]) rfl ?_;rw[D.out];exact⟨rfl,((HB.out.setCell rI _).setCell rI _).setCell rI _⟩
open Go Go.RowKit Go.Lib Go.Sort Go.Shelf
def gR (w:World)(r:Except Int (Int×Int×List UInt8))(e:Ending)(w':World):Prop:=
 Below w.heap.size w w'/\match r with
  | .ok p=>e= .returned (.tuple #[.agg #[.int .u8 p.1,.int .i64 p.2.1,.string ⟨p.2.2.toArray⟩],.int .i64 0])
  | .error q=>∃k n s,e= .returned (.tuple #[.agg #[.int .u8 k,.int .i64 n,.string s],.int .i64 q])
def Yu (l:List UInt8):Except Int (Int×Int×List UInt8):=
 if l=[116,114,117,101] then .ok (4,1,[]) else if l=[102,97,108,115,101] then .ok (4,0,[]) else if l=[110,117,108,108] then .ok (0,0,[]) else .error 4
theorem Tx (b:Bool)(w:World):Calls Tryz.prog 131 #[.bool b] w fun e w'=>e= .returned (.agg #[.int .u8 4,.int .i64 (if b then 1 else 0),.string ⟨#[]⟩])/\Below w.heap.size w w':=by
 cases b
 all_goals
  go_enter Tryz.func131,Tryz.ntmps131
  go_wp2
 ·refine Au (v:= .agg #[.int .u8 4,.int .i64 0,.string ⟨#[]⟩]) (by simp [results,Tryz.results131,go_sem]) rfl ⟨rfl,?_⟩;exact(Aq _ _).alloc (Ak _) _
 refine Au (v:= .agg #[.int .u8 4,.int .i64 1,.string ⟨#[]⟩]) (by simp [results,Tryz.results131,go_sem]) rfl ⟨rfl,?_⟩;exact(Aq _ _).alloc (Ak _) _
theorem lP (s:ByteArray)(w:World):Calls Tryz.prog 80 #[.string s] w (gR w (Yu (dl s))):=by
 obtain⟨g,c⟩:∃g,w.alloc (.cells #[.int .u8 0,.int .i64 0,.string ⟨#[]⟩] 23)=g:=⟨_,rfl⟩;have m:Below w.heap.size w g:=by rw[←c];exact(Aq w.heap.size w).alloc (Ak _) _
 have j:=(MapKept.heap_alloc w (.cells #[.int .u8 0,.int .i64 0,.string ⟨#[]⟩] 23)).1;have p:g.heap.size=w.heap.size+1:=by rw[←c];simp
 rw[c] at j
 have k:Hid (∀V,Below g.heap.size g V->V.cell? ⟨w.heap.size,0,none⟩=some (.int .u8 0)/\V.cell? ⟨w.heap.size,1,none⟩=some (.int .i64 0)/\V.cell? ⟨w.heap.size,2,none⟩=some (.string ⟨#[]⟩)/\(∀i,V.frozen? ⟨w.heap.size,i,none⟩=false)/\Below w.heap.size w V):=Ax fun V y=>by
  have f:=(y.block w.heap.size rF).trans j;exact⟨by simp [World.cell?,f],by simp [World.cell?,f],by simp [World.cell?,f],fun i=>by simp [World.frozen?,f],m.trans (y.mono rF)⟩
 have h:=Ax c;clear c m j p;have o:=k.out g (Aq _ _);by_cases h1:dl s=[116,114,117,101]
 ·have e:s=⟨#[116,114,117,101]⟩:=Ch h1;subst e;have n:=Ax (Tx true g);clear h1 o;go_enter Tryz.func80,Tryz.ntmps80;go_upto_region 1 with fail
  rw[h.out];go_wp2_with fail;refine n.out.mono ?_;rintro e V ⟨rfl,f⟩;obtain⟨q,r,u,x,d⟩:=k.out V f;have HB:=Ax d;clear f d n k
  go_wp2
  refine Au (v:= .tuple #[.agg #[.int .u8 4,.int .i64 1,.string ⟨#[]⟩],.int .i64 0]) sZ rfl ?_;exact zys
 by_cases h2:dl s=[102,97,108,115,101]
 ·have e:s=⟨#[102,97,108,115,101]⟩:=Ch h2;subst e;have n:=Ax (Tx false g);clear h1 h2 o;go_enter Tryz.func80,Tryz.ntmps80;go_upto_region 1 with fail
  rw[h.out];go_wp2_with fail;refine n.out.mono ?_;rintro e V ⟨rfl,f⟩;obtain⟨q,r,u,x,d⟩:=k.out V f;have HB:=Ax d;clear f d n k
  go_wp2
  refine Au (v:= .tuple #[.agg #[.int .u8 4,.int .i64 0,.string ⟨#[]⟩],.int .i64 0]) sZ rfl ?_;exact zys
 by_cases h3:dl s=[110,117,108,108]
 ·have e:s=⟨#[110,117,108,108]⟩:=Ch h3;subst e;obtain⟨q,r,u,x,d⟩:=o;have HB:=Ax d;clear h1 h2 h3 d k;go_enter Tryz.func80,Tryz.ntmps80;go_upto_region 1 with fail
  rw[h.out]
  go_wp2
  refine Au (v:= .tuple #[.agg #[.int .u8 0,.int .i64 0,.string ⟨#[]⟩],.int .i64 0]) sZ rfl ?_;exact zys
 have A:Yu (dl s)= .error 4:=by unfold Yu;rw[Ao h1,Ao h2,Ao h3]
 have D:(s.toList==[116,114,117,101])=false:=by rw[A0];simpa using h1
 have E:(s.toList==[102,97,108,115,101])=false:=by rw[A0];simpa using h2
 have F:(s.toList==[110,117,108,108])=false:=by rw[A0];simpa using h3
 obtain⟨q,r,u,x,d⟩:=o;have HB:=Ax d;have C:=Ax A;clear h1 h2 h3 d k A;go_enter Tryz.func80,Tryz.ntmps80;go_upto_region 1 with fail
 rw[h.out]
 go_wp2
 refine Au (v:= .tuple #[.agg #[.int .u8 0,.int .i64 0,.string ⟨#[]⟩],.int .i64 4]) sZ rfl ?_;rw[C.out];exact⟨((HB.out.setCell rI _).setCell rI _).setCell rI _,_,_,_,rfl⟩
theorem jG (s:ByteArray)(w:World)(d:1<=s.size)(f:s.size<=402):Calls Tryz.prog 78 #[.string s] w fun e w'=>e= .returned (.tuple #[.agg #[.int .u8 5,.int .i64 0,.string ⟨(dl s).tail.toArray⟩],.int .i64 0])/\Below w.heap.size w w':=by
 have g:(1:Int)<=(s.size:Int):=by omega
 have c:(⟨(dl s).tail.toArray⟩:ByteArray)=s.extract 1 s.size:=Ch (by rw[Da,Ft,List.drop_one]);rw[c];clear c;go_enter Tryz.func78,Tryz.ntmps78
 go_wp2
 refine Au (v:= .tuple #[.agg #[.int .u8 5,.int .i64 0,.string (s.extract 1 s.size)],.int .i64 0]) (by simp [results,Tryz.results78,go_sem]) rfl ⟨rfl,?_⟩;exact(Aq _ _).alloc (Ak _) _
def dP:List (Int×Value):=[(34,.agg #[.func (.func 79) #[] #[]]),(35,.agg #[.func (.func 78) #[] #[]]),(116,.agg #[.func (.func 80) #[] #[]]),(102,.agg #[.func (.func 80) #[] #[]]),(110,.agg #[.func (.func 80) #[] #[]])]
theorem Qk (w:World):Calls Tryz.prog 50 #[] w fun e w'=>∃b,e= .returned (.map (some b))/\Je .u8 w' b dP/\Below w.heap.size w w':=by
 have q:= @run_makeMap Tryz.prog;have c:Je .u8 (w.alloc (.map #[] 0)) w.heap.size []:=Je.new w;obtain⟨D,E,d,f,r⟩:=Cf (P:=Tryz.prog) (t:=86) Tryz.underlying86 Tryz.underlying5 c 34 (.agg #[.func (.func 79) #[] #[]]);obtain⟨F,G,g,h,u⟩:=Cf (P:=Tryz.prog) (t:=86) Tryz.underlying86 Tryz.underlying5 d 35 (.agg #[.func (.func 78) #[] #[]]);obtain⟨I,L,i,j,v⟩:=Cf (P:=Tryz.prog) (t:=86) Tryz.underlying86 Tryz.underlying5 g 116 (.agg #[.func (.func 80) #[] #[]]);obtain⟨M,N,k,m,x⟩:=Cf (P:=Tryz.prog) (t:=86) Tryz.underlying86 Tryz.underlying5 i 102 (.agg #[.func (.func 80) #[] #[]]);obtain⟨n,O,o,p,y⟩:=Cf (P:=Tryz.prog) (t:=86) Tryz.underlying86 Tryz.underlying5 k 110 (.agg #[.func (.func 80) #[] #[]]);have A:Hid (Je .u8 n w.heap.size dP):=Ax o;have C:Hid (Below w.heap.size w n):=Ax (((((((Bb.refl [] w).alloc (.map #[] 0)).step f rI).step h rI).step j rI).step m rI).step p rI).below;clear c d g i k o f h j m p r u v x y;go_enter Tryz.func50,Tryz.ntmps50
 go_wp2
 go_ret;exact⟨_,rfl,A.out,C.out⟩
open Go Go.RowKit Go.Lib Go.Sort Go.Shelf
theorem Zm {c:UInt8}{r:List UInt8}(h:c=116\/c=102\/c=110):Eg (c::r)=Yu (c::r):=by
 unfold Yu;rcases h with rfl|rfl|rfl
 ·by_cases h:r=[114,117,101]
  ·subst h;rfl
  rw[Ao sD,Ao rI,Ao rI]
  show(if r=[114,117,101] then _ else _)=_
  rw[Ao h]
 ·by_cases h:r=[97,108,115,101]
  ·subst h;rfl
  rw[Ao rI,Ao sD,Ao rI]
  show(if r=[97,108,115,101] then _ else _)=_
  rw[Ao h]
 by_cases h:r=[117,108,108]
 ·subst h;rfl
 rw[Ao rI,Ao rI,Ao sD]
 show(if r=[117,108,108] then _ else _)=_
 rw[Ao h]
theorem Po {l:List UInt8}{n:Int}(h:parseIntB 64 l= .ok n): -9223372036854775808<=n/\n<=9223372036854775807:=by
 have d:(2:Nat)^(64 - 1)=9223372036854775808:=by decide
 cases l with
 |nil=>cases h
 |cons c r=>
  unfold parseIntB at h;simp only[d] at h;generalize parseUintB 64 _=z at h;cases z
  case range=>cases h
  case ok u=>
   simp only at h
   split at h
   ·cases h
   split at h
   ·cases h
   injection h with h;subst h
   split<;>omega
  cases h
theorem Ng (l:List UInt8):(B8 l).length<=l.length:=by
 match l with
 |[]=>simp [B8]
 |[_]=>simp [B8]
 |c::y::r=>
  have d:=Ng r;have e:=Ng (y::r);rw[B8]
  split<;>simp only[Aa] at* <;>omega
def oF (m:Nat):Except Int (Int×Int×List UInt8)->Prop
 | .ok p=> -9223372036854775808<=p.2.1/\p.2.1<=9223372036854775807/\p.2.2.length<=m
 | .error q=>q=4\/q=9
theorem lS (m:Nat)(x:List UInt8):oF m ((Nt x).map fun p=>(p.1,p.2,([]:List UInt8))):=by
 cases hx:Nt x with
 |error q=>exact Up hx
 |ok p=>
  have d: -9223372036854775808<=p.2/\p.2<=9223372036854775807:=by
   unfold Nt at hx;simp only at hx;generalize cut (if x.head? =some 45 then x.tail else x) [46]=c at hx;by_cases hc:((!F3 c.1||(decide (1<c.1.length) && c.1.head? ==some 48))||(c.2.2 && (!F3 c.2.1||decide (4<c.2.1.length))))=true
   ·rw[Ap hc] at hx;cases hx
   rw[Ao hc] at hx;generalize hz:parseIntB 64 _=z at hx;cases z
   case ok n=>
    injection hx with hx;subst hx;exact Po hz
   all_goals cases hx
  exact⟨d.1,d.2,Nat.zero_le _⟩
theorem S9 (l:List UInt8):oF l.length (Eg l):=by
 unfold Eg
 split
 ·rename_i r
  have:=Ng r
  refine⟨?_,?_,?_⟩
  ·show(-9223372036854775808:Int)<=0;omega
  ·show(0:Int)<=9223372036854775807;omega
  show(B8 r).length<=_
  rw[Aa];omega
 ·refine⟨?_,?_,?_⟩
  ·show(-9223372036854775808:Int)<=0;omega
  ·show(0:Int)<=9223372036854775807;omega
  exact Nat.le_succ _
 ·exact zwa
 ·exact zwa
 ·exact zwa
 exact lS _ _
def dW (c:UInt8):Nat:=if c=34 then 79 else if c=35 then 78 else if c=116\/c=102\/c=110 then 80 else 51
def gM (c:UInt8):Bool:=decide (c=34\/c=35\/c=116\/c=102\/c=110)
theorem gI (c:UInt8):Xl dP (c.toNat:Int)=if gM c then some (.agg #[.func (.func (dW c)) #[] #[]]) else none:=by
 have d:∀c:UInt8,Xl dP (c.toNat:Int)=if gM c then some (.agg #[.func (.func (dW c)) #[] #[]]) else none:=by
  intro c;by_cases h1:c=34
  ·subst h1;rfl
  by_cases h2:c=35
  ·subst h2;rfl
  by_cases h3:c=116
  ·subst h3;rfl
  by_cases h4:c=102
  ·subst h4;rfl
  by_cases h5:c=110
  ·subst h5;rfl
  have f:gM c=false:=by simp [gM,h1,h2,h3,h4,h5]
  rw[f]
  have e:∀k:UInt8,c≠k->(((k.toNat:Int))==(c.toNat:Int))=false:=fun k g=>by
   have:k.toNat≠c.toNat:=fun q=>g (UInt8.toNat_inj.1 q).symm
   simp;omega
  have h:=e 34 h1;have i:=e 35 h2;have j:=e 116 h3;have m:=e 102 h4;have n:=e 110 h5;unfold Xl dP;simp only[List.find?_cons];rw[show((34:Int)==(c.toNat:Int))=false from h,show((35:Int)==(c.toNat:Int))=false from i,show((116:Int)==(c.toNat:Int))=false from j,show((102:Int)==(c.toNat:Int))=false from m,show((110:Int)==(c.toNat:Int))=false from n];rfl
 exact d c
theorem iB (s:ByteArray)(w:World)(k:0<s.size)(h:s.size<=402)(i:Rd w):Calls Tryz.prog (dW s[0]) #[.string s] w (gR w (Eg (dl s))):=by
 have hd:∃r,dl s=s[0]::r:=by
  have l1:0<(dl s).length:=by rw[A5];omega
  refine⟨(dl s).drop 1,?_⟩;exact zwf
 obtain⟨r,d⟩:=hd;obtain⟨c,j⟩:∃c,s[0]=c:=⟨_,rfl⟩;rw[j] at d ⊢;unfold dW;by_cases a1:c=34
 ·subst a1;rw[Ap rfl];refine(aX s w rF h).mono ?_;rintro e w' ⟨rfl,f⟩;rw[d];exact⟨f,rfl⟩
 rw[Ao a1];by_cases a2:c=35
 ·subst a2;rw[Ap rfl];refine(jG s w rF h).mono ?_;rintro e w' ⟨rfl,f⟩;rw[d];exact⟨f,rfl⟩
 rw[Ao a2];by_cases a3:c=116\/c=102\/c=110
 ·rw[Ap a3,d,Zm a3,←d];exact lP s w
 rw[Ao a3,d,Tq ⟨a1,a2,fun e=>a3 (.inl e),fun e=>a3 (.inr (.inl e)),fun e=>a3 (.inr (.inr e))⟩,←d];refine(Y3 s w h i).mono ?_;rintro e w' ⟨f,g⟩;refine⟨f,?_⟩;cases hn:Nt (dl s) with
 |ok p=>rw[hn] at g;exact g
 |error q=>rw[hn] at g;exact g
theorem mD {W c:World}(d:Below W.heap.size W c):(∀b o,b<W.heap.size->c.cell? ⟨b,o,none⟩=W.cell? ⟨b,o,none⟩)/\(∀b o,b<W.heap.size->c.frozen? ⟨b,o,none⟩=W.frozen? ⟨b,o,none⟩):=
 ⟨fun b o h=>d.cell (p:=⟨b,o,none⟩) h,fun b o h=>d.frozen (p:=⟨b,o,none⟩) h⟩
structure PSt (w V:World)(p:Nat)(fv:Value):Prop where
 res:V.heap[w.heap.size]? =some (.cells #[.int .u8 0,.int .i64 0,.string ⟨#[]⟩] 23 (0,0))
 box:V.heap[p]? =some (.cells #[fv] 84 (0,0))
 lt:w.heap.size<p
 low:Below w.heap.size w V
theorem PSt.below {w V d:World}{p:Nat}{e:Value}(h:PSt w V p e)(c:Below V.heap.size V d):PSt w d p e:=
 ⟨(c.block _ (lt_of_block h.res)).trans h.res,(c.block _ (lt_of_block h.box)).trans h.box,h.lt,h.low.trans (c.mono h.low.size)⟩
theorem PSt.cells {w V:World}{p:Nat}{c:Value}(h:PSt w V p c):V.cell? ⟨w.heap.size,0,none⟩=some (.int .u8 0)/\V.cell? ⟨w.heap.size,1,none⟩=some (.int .i64 0)/\V.cell? ⟨w.heap.size,2,none⟩=some (.string ⟨#[]⟩)/\
 (∀i,V.frozen? ⟨w.heap.size,i,none⟩=false)/\V.cell? ⟨p,0,none⟩=some c/\V.frozen? ⟨p,0,none⟩=false/\w.heap.size<V.heap.size/\p<V.heap.size:=
 ⟨by simp [World.cell?,h.res],by simp [World.cell?,h.res],by simp [World.cell?,h.res],fun i=>by simp [World.frozen?,h.res],by simp [World.cell?,h.box],by simp [World.frozen?,h.box],lt_of_block h.res,lt_of_block h.box⟩
theorem PSt.store {w V:World}{p:Nat}{c:Value}(h:PSt w V p c)(u:Value):PSt w (V.setCell ⟨p,0,none⟩ u) p u:=
 ⟨((Bb.refl [p] V).setCell (.inl rI) _|>.block _ (lt_of_block h.res) (by simp;have:=h.lt;omega)).trans h.res,by rw[A2 h.box];rfl,h.lt,h.low.setCell (by have:=h.lt;simp;omega) _⟩
theorem PSt.after {w c V:World}(f:c.heap[w.heap.size]? =some (.cells #[.int .u8 0,.int .i64 0,.string ⟨#[]⟩] 23 (0,0)))(i:Below w.heap.size w c)(m:c.heap.size=w.heap.size+1)(d:Below c.drew.heap.size c.drew V)(g:Value):
 PSt w (V.alloc (.cells #[g] 84)) V.heap.size g:=by
 have n:c.heap.size<=V.heap.size:=d.size;have j:=(d.block w.heap.size (by show w.heap.size<c.heap.size;omega)).trans f;have e:Below V.heap.size V (V.alloc (.cells #[g] 84)):=(Aq V.heap.size V).alloc (Ak _) _;have h:Below w.heap.size w V:=i.trans (⟨d.os,d.tape,d.output,d.size,fun k o=>d.block k (by show k<c.heap.size;omega)⟩:Below w.heap.size c V);exact⟨(e.block _ rF).trans j,(MapKept.heap_alloc V _).1,by omega,h.trans (e.mono rF)⟩
theorem PSt.before {w c V:World}(g:c.heap[w.heap.size]? =some (.cells #[.int .u8 0,.int .i64 0,.string ⟨#[]⟩] 23 (0,0)))(m:Below w.heap.size w c)(p:c.heap.size=w.heap.size+1)
 (d:Below (c.alloc (.cells #[.nilFunc] 84)).drew.heap.size (c.alloc (.cells #[.nilFunc] 84)).drew V) (i:Value):PSt w (V.setCell ⟨c.heap.size,0,none⟩ i) c.heap.size i:=by
 have f:Below c.heap.size c (c.alloc (.cells #[.nilFunc] 84)):=(Aq c.heap.size c).alloc (Ak _) _;have e:(c.alloc (.cells #[.nilFunc] 84)).drew.heap.size=c.heap.size+1:=by show(c.alloc _).heap.size=_;simp
 have n:=(d.block w.heap.size (by rw[e];omega)).trans ((f.block _ rF).trans g);have o:=(d.block c.heap.size (by rw[e];omega)).trans (MapKept.heap_alloc c (.cells #[.nilFunc] 84)).1;have j:Below w.heap.size w V:=(m.trans (f.mono rF)).trans (⟨d.os,d.tape,d.output,d.size,fun k q=>d.block k (by rw[e];omega)⟩:Below w.heap.size (c.alloc (.cells #[.nilFunc] 84)) V);have h:PSt w V c.heap.size .nilFunc:=⟨n,o,by omega,j⟩;exact h.store i
def B7 (w:World)(r:Except Int (Int×Int×List UInt8))(e:Ending)(w':World):Prop:=
 Below w.heap.size w w'/\match r with
  | .ok p=>e= .returned (.tuple #[.agg #[.int .u8 p.1,.int .i64 p.2.1,.string ⟨p.2.2.toArray⟩],.int .i64 0])
  | .error q=>e= .returned (.tuple #[.agg #[.int .u8 0,.int .i64 0,.string ⟨#[]⟩],.int .i64 q])
theorem T9 (s:ByteArray)(w:World)(hs:s.size<=9223372036854775807)(L:Rd w):
 Calls Tryz.prog 18 #[.string s] w (B7 w (Dy (dl s))):=by
 obtain⟨F,k⟩:∃F,w.alloc (.cells #[.int .u8 0,.int .i64 0,.string ⟨#[]⟩] 23)=F:=⟨_,rfl⟩;have M:Below w.heap.size w F:=by rw[←k];exact(Aq w.heap.size w).alloc (Ak _) _
 have f:=(MapKept.heap_alloc w (.cells #[.int .u8 0,.int .i64 0,.string ⟨#[]⟩] 23)).1;have N:F.heap.size=w.heap.size+1:=by rw[←k];simp
 rw[k] at f;have y:=Ax k;have a0:F.cell? ⟨w.heap.size,0,none⟩=some (.int .u8 0):=by simp [World.cell?,f]
 have a1:F.cell? ⟨w.heap.size,1,none⟩=some (.int .i64 0):=by simp [World.cell?,f]
 have a2:F.cell? ⟨w.heap.size,2,none⟩=some (.string ⟨#[]⟩):=by simp [World.cell?,f]
 have f0:∀i,F.frozen? ⟨w.heap.size,i,none⟩=false:=fun i=>by simp [World.frozen?,f]
 have HB:=Ax M;have m:=Ax f;have n:=Ax N;clear k M f N;have o:=A5 s;by_cases h402:402<s.size
 ·have hp:Dy (dl s)= .error 3:=by unfold Dy;rw[Ap rF]
  have i1:(402:Int)<(s.size:Int):=by omega
  have Hp:=Ax hp;clear hp o h402 L;go_enter Tryz.func18,Tryz.ntmps18;go_upto_region 1 with fail
  rw[y.out]
  go_wp2
  refine Au (v:= .tuple #[.agg #[.int .u8 0,.int .i64 0,.string ⟨#[]⟩],.int .i64 3]) sC rfl ?_;rw[Hp.out];exact zys
 have i1:(s.size:Int)<=402:=by omega
 by_cases h0:s.size=0
 ·have e:s=⟨#[]⟩:=Ch (List.eq_nil_of_length_eq_zero rF);subst e;clear o h402 L h0 i1;go_enter Tryz.func18,Tryz.ntmps18;go_upto_region 1 with fail
  rw[y.out]
  go_wp2
  refine Au (v:= .tuple #[.agg #[.int .u8 0,.int .i64 0,.string ⟨#[]⟩],.int .i64 4]) sC rfl ?_;exact zys
 have u:0<s.size:=by omega
 have i0:(0:Int)<(s.size:Int):=by omega
 have f8:=Mv u;have f7:=L9 u
 have hP:Dy (dl s)=match Eg (dl s) with
  | .error e=> .error e
  | .ok v=>if C3 v.1 v.2.1 v.2.2=dl s then .ok v else .error 4:=by
  unfold Dy;rw[Ao rF,Ao (fun e=>by rw[e] at o;simp at o;omega)];cases Eg (dl s)<;>rfl
 have HP:=Ax hP;have O:=Ax L;have R:=fun V (hV:Below w.heap.size w V)=>iB s V u rF (L.below hV)
 have T:=gI s[0];have A:=Ax R;have g:=Ax T;have d:=Ax fun(V:World) (b:Nat) (C:Je .u8 V b dP)=>Rn (P:=Tryz.prog) (t:=86) Tryz.underlying86 Tryz.underlying5 C (Tryz.zeroValue84 V) (s[0].toNat:Int)
 clear hP L R T o h402 h0;obtain⟨fn,D⟩:∃fn,dW s[0]=fn:=⟨_,rfl⟩;rw[D] at A;obtain⟨E,G⟩:∃E,gM s[0]=E:=⟨_,rfl⟩;rw[G,D] at g
 have U:Hid ((E=false/\fn=51)\/(E=true/\(fn=79\/fn=78\/fn=80))):=Ax (by
  rw[←D,←G];unfold dW gM;by_cases h1:s[0]=34
  ·exact .inr ⟨by simp [h1],.inl (by rw[Ap h1])⟩
  rw[Ao h1];by_cases h2:s[0]=35
  ·exact .inr ⟨by simp [h2],.inr (.inl (by rw[Ap h2]))⟩
  rw[Ao h2];by_cases h3:s[0]=116\/s[0]=102\/s[0]=110
  ·exact .inr ⟨by simp [h3],.inr (.inr (by rw[Ap h3]))⟩
  exact .inl ⟨by simp [h1,h2,h3],by rw[Ao h3]⟩)
 clear D G;go_enter Tryz.func18,Tryz.ntmps18;go_upto_region 1 with fail
 rw[y.out];go_upto_region 5 with fail
 go_cut [4,5] from 17 to 24 (fun u4 u5 wx=>∃p:Nat,u4= .pointer (some ⟨p,0,none⟩)/\u5= .bool E/\Hid (PSt w wx p (if E then .func (.func fn) #[] #[] else .nilFunc)))
 case first=>
  cases E with
  |true=>
   simp only[if_true] at g;go_region_with ((go_at_call 50;refine(Qk _).mono ?_;rintro e V ⟨b,rfl,C,h⟩;have W:=d.out V b C;have x:=d.out (V.alloc (.cells #[.nilFunc] 84)) b (C.only ((Bb.refl [] V).alloc _) rI);rw[g.out] at W x;simp only[Gd] at W x;obtain⟨hc,hf⟩:=mD h;have Y:=Ax h;clear h C))
   all_goals
    go_wp2
    go_meet
    case rel=>
     simp only[if_true]
     first
      |exact⟨_,rfl,trivial,PSt.after m.out HB.out n.out Y.out _⟩
      |exact⟨_,rfl,trivial,PSt.before m.out HB.out n.out Y.out _⟩
  |false=>
   simp only[Bool.false_eq_true,if_false] at g;go_region_with ((go_at_call 50;refine(Qk _).mono ?_;rintro e V ⟨b,rfl,C,h⟩;have W:=d.out V b C;have x:=d.out (V.alloc (.cells #[.nilFunc] 84)) b (C.only ((Bb.refl [] V).alloc _) rI);rw[g.out] at W x;simp only[Gd] at W x;obtain⟨hc,hf⟩:=mD h;have Y:=Ax h;clear h C))
   all_goals
    go_wp2
    go_meet
    case rel=>
     simp only[Bool.false_eq_true,if_false]
     first
      |exact⟨_,rfl,trivial,PSt.after m.out HB.out n.out Y.out _⟩
      |exact⟨_,rfl,trivial,PSt.before m.out HB.out n.out Y.out _⟩
 case rest=>
  obtain⟨p,rfl,rfl,Z⟩:=hcut;obtain⟨r,hr⟩:∃r,Eg (dl s)=r:=⟨_,rfl⟩;have I:=S9 (dl s);rw[hr] at HP A I;have Hf1:=Ax I;have Hr:=Ax hr;clear hr I d g a0 a1 a2 f0 m n y HB
  obtain⟨V1,a8,hh⟩:∃V1,(if E then V1=wc else V1=wc.setCell ⟨p,0,none⟩ (.func (.func fn) #[] #[]))/\Hid (PSt w V1 p (.func (.func fn) #[] #[])):=by
   cases E with
   |true=>exact⟨wc,rfl,by simpa using Z⟩
   |false=>exact⟨_,rfl,Ax (Z.out.store _)⟩
  have c:=Ax (A.out V1 hh.out.low);obtain⟨b0,b1,b2,bf,b3,b7,_,_⟩:=hh.out.cells;obtain⟨c0,c1,c2,cf,c3,b8,_,_⟩:=Z.out.cells;have j:=Ax a8;clear A a8;rcases U.out with ⟨rfl,rfl⟩|⟨rfl,rfl|rfl|rfl⟩
  case inl=>
   simp only[Bool.false_eq_true,if_false] at j c3;go_upto_region 8 with fail
   rw[←j.out];clear j c0 c1 c2 cf c3 b8 Z;go_wp2_with fail;refine c.out.mono ?_;rintro e V2 ⟨h,he⟩;have h2:=hh.out.below h;have hR2:=O.out.below h2.low;clear c b0 b1 b2 bf b3 b7 h;obtain⟨b0,b1,b2,bf,_,_,d8,_⟩:=h2.cells;cases r with
   |error q=>
    exact zyc
   |ok p2=>
    exact zzu
  all_goals
   simp only[if_true] at j c3;have hv:=j.out;subst hv;clear j c0 c1 c2 cf c3 b8 Z;go_wp2_with fail;refine c.out.mono ?_;rintro e V2 ⟨h,he⟩;have h2:=hh.out.below h;have hR2:=O.out.below h2.low;clear c b0 b1 b2 bf b3 b7 h;obtain⟨b0,b1,b2,bf,_,_,d8,_⟩:=h2.cells;cases r with
   |error q=>
    exact zyc
   |ok p2=>
    exact zzu
end Go.Proofs.YtgfakdobajgnfaaGreatDoor

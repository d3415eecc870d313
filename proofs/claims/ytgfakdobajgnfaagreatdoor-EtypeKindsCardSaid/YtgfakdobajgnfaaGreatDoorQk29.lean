import Derived.Test.YtgfakdobajgnfaaGreatDoorQk28
set_option maxRecDepth 100000
set_option maxHeartbeats 16000000
namespace Go.Proofs.YtgfakdobajgnfaaGreatDoor
open Go Go.RowKit
theorem Ec.lay {w W Z:World}{B b bad r m:Nat}{A c d:Value}{ts:List Tkn}{e:Int}{E C:List Value}(h:Ec w B b A ts c e bad r)(hm:m<=r)(n:w.ownsRow B 43 8 c m E)
 (u:Below w.heap.size w W) (o:W.grownBy Z c.ownBlock) (f:Z.ownsRow B 43 8 d (m+1) C) (F:∀g,d.ownBlock=some g->c.ownBlock=some g\/w.heap.size<=g)
 (j:r+1<=1000000):Ec (Z.setCell ⟨b,3,none⟩ d) B b A ts d e bad (r+1)/\Rch b w c (Z.setCell ⟨b,3,none⟩ d) d:=by
 obtain⟨a,G,p⟩:=h.blk;have D:Bb c.ownBlock.toList w Z:=(Bb.of_below u _).trans (Bb.of_grown o _ fun k p=>by simp [p]);have v:c.ownBlock≠some b:=Bh n p rH;have q:=(D.block b (Ay p) (by simpa using v)).trans p;have x:Bb (b::c.ownBlock.toList) w (Z.setCell ⟨b,3,none⟩ d):=(D.mono fun i I=>Aj _ I).setCell (.inl rI) _;refine⟨⟨h.toks.kept x.size fun g o y=>x.block g y fun hm=>?_,h.tl,h.hB,h.big,j,h.ne,⟨a,G,by rw[A2 q];rfl⟩,m+1,C,by omega,?_⟩,x,fun g o=>F g o⟩
 ·have L:=h.tl g o;rcases List.mem_cons.1 hm with rfl|hm
  ·have:=h.hB
   omega
  have:=Co n g sE
  omega
 exact Bj f (A3 Z b 3 d) fun g e hm=>by
  simp at hm;subst hm;exact Bh f q rH e
theorem D3 {w:World}{B b bad O:Nat}{vl vt:Value}{ts:List Tkn}{er:Int}(h:Ec w B b vl ts vt er bad O)(v:O+1<=1000000)(hB:B<=w.heap.size)(hd:Hd)(d:Option Addr)(f i:Nat):
 Calls Tryz.prog 166 #[.pointer (some ⟨b,0,none⟩),hdK hd (.slice d f i)] w fun e w'=>∃(z:Int) (A:Value),e= .returned (.int .i64 z)/\Ec w' B b vl ts A er bad (O+1)/\Rch b w vt w' A:=by
 obtain⟨a0,b8,u⟩:=h.blk;obtain⟨m,xs,R,o⟩:=h.row;obtain⟨T,U,rfl⟩:=D8 o;obtain⟨c0,c1,c2,V,c4,c5,cf⟩:=Be u;have W:=cf 3;obtain⟨i0,hi,C,D,E⟩:=I0;have hb:=Ay u;obtain⟨op,⟨vk,vn,vs⟩,j,k,n⟩:=hd;have Ow:Hid (((w.alloc (.cells #[.int .u8 op,.int .u8 vk,.int .i64 vn,.string ⟨vs.toArray⟩,.string ⟨j.toArray⟩,.slice d f i,.int .i64 k,.int .i64 n] 43)).alloc (.cells #[.int .u8 op,.int .u8 vk,.int .i64 vn,.string ⟨vs.toArray⟩,.string ⟨j.toArray⟩,.slice d f i,.int .i64 k,.int .i64 n] 43)).drew.ownsRow B 43 8 (.slice T m U) m xs):=Ax (Cg o (Bb.drew (((Bb.refl [] w).alloc _).alloc _)).below);have M:Hid (Below w.heap.size w ((w.alloc (.cells #[.int .u8 op,.int .u8 vk,.int .i64 vn,.string ⟨vs.toArray⟩,.string ⟨j.toArray⟩,.slice d f i,.int .i64 k,.int .i64 n] 43)).alloc (.cells #[.int .u8 op,.int .u8 vk,.int .i64 vn,.string ⟨vs.toArray⟩,.string ⟨j.toArray⟩,.slice d f i,.int .i64 k,.int .i64 n] 43)).drew):=Ax (Bb.drew (((Bb.refl [] w).alloc _).alloc _)).below;have HS:Hid (((w.alloc (.cells #[.int .u8 op,.int .u8 vk,.int .i64 vn,.string ⟨vs.toArray⟩,.string ⟨j.toArray⟩,.slice d f i,.int .i64 k,.int .i64 n] 43)).alloc (.cells #[.int .u8 op,.int .u8 vk,.int .i64 vn,.string ⟨vs.toArray⟩,.string ⟨j.toArray⟩,.slice d f i,.int .i64 k,.int .i64 n] 43)).drew.heap.size=w.heap.size+2):=Ax tT;have y:Hid (Value.ownBlock (.slice T m U)≠some b):=Ax (Bh o u rH)
 have HN:Hid (((w.alloc (.cells #[.int .u8 op,.int .u8 vk,.int .i64 vn,.string ⟨vs.toArray⟩,.string ⟨j.toArray⟩,.slice d f i,.int .i64 k,.int .i64 n] 43)).alloc (.cells #[.int .u8 op,.int .u8 vk,.int .i64 vn,.string ⟨vs.toArray⟩,.string ⟨j.toArray⟩,.slice d f i,.int .i64 k,.int .i64 n] 43)).drew.heap[w.heap.size+1]? =some (.cells #[.int .u8 op,.int .u8 vk,.int .i64 vn,.string ⟨vs.toArray⟩,.string ⟨j.toArray⟩,.slice d f i,.int .i64 k,.int .i64 n] 43)):=Ax (by
  have:=Az (w.alloc (.cells #[.int .u8 op,.int .u8 vk,.int .i64 vn,.string ⟨vs.toArray⟩,.string ⟨j.toArray⟩,.slice d f i,.int .i64 k,.int .i64 n] 43)) (.cells #[.int .u8 op,.int .u8 vk,.int .i64 vn,.string ⟨vs.toArray⟩,.string ⟨j.toArray⟩,.slice d f i,.int .i64 k,.int .i64 n] 43)
  rw[show(w.alloc (.cells #[.int .u8 op,.int .u8 vk,.int .i64 vn,.string ⟨vs.toArray⟩,.string ⟨j.toArray⟩,.slice d f i,.int .i64 k,.int .i64 n] 43)).heap.size=w.heap.size+1 by simp] at this
  exact this)
 have p3:=A4 M.out V;have pf:((w.alloc (.cells #[.int .u8 op,.int .u8 vk,.int .i64 vn,.string ⟨vs.toArray⟩,.string ⟨j.toArray⟩,.slice d f i,.int .i64 k,.int .i64 n] 43)).alloc (.cells #[.int .u8 op,.int .u8 vk,.int .i64 vn,.string ⟨vs.toArray⟩,.string ⟨j.toArray⟩,.slice d f i,.int .i64 k,.int .i64 n] 43)).drew.frozen? ⟨b,3,none⟩=false:=(M.out.frozen (p:=⟨b,3,none⟩) hb).trans W;have F:=Ax o;have H:=Ax h;have Hi:=Ax hi;have X:=Ax C;have Y:=Ax D;have Z:=Ax E;clear h o u hi C D E cf;unfold hdK;clear c0 c1 c2 c4 c5;go_enter Tryz.func166,Tryz.ntmps166;go_wp2_with fail
 go_region_law
  ((refine step_append_lies _ tI _ _ _ tI B 43 i0 (.agg #[.int .u8 0,.int .u8 0,.int .i64 0,.string ⟨#[]⟩,.string ⟨#[]⟩,.slice none 0 0,.int .i64 0,.int .i64 0]) 8 96 Tryz.underlying31 Hi.out X.out Y.out Z.out rfl rH (.slice T m U) m xs tI Ow.out ⟨w.heap.size+1,0,none⟩ 1 1 [.int .u8 op,.int .u8 vk,.int .i64 vn,.string ⟨vs.toArray⟩,.string ⟨j.toArray⟩,.slice d f i,.int .i64 k,.int .i64 n] tI tI (World.news_of_block (cs:= #[.int .u8 op,.int .u8 vk,.int .i64 vn,.string ⟨vs.toArray⟩,.string ⟨j.toArray⟩,.slice d f i,.int .i64 k,.int .i64 n]) (t:=43) (fr:=(0,0)) HN.out) rS rH rP rF (by rw[HS.out];omega) (w.heap.size+2) HS.out ?_;intro g a8 w3 r c G b7;have r0:=(c.cell_far ⟨b,3,none⟩ sT (Ne.symm y.out)).trans p3;have rf:=(c.frozen_far ⟨b,3,none⟩ sT (Ne.symm y.out)).trans pf))
 all_goals
  have N:=H.out.lay R F.out M.out c r (fun x hx=>by
   simp only[Value.ownBlock,Option.some.injEq] at hx;subst hx;rcases G with q|q
   ·exact .inl q
   exact .inr rF) v
  clear r c G b7 r0 rf p3 pf V Ow M HS y HN F;obtain⟨W1,I⟩:∃W1,w3.setCell ⟨b,3,none⟩ (.slice (some ⟨g,0,none⟩) (m+1) a8)=W1:=⟨_,rfl⟩;rw[I] at N ⊢;clear I;obtain⟨a9,d8,L⟩:=N.1.blk;obtain⟨_,_,_,V,_⟩:=Be L;have HG:=Ax N;clear N L;go_wp2_with fail;go_ret;exact⟨_,_,rfl,HG.out.1,HG.out.2⟩
theorem Yj (s:List UInt8)(w:World):Calls Tryz.prog 170 #[.string ⟨s.toArray⟩] w fun e w'=>e= .returned (.tuple #[.int .u8 ((Di s).getD (0,0,0)).1,.int .i64 (((Di s).getD (0,0,0)).2.1:Int),.int .i64 (((Di s).getD (0,0,0)).2.2:Int)])/\w=w':=by
 obtain⟨Z,h⟩:∃Z:ByteArray,⟨s.toArray⟩=Z:=⟨_,rfl⟩;have c:dl Z=s:=by rw[←h]
 rw[h];clear h;go_enter Tryz.func170,Tryz.ntmps170;by_cases c0:s=[97,98,115]
 ·have d:=Ax (show(Di s).getD (0,0,0)=(18,1,1) by rw[c0];decide);have f:(Z.toList==[97,98,115])=true:=by rw[A0,c,c0];rfl
  clear c c0;go_wp2_with fail;exact Au (v:= .tuple #[.int .u8 18,.int .i64 1,.int .i64 1]) rX rfl ⟨by rw[d.out];rfl,rfl⟩
 have f:(Z.toList==[97,98,115])=false:=by rw[A0,c];exact Af.2 c0
 by_cases c1:s=[109,105,110]
 ·have d:=Ax (show(Di s).getD (0,0,0)=(19,1,8) by rw[c1];decide);have f:(Z.toList==[97,98,115])=false:=by rw[A0,c,c1];rfl
  have g:(Z.toList==[109,105,110])=true:=by rw[A0,c,c1];rfl
  clear c c0 c1;go_wp2_with fail;exact Au (v:= .tuple #[.int .u8 19,.int .i64 1,.int .i64 8]) rX rfl ⟨by rw[d.out];rfl,rfl⟩
 have g:(Z.toList==[109,105,110])=false:=by rw[A0,c];exact Af.2 c1
 by_cases c2:s=[109,97,120]
 ·have d:=Ax (show(Di s).getD (0,0,0)=(20,1,8) by rw[c2];decide);have f:(Z.toList==[97,98,115])=false:=by rw[A0,c,c2];rfl
  have g:(Z.toList==[109,105,110])=false:=by rw[A0,c,c2];rfl
  have i:(Z.toList==[109,97,120])=true:=by rw[A0,c,c2];rfl
  clear c c0 c1 c2;go_wp2_with fail;exact Au (v:= .tuple #[.int .u8 20,.int .i64 1,.int .i64 8]) rX rfl ⟨by rw[d.out];rfl,rfl⟩
 have i:(Z.toList==[109,97,120])=false:=by rw[A0,c];exact Af.2 c2
 by_cases c3:s=[109,111,100]
 ·have d:=Ax (show(Di s).getD (0,0,0)=(21,2,2) by rw[c3];decide);have f:(Z.toList==[97,98,115])=false:=by rw[A0,c,c3];rfl
  have g:(Z.toList==[109,105,110])=false:=by rw[A0,c,c3];rfl
  have i:(Z.toList==[109,97,120])=false:=by rw[A0,c,c3];rfl
  have j:(Z.toList==[109,111,100])=true:=by rw[A0,c,c3];rfl
  clear c c0 c1 c2 c3;go_wp2_with fail;exact Au (v:= .tuple #[.int .u8 21,.int .i64 2,.int .i64 2]) rX rfl ⟨by rw[d.out];rfl,rfl⟩
 have j:(Z.toList==[109,111,100])=false:=by rw[A0,c];exact Af.2 c3
 by_cases c4:s=[108,101,110,103,116,104]
 ·have d:=Ax (show(Di s).getD (0,0,0)=(22,1,1) by rw[c4];decide);have f:(Z.toList==[97,98,115])=false:=by rw[A0,c,c4];rfl
  have g:(Z.toList==[109,105,110])=false:=by rw[A0,c,c4];rfl
  have i:(Z.toList==[109,97,120])=false:=by rw[A0,c,c4];rfl
  have j:(Z.toList==[109,111,100])=false:=by rw[A0,c,c4];rfl
  have k:(Z.toList==[108,101,110,103,116,104])=true:=by rw[A0,c,c4];rfl
  clear c c0 c1 c2 c3 c4;go_wp2_with fail;exact Au (v:= .tuple #[.int .u8 22,.int .i64 1,.int .i64 1]) rX rfl ⟨by rw[d.out];rfl,rfl⟩
 have k:(Z.toList==[108,101,110,103,116,104])=false:=by rw[A0,c];exact Af.2 c4
 by_cases c5:s=[117,112,112,101,114]
 ·have d:=Ax (show(Di s).getD (0,0,0)=(23,1,1) by rw[c5];decide);have f:(Z.toList==[97,98,115])=false:=by rw[A0,c,c5];rfl
  have g:(Z.toList==[109,105,110])=false:=by rw[A0,c,c5];rfl
  have i:(Z.toList==[109,97,120])=false:=by rw[A0,c,c5];rfl
  have j:(Z.toList==[109,111,100])=false:=by rw[A0,c,c5];rfl
  have k:(Z.toList==[108,101,110,103,116,104])=false:=by rw[A0,c,c5];rfl
  have m:(Z.toList==[117,112,112,101,114])=true:=by rw[A0,c,c5];rfl
  clear c c0 c1 c2 c3 c4 c5;go_wp2_with fail;exact Au (v:= .tuple #[.int .u8 23,.int .i64 1,.int .i64 1]) rX rfl ⟨by rw[d.out];rfl,rfl⟩
 have m:(Z.toList==[117,112,112,101,114])=false:=by rw[A0,c];exact Af.2 c5
 by_cases c6:s=[99,111,110,116,97,105,110,115]
 ·have d:=Ax (show(Di s).getD (0,0,0)=(24,2,2) by rw[c6];decide);have f:(Z.toList==[97,98,115])=false:=by rw[A0,c,c6];rfl
  have g:(Z.toList==[109,105,110])=false:=by rw[A0,c,c6];rfl
  have i:(Z.toList==[109,97,120])=false:=by rw[A0,c,c6];rfl
  have j:(Z.toList==[109,111,100])=false:=by rw[A0,c,c6];rfl
  have k:(Z.toList==[108,101,110,103,116,104])=false:=by rw[A0,c,c6];rfl
  have m:(Z.toList==[117,112,112,101,114])=false:=by rw[A0,c,c6];rfl
  have n:(Z.toList==[99,111,110,116,97,105,110,115])=true:=by rw[A0,c,c6];rfl
  clear c c0 c1 c2 c3 c4 c5 c6;go_wp2_with fail;exact Au (v:= .tuple #[.int .u8 24,.int .i64 2,.int .i64 2]) rX rfl ⟨by rw[d.out];rfl,rfl⟩
 have n:(Z.toList==[99,111,110,116,97,105,110,115])=false:=by rw[A0,c];exact Af.2 c6
 by_cases c7:s=[115,116,97,114,116,115]
 ·have d:=Ax (show(Di s).getD (0,0,0)=(25,2,2) by rw[c7];decide);have f:(Z.toList==[97,98,115])=false:=by rw[A0,c,c7];rfl
  have g:(Z.toList==[109,105,110])=false:=by rw[A0,c,c7];rfl
  have i:(Z.toList==[109,97,120])=false:=by rw[A0,c,c7];rfl
  have j:(Z.toList==[109,111,100])=false:=by rw[A0,c,c7];rfl
  have k:(Z.toList==[108,101,110,103,116,104])=false:=by rw[A0,c,c7];rfl
  have m:(Z.toList==[117,112,112,101,114])=false:=by rw[A0,c,c7];rfl
  have n:(Z.toList==[99,111,110,116,97,105,110,115])=false:=by rw[A0,c,c7];rfl
  have o:(Z.toList==[115,116,97,114,116,115])=true:=by rw[A0,c,c7];rfl
  clear c c0 c1 c2 c3 c4 c5 c6 c7;go_wp2_with fail;exact Au (v:= .tuple #[.int .u8 25,.int .i64 2,.int .i64 2]) rX rfl ⟨by rw[d.out];rfl,rfl⟩
 have o:(Z.toList==[115,116,97,114,116,115])=false:=by rw[A0,c];exact Af.2 c7
 by_cases c8:s=[105,102]
 ·have d:=Ax (show(Di s).getD (0,0,0)=(26,3,3) by rw[c8];decide);have f:(Z.toList==[97,98,115])=false:=by rw[A0,c,c8];rfl
  have g:(Z.toList==[109,105,110])=false:=by rw[A0,c,c8];rfl
  have i:(Z.toList==[109,97,120])=false:=by rw[A0,c,c8];rfl
  have j:(Z.toList==[109,111,100])=false:=by rw[A0,c,c8];rfl
  have k:(Z.toList==[108,101,110,103,116,104])=false:=by rw[A0,c,c8];rfl
  have m:(Z.toList==[117,112,112,101,114])=false:=by rw[A0,c,c8];rfl
  have n:(Z.toList==[99,111,110,116,97,105,110,115])=false:=by rw[A0,c,c8];rfl
  have o:(Z.toList==[115,116,97,114,116,115])=false:=by rw[A0,c,c8];rfl
  have p:(Z.toList==[105,102])=true:=by rw[A0,c,c8];rfl
  clear c c0 c1 c2 c3 c4 c5 c6 c7 c8;go_wp2_with fail;exact Au (v:= .tuple #[.int .u8 26,.int .i64 3,.int .i64 3]) rX rfl ⟨by rw[d.out];rfl,rfl⟩
 have p:(Z.toList==[105,102])=false:=by rw[A0,c];exact Af.2 c8
 have d:=Ax (show(Di s).getD (0,0,0)=(0,0,0) by unfold Di;rw[Ao c0,Ao c1,Ao c2,Ao c3,Ao c4,Ao c5,Ao c6,Ao c7,Ao c8];rfl);clear c0 c1 c2 c3 c4 c5 c6 c7 c8;go_wp2_with fail;exact Au (v:= .tuple #[.int .u8 0,.int .i64 0,.int .i64 0]) rX rfl ⟨by rw[d.out];rfl,rfl⟩
open Go Go.RowKit Go.Lib
def Cz (s:List UInt8):List (List UInt8×Int)->Int
 |[]=>0
 |(x,o)::l=>if s=x then o else Cz s l
theorem Kg (r:List Tkn):∀(l:List (List UInt8×Int)),(∀p∈l,p.1≠[])->Cz (Fx r) l=B6 r l
 |[],_=>rfl
 |(x,o)::l,h=>by
  have e:=I4 (r:=r) (h (x,o) Ai);have c:=Kg r l fun p d=>h p (Aj _ d)
  show(if Fx r=x then o else Cz (Fx r) l)=if isH x r=true then o else B6 r l
  rw[c,←e];simp
theorem Qv (n:Nat):∀p∈Bt n,p.1≠[]:=by
 unfold Bt;intro p c
 repeat' split at c
 all_goals
  simp only[List.mem_cons,List.not_mem_nil,or_false] at c
 all_goals first
  |(rcases c with rfl|rfl|rfl|rfl|rfl|rfl<;>simp;done)
  |(rcases c with rfl|rfl<;>simp;done)
  |(subst c;simp;done)
theorem qW (w:World)(c d e f g i j:Obj){W:World}(h:((((((w.alloc c).alloc d).alloc e).alloc f).alloc g).alloc i).alloc j=W):
 W.heap[w.heap.size]? =some c/\W.heap[w.heap.size+1]? =some d/\W.heap[w.heap.size+2]? =some e/\W.heap[w.heap.size+3]? =some f/\W.heap[w.heap.size+4]? =some g/\W.heap[w.heap.size+5]? =some i/\W.heap[w.heap.size+6]? =some j/\Below w.heap.size w W:=by
 subst h;have k:∀(w:World) (o:Obj),(w.alloc o).heap=w.heap.push o:=fun _ _=>rfl
 refine⟨?_,?_,?_,?_,?_,?_,?_,(((((((Aq _ _).alloc (Ak _) _).alloc rI _).alloc (by simp<;>omega) _).alloc (by simp<;>omega) _).alloc (by simp<;>omega) _).alloc (by simp<;>omega) _).alloc (by simp<;>omega) _⟩
 all_goals
  simp only[k,Array.getElem?_push,Array.size_push]
  repeat (first|rw[Ao rF]|rw[Ap rF])
  simp
theorem Ek {a b:Int}(h:a=b):Ending.returned (.int .u8 a)= .returned (.int .u8 b):=by rw[h]
theorem L8 (n:Nat)(p:n<=6)(s:List UInt8)(w:World):Calls Tryz.prog 167 #[.int .i64 (n:Int),.string ⟨s.toArray⟩] w fun e w'=>e= .returned (.int .u8 (Cz s (Bt n)))/\Below w.heap.size w w':=by
 obtain⟨Z,u⟩:∃Z:ByteArray,⟨s.toArray⟩=Z:=⟨_,rfl⟩;have hZ:dl Z=s:=by rw[←u]
 rw[u];clear u;obtain⟨W,D⟩:∃W,(((((((w.alloc (.cells #[.string ⟨#[111,114]⟩] 9)).alloc (.cells #[.string ⟨#[97,110,100]⟩] 9)).alloc (.cells #[.string ⟨#[61]⟩,.string ⟨#[60,62]⟩,.string ⟨#[60]⟩,.string ⟨#[60,61]⟩,.string ⟨#[62]⟩,.string ⟨#[62,61]⟩] 9)).alloc (.cells #[.string ⟨#[43]⟩,.string ⟨#[45]⟩] 9)).alloc (.cells #[.string ⟨#[42]⟩,.string ⟨#[47]⟩] 9)).alloc (.cells #[.slice (some ⟨w.heap.size+0,0,none⟩) 1 1,.slice (some ⟨w.heap.size+1,0,none⟩) 1 1,.slice none 0 0,.slice (some ⟨w.heap.size+2,0,none⟩) 6 6,.slice (some ⟨w.heap.size+3,0,none⟩) 2 2,.slice (some ⟨w.heap.size+4,0,none⟩) 2 2,.slice none 0 0] 39)).alloc (.cells #[.int .u8 4,.int .u8 5,.int .u8 0,.int .u8 7,.int .u8 13,.int .u8 15,.int .u8 0] 5))=W:=⟨_,rfl⟩;obtain⟨q,r,j,k,m,g,h,E⟩:=qW w _ _ _ _ _ _ _ D;have v:=Ax D;have HB:=Ax E;clear D E;obtain⟨d,f⟩:0<=n/\n<=6:=⟨Nat.zero_le _,p⟩;rcases (show n=0\/n=1\/n=2\/n=3\/n=4\/n=5\/n=6 by omega) with rfl|rfl|rfl|rfl|rfl|rfl|rfl
 ·have x:W.cell? ⟨w.heap.size+5,0,none⟩=some (.slice (some ⟨w.heap.size+0,0,none⟩) 1 1):=by simp only[World.cell?,g];rfl
  have y:W.cell? ⟨w.heap.size+6,0,none⟩=some (.int .u8 4):=by simp only[World.cell?,h];rfl
  have o:W.cell? ⟨w.heap.size,0,none⟩=some (.string ⟨#[111,114]⟩):=by simp only[World.cell?,q];rfl
  clear q r j k m g h p d f;go_enter Tryz.func167,Tryz.ntmps167;go_upto_region 3 with fail
  change Code.wp _ _ _ _ (((((((w.alloc (.cells #[.string ⟨#[111,114]⟩] 9)).alloc (.cells #[.string ⟨#[97,110,100]⟩] 9)).alloc (.cells #[.string ⟨#[61]⟩,.string ⟨#[60,62]⟩,.string ⟨#[60]⟩,.string ⟨#[60,61]⟩,.string ⟨#[62]⟩,.string ⟨#[62,61]⟩] 9)).alloc (.cells #[.string ⟨#[43]⟩,.string ⟨#[45]⟩] 9)).alloc (.cells #[.string ⟨#[42]⟩,.string ⟨#[47]⟩] 9)).alloc (.cells #[.slice (some ⟨w.heap.size+0,0,none⟩) 1 1,.slice (some ⟨w.heap.size+1,0,none⟩) 1 1,.slice none 0 0,.slice (some ⟨w.heap.size+2,0,none⟩) 6 6,.slice (some ⟨w.heap.size+3,0,none⟩) 2 2,.slice (some ⟨w.heap.size+4,0,none⟩) 2 2,.slice none 0 0] 39)).alloc (.cells #[.int .u8 4,.int .u8 5,.int .u8 0,.int .u8 7,.int .u8 13,.int .u8 15,.int .u8 0] 5));rw[v.out];go_wp2_with fail
  go_loop [7] (fun v7=>∃i:Nat,v7= .int .i64 (i:Int)/\i<=1/\Hid (Cz s (Bt 0)=Cz s ((Bt 0).drop i))) (fun v7=>1 - (intOf v7).toNat)
  case atStart=>exact⟨0,rfl,Nat.zero_le _,Ax rfl⟩
  obtain⟨i,rfl,A,hq⟩:=hrel;rcases (show i=0\/i=1 by omega) with rfl|rfl
  ·by_cases c:s=[111,114]
   ·have t:(Z.toList==[111,114])=true:=by rw[A0,hZ,c];rfl
    have t':([111,114]==Z.toList)=true:=by rw[A0,hZ,c];rfl
    have HR:=Ax (Ek (a:=4) (show(4:Int)=Cz s (Bt 0) by rw[hq.out,c];decide));clear hq c hZ;exact zzd
   have t:(Z.toList==[111,114])=false:=by rw[A0,hZ];exact Af.2 c
   have t':([111,114]==Z.toList)=false:=by rw[A0,hZ];exact Af.2 (fun e=>c e.symm)
   have HM:=Ax (show Cz s (Bt 0)=Cz s ((Bt 0).drop 1) by rw[hq.out];show(if s=[111,114] then _ else _)=_;rw[Ao c];rfl);exact zyt
  have HR:=Ax (Ek (a:=0) (show(0:Int)=Cz s (Bt 0) by rw[hq.out];rfl));clear hq;exact zzd
 ·have x:W.cell? ⟨w.heap.size+5,1,none⟩=some (.slice (some ⟨w.heap.size+1,0,none⟩) 1 1):=by simp only[World.cell?,g];rfl
  have y:W.cell? ⟨w.heap.size+6,1,none⟩=some (.int .u8 5):=by simp only[World.cell?,h];rfl
  have o:W.cell? ⟨w.heap.size+1,0,none⟩=some (.string ⟨#[97,110,100]⟩):=by simp only[World.cell?,r];rfl
  clear q r j k m g h p d f;go_enter Tryz.func167,Tryz.ntmps167;go_upto_region 3 with fail
  change Code.wp _ _ _ _ (((((((w.alloc (.cells #[.string ⟨#[111,114]⟩] 9)).alloc (.cells #[.string ⟨#[97,110,100]⟩] 9)).alloc (.cells #[.string ⟨#[61]⟩,.string ⟨#[60,62]⟩,.string ⟨#[60]⟩,.string ⟨#[60,61]⟩,.string ⟨#[62]⟩,.string ⟨#[62,61]⟩] 9)).alloc (.cells #[.string ⟨#[43]⟩,.string ⟨#[45]⟩] 9)).alloc (.cells #[.string ⟨#[42]⟩,.string ⟨#[47]⟩] 9)).alloc (.cells #[.slice (some ⟨w.heap.size+0,0,none⟩) 1 1,.slice (some ⟨w.heap.size+1,0,none⟩) 1 1,.slice none 0 0,.slice (some ⟨w.heap.size+2,0,none⟩) 6 6,.slice (some ⟨w.heap.size+3,0,none⟩) 2 2,.slice (some ⟨w.heap.size+4,0,none⟩) 2 2,.slice none 0 0] 39)).alloc (.cells #[.int .u8 4,.int .u8 5,.int .u8 0,.int .u8 7,.int .u8 13,.int .u8 15,.int .u8 0] 5));rw[v.out];go_wp2_with fail
  go_loop [7] (fun v7=>∃i:Nat,v7= .int .i64 (i:Int)/\i<=1/\Hid (Cz s (Bt 1)=Cz s ((Bt 1).drop i))) (fun v7=>1 - (intOf v7).toNat)
  case atStart=>exact⟨0,rfl,Nat.zero_le _,Ax rfl⟩
  obtain⟨i,rfl,A,hq⟩:=hrel;rcases (show i=0\/i=1 by omega) with rfl|rfl
  ·by_cases c:s=[97,110,100]
   ·have t:(Z.toList==[97,110,100])=true:=by rw[A0,hZ,c];rfl
    have t':([97,110,100]==Z.toList)=true:=by rw[A0,hZ,c];rfl
    have HR:=Ax (Ek (a:=5) (show(5:Int)=Cz s (Bt 1) by rw[hq.out,c];decide));clear hq c hZ;exact zzd
   have t:(Z.toList==[97,110,100])=false:=by rw[A0,hZ];exact Af.2 c
   have t':([97,110,100]==Z.toList)=false:=by rw[A0,hZ];exact Af.2 (fun e=>c e.symm)
   have HM:=Ax (show Cz s (Bt 1)=Cz s ((Bt 1).drop 1) by rw[hq.out];show(if s=[97,110,100] then _ else _)=_;rw[Ao c];rfl);exact zyt
  have HR:=Ax (Ek (a:=0) (show(0:Int)=Cz s (Bt 1) by rw[hq.out];rfl));clear hq;exact zzd
 ·have x:W.cell? ⟨w.heap.size+5,2,none⟩=some (.slice none 0 0):=by simp only[World.cell?,g];rfl
  have y:W.cell? ⟨w.heap.size+6,2,none⟩=some (.int .u8 0):=by simp only[World.cell?,h];rfl
  clear q r j k m g h p d f;go_enter Tryz.func167,Tryz.ntmps167;go_upto_region 3 with fail
  change Code.wp _ _ _ _ (((((((w.alloc (.cells #[.string ⟨#[111,114]⟩] 9)).alloc (.cells #[.string ⟨#[97,110,100]⟩] 9)).alloc (.cells #[.string ⟨#[61]⟩,.string ⟨#[60,62]⟩,.string ⟨#[60]⟩,.string ⟨#[60,61]⟩,.string ⟨#[62]⟩,.string ⟨#[62,61]⟩] 9)).alloc (.cells #[.string ⟨#[43]⟩,.string ⟨#[45]⟩] 9)).alloc (.cells #[.string ⟨#[42]⟩,.string ⟨#[47]⟩] 9)).alloc (.cells #[.slice (some ⟨w.heap.size+0,0,none⟩) 1 1,.slice (some ⟨w.heap.size+1,0,none⟩) 1 1,.slice none 0 0,.slice (some ⟨w.heap.size+2,0,none⟩) 6 6,.slice (some ⟨w.heap.size+3,0,none⟩) 2 2,.slice (some ⟨w.heap.size+4,0,none⟩) 2 2,.slice none 0 0] 39)).alloc (.cells #[.int .u8 4,.int .u8 5,.int .u8 0,.int .u8 7,.int .u8 13,.int .u8 15,.int .u8 0] 5));rw[v.out];go_wp2_with fail
  go_loop [7] (fun v7=>∃i:Nat,v7= .int .i64 (i:Int)/\i<=0/\Hid (Cz s (Bt 2)=Cz s ((Bt 2).drop i))) (fun v7=>0 - (intOf v7).toNat)
  case atStart=>exact⟨0,rfl,Nat.zero_le _,Ax rfl⟩
  obtain⟨i,rfl,A,hq⟩:=hrel;obtain rfl:i=0:=by omega
  have HR:=Ax (Ek (a:=0) (show(0:Int)=Cz s (Bt 2) by rw[hq.out];rfl));clear hq;exact zzd
 ·have x:W.cell? ⟨w.heap.size+5,3,none⟩=some (.slice (some ⟨w.heap.size+2,0,none⟩) 6 6):=by simp only[World.cell?,g];rfl
  have y:W.cell? ⟨w.heap.size+6,3,none⟩=some (.int .u8 7):=by simp only[World.cell?,h];rfl
  have o:W.cell? ⟨w.heap.size+2,0,none⟩=some (.string ⟨#[61]⟩):=by simp only[World.cell?,j];rfl
  have C:W.cell? ⟨w.heap.size+2,1,none⟩=some (.string ⟨#[60,62]⟩):=by simp only[World.cell?,j];rfl
  have F:W.cell? ⟨w.heap.size+2,2,none⟩=some (.string ⟨#[60]⟩):=by simp only[World.cell?,j];rfl
  have G:W.cell? ⟨w.heap.size+2,3,none⟩=some (.string ⟨#[60,61]⟩):=by simp only[World.cell?,j];rfl
  have I:W.cell? ⟨w.heap.size+2,4,none⟩=some (.string ⟨#[62]⟩):=by simp only[World.cell?,j];rfl
  have L:W.cell? ⟨w.heap.size+2,5,none⟩=some (.string ⟨#[62,61]⟩):=by simp only[World.cell?,j];rfl
  clear q r j k m g h p d f;go_enter Tryz.func167,Tryz.ntmps167;go_upto_region 3 with fail
  change Code.wp _ _ _ _ (((((((w.alloc (.cells #[.string ⟨#[111,114]⟩] 9)).alloc (.cells #[.string ⟨#[97,110,100]⟩] 9)).alloc (.cells #[.string ⟨#[61]⟩,.string ⟨#[60,62]⟩,.string ⟨#[60]⟩,.string ⟨#[60,61]⟩,.string ⟨#[62]⟩,.string ⟨#[62,61]⟩] 9)).alloc (.cells #[.string ⟨#[43]⟩,.string ⟨#[45]⟩] 9)).alloc (.cells #[.string ⟨#[42]⟩,.string ⟨#[47]⟩] 9)).alloc (.cells #[.slice (some ⟨w.heap.size+0,0,none⟩) 1 1,.slice (some ⟨w.heap.size+1,0,none⟩) 1 1,.slice none 0 0,.slice (some ⟨w.heap.size+2,0,none⟩) 6 6,.slice (some ⟨w.heap.size+3,0,none⟩) 2 2,.slice (some ⟨w.heap.size+4,0,none⟩) 2 2,.slice none 0 0] 39)).alloc (.cells #[.int .u8 4,.int .u8 5,.int .u8 0,.int .u8 7,.int .u8 13,.int .u8 15,.int .u8 0] 5));rw[v.out];go_wp2_with fail
  go_loop [7] (fun v7=>∃i:Nat,v7= .int .i64 (i:Int)/\i<=6/\Hid (Cz s (Bt 3)=Cz s ((Bt 3).drop i))) (fun v7=>6 - (intOf v7).toNat)
  case atStart=>exact⟨0,rfl,Nat.zero_le _,Ax rfl⟩
  obtain⟨i,rfl,A,hq⟩:=hrel;rcases (show i=0\/i=1\/i=2\/i=3\/i=4\/i=5\/i=6 by omega) with rfl|rfl|rfl|rfl|rfl|rfl|rfl
  ·by_cases c:s=[61]
   ·have t:(Z.toList==[61])=true:=by rw[A0,hZ,c];rfl
    have t':([61]==Z.toList)=true:=by rw[A0,hZ,c];rfl
    have HR:=Ax (Ek (a:=7) (show(7:Int)=Cz s (Bt 3) by rw[hq.out,c];decide));clear hq c hZ;exact zzd
   have t:(Z.toList==[61])=false:=by rw[A0,hZ];exact Af.2 c
   have t':([61]==Z.toList)=false:=by rw[A0,hZ];exact Af.2 (fun e=>c e.symm)
   have HM:=Ax (show Cz s (Bt 3)=Cz s ((Bt 3).drop 1) by rw[hq.out];show(if s=[61] then _ else _)=_;rw[Ao c];rfl);exact zyt
  ·by_cases c:s=[60,62]
   ·have t:(Z.toList==[60,62])=true:=by rw[A0,hZ,c];rfl
    have t':([60,62]==Z.toList)=true:=by rw[A0,hZ,c];rfl
    have HR:=Ax (Ek (a:=8) (show(8:Int)=Cz s (Bt 3) by rw[hq.out,c];decide));clear hq c hZ;exact zzd
   have t:(Z.toList==[60,62])=false:=by rw[A0,hZ];exact Af.2 c
   have t':([60,62]==Z.toList)=false:=by rw[A0,hZ];exact Af.2 (fun e=>c e.symm)
   have HM:=Ax (show Cz s (Bt 3)=Cz s ((Bt 3).drop 2) by rw[hq.out];show(if s=[60,62] then _ else _)=_;rw[Ao c];rfl);exact zxr
  ·by_cases c:s=[60]
   ·have t:(Z.toList==[60])=true:=by rw[A0,hZ,c];rfl
    have t':([60]==Z.toList)=true:=by rw[A0,hZ,c];rfl
    have HR:=Ax (Ek (a:=9) (show(9:Int)=Cz s (Bt 3) by rw[hq.out,c];decide));clear hq c hZ;exact zzd
   have t:(Z.toList==[60])=false:=by rw[A0,hZ];exact Af.2 c
   have t':([60]==Z.toList)=false:=by rw[A0,hZ];exact Af.2 (fun e=>c e.symm)
   have HM:=Ax (show Cz s (Bt 3)=Cz s ((Bt 3).drop 3) by rw[hq.out];show(if s=[60] then _ else _)=_;rw[Ao c];rfl);clear hq c hZ;go_wp2_with fail
   go_round
   case rel=>exact⟨3,by first|rfl|go_num,by omega,HM⟩
   case measure=>simp [intOf]<;>omega
  ·by_cases c:s=[60,61]
   ·have t:(Z.toList==[60,61])=true:=by rw[A0,hZ,c];rfl
    have t':([60,61]==Z.toList)=true:=by rw[A0,hZ,c];rfl
    have HR:=Ax (Ek (a:=10) (show(10:Int)=Cz s (Bt 3) by rw[hq.out,c];decide));clear hq c hZ;exact zzd
   have t:(Z.toList==[60,61])=false:=by rw[A0,hZ];exact Af.2 c
   have t':([60,61]==Z.toList)=false:=by rw[A0,hZ];exact Af.2 (fun e=>c e.symm)
   have HM:=Ax (show Cz s (Bt 3)=Cz s ((Bt 3).drop 4) by rw[hq.out];show(if s=[60,61] then _ else _)=_;rw[Ao c];rfl);clear hq c hZ;go_wp2_with fail
   go_round
   case rel=>exact⟨4,by first|rfl|go_num,by omega,HM⟩
   case measure=>simp [intOf]<;>omega
  ·by_cases c:s=[62]
   ·have t:(Z.toList==[62])=true:=by rw[A0,hZ,c];rfl
    have t':([62]==Z.toList)=true:=by rw[A0,hZ,c];rfl
    have HR:=Ax (Ek (a:=11) (show(11:Int)=Cz s (Bt 3) by rw[hq.out,c];decide));clear hq c hZ;exact zzd
   have t:(Z.toList==[62])=false:=by rw[A0,hZ];exact Af.2 c
   have t':([62]==Z.toList)=false:=by rw[A0,hZ];exact Af.2 (fun e=>c e.symm)
   have HM:=Ax (show Cz s (Bt 3)=Cz s ((Bt 3).drop 5) by rw[hq.out];show(if s=[62] then _ else _)=_;rw[Ao c];rfl);clear hq c hZ;go_wp2_with fail
   go_round
   case rel=>exact⟨5,by first|rfl|go_num,by omega,HM⟩
   case measure=>simp [intOf]<;>omega
  ·by_cases c:s=[62,61]
   ·have t:(Z.toList==[62,61])=true:=by rw[A0,hZ,c];rfl
    have t':([62,61]==Z.toList)=true:=by rw[A0,hZ,c];rfl
    have HR:=Ax (Ek (a:=12) (show(12:Int)=Cz s (Bt 3) by rw[hq.out,c];decide));clear hq c hZ;exact zzd
   have t:(Z.toList==[62,61])=false:=by rw[A0,hZ];exact Af.2 c
   have t':([62,61]==Z.toList)=false:=by rw[A0,hZ];exact Af.2 (fun e=>c e.symm)
   have HM:=Ax (show Cz s (Bt 3)=Cz s ((Bt 3).drop 6) by rw[hq.out];show(if s=[62,61] then _ else _)=_;rw[Ao c];rfl);clear hq c hZ;go_wp2_with fail
   go_round
   case rel=>exact⟨6,by first|rfl|go_num,by omega,HM⟩
   case measure=>simp [intOf]<;>omega
  have HR:=Ax (Ek (a:=0) (show(0:Int)=Cz s (Bt 3) by rw[hq.out];rfl));clear hq;exact zzd
 ·have x:W.cell? ⟨w.heap.size+5,4,none⟩=some (.slice (some ⟨w.heap.size+3,0,none⟩) 2 2):=by simp only[World.cell?,g];rfl
  have y:W.cell? ⟨w.heap.size+6,4,none⟩=some (.int .u8 13):=by simp only[World.cell?,h];rfl
  have o:W.cell? ⟨w.heap.size+3,0,none⟩=some (.string ⟨#[43]⟩):=by simp only[World.cell?,k];rfl
  have C:W.cell? ⟨w.heap.size+3,1,none⟩=some (.string ⟨#[45]⟩):=by simp only[World.cell?,k];rfl
  clear q r j k m g h p d f;go_enter Tryz.func167,Tryz.ntmps167;go_upto_region 3 with fail
  change Code.wp _ _ _ _ (((((((w.alloc (.cells #[.string ⟨#[111,114]⟩] 9)).alloc (.cells #[.string ⟨#[97,110,100]⟩] 9)).alloc (.cells #[.string ⟨#[61]⟩,.string ⟨#[60,62]⟩,.string ⟨#[60]⟩,.string ⟨#[60,61]⟩,.string ⟨#[62]⟩,.string ⟨#[62,61]⟩] 9)).alloc (.cells #[.string ⟨#[43]⟩,.string ⟨#[45]⟩] 9)).alloc (.cells #[.string ⟨#[42]⟩,.string ⟨#[47]⟩] 9)).alloc (.cells #[.slice (some ⟨w.heap.size+0,0,none⟩) 1 1,.slice (some ⟨w.heap.size+1,0,none⟩) 1 1,.slice none 0 0,.slice (some ⟨w.heap.size+2,0,none⟩) 6 6,.slice (some ⟨w.heap.size+3,0,none⟩) 2 2,.slice (some ⟨w.heap.size+4,0,none⟩) 2 2,.slice none 0 0] 39)).alloc (.cells #[.int .u8 4,.int .u8 5,.int .u8 0,.int .u8 7,.int .u8 13,.int .u8 15,.int .u8 0] 5));rw[v.out];go_wp2_with fail
  go_loop [7] (fun v7=>∃i:Nat,v7= .int .i64 (i:Int)/\i<=2/\Hid (Cz s (Bt 4)=Cz s ((Bt 4).drop i))) (fun v7=>2 - (intOf v7).toNat)
  case atStart=>exact⟨0,rfl,Nat.zero_le _,Ax rfl⟩
  obtain⟨i,rfl,A,hq⟩:=hrel;rcases (show i=0\/i=1\/i=2 by omega) with rfl|rfl|rfl
  ·by_cases c:s=[43]
   ·have t:(Z.toList==[43])=true:=by rw[A0,hZ,c];rfl
    have t':([43]==Z.toList)=true:=by rw[A0,hZ,c];rfl
    have HR:=Ax (Ek (a:=13) (show(13:Int)=Cz s (Bt 4) by rw[hq.out,c];decide));clear hq c hZ;exact zzd
   have t:(Z.toList==[43])=false:=by rw[A0,hZ];exact Af.2 c
   have t':([43]==Z.toList)=false:=by rw[A0,hZ];exact Af.2 (fun e=>c e.symm)
   have HM:=Ax (show Cz s (Bt 4)=Cz s ((Bt 4).drop 1) by rw[hq.out];show(if s=[43] then _ else _)=_;rw[Ao c];rfl);exact zyt
  ·by_cases c:s=[45]
   ·have t:(Z.toList==[45])=true:=by rw[A0,hZ,c];rfl
    have t':([45]==Z.toList)=true:=by rw[A0,hZ,c];rfl
    have HR:=Ax (Ek (a:=14) (show(14:Int)=Cz s (Bt 4) by rw[hq.out,c];decide));clear hq c hZ;exact zzd
   have t:(Z.toList==[45])=false:=by rw[A0,hZ];exact Af.2 c
   have t':([45]==Z.toList)=false:=by rw[A0,hZ];exact Af.2 (fun e=>c e.symm)
   have HM:=Ax (show Cz s (Bt 4)=Cz s ((Bt 4).drop 2) by rw[hq.out];show(if s=[45] then _ else _)=_;rw[Ao c];rfl);exact zxr
  have HR:=Ax (Ek (a:=0) (show(0:Int)=Cz s (Bt 4) by rw[hq.out];rfl));clear hq;exact zzd
 ·have x:W.cell? ⟨w.heap.size+5,5,none⟩=some (.slice (some ⟨w.heap.size+4,0,none⟩) 2 2):=by simp only[World.cell?,g];rfl
  have y:W.cell? ⟨w.heap.size+6,5,none⟩=some (.int .u8 15):=by simp only[World.cell?,h];rfl
  have o:W.cell? ⟨w.heap.size+4,0,none⟩=some (.string ⟨#[42]⟩):=by simp only[World.cell?,m];rfl
  have C:W.cell? ⟨w.heap.size+4,1,none⟩=some (.string ⟨#[47]⟩):=by simp only[World.cell?,m];rfl
  clear q r j k m g h p d f;go_enter Tryz.func167,Tryz.ntmps167;go_upto_region 3 with fail
  change Code.wp _ _ _ _ (((((((w.alloc (.cells #[.string ⟨#[111,114]⟩] 9)).alloc (.cells #[.string ⟨#[97,110,100]⟩] 9)).alloc (.cells #[.string ⟨#[61]⟩,.string ⟨#[60,62]⟩,.string ⟨#[60]⟩,.string ⟨#[60,61]⟩,.string ⟨#[62]⟩,.string ⟨#[62,61]⟩] 9)).alloc (.cells #[.string ⟨#[43]⟩,.string ⟨#[45]⟩] 9)).alloc (.cells #[.string ⟨#[42]⟩,.string ⟨#[47]⟩] 9)).alloc (.cells #[.slice (some ⟨w.heap.size+0,0,none⟩) 1 1,.slice (some ⟨w.heap.size+1,0,none⟩) 1 1,.slice none 0 0,.slice (some ⟨w.heap.size+2,0,none⟩) 6 6,.slice (some ⟨w.heap.size+3,0,none⟩) 2 2,.slice (some ⟨w.heap.size+4,0,none⟩) 2 2,.slice none 0 0] 39)).alloc (.cells #[.int .u8 4,.int .u8 5,.int .u8 0,.int .u8 7,.int .u8 13,.int .u8 15,.int .u8 0] 5));rw[v.out];go_wp2_with fail
  go_loop [7] (fun v7=>∃i:Nat,v7= .int .i64 (i:Int)/\i<=2/\Hid (Cz s (Bt 5)=Cz s ((Bt 5).drop i))) (fun v7=>2 - (intOf v7).toNat)
  case atStart=>exact⟨0,rfl,Nat.zero_le _,Ax rfl⟩
  obtain⟨i,rfl,A,hq⟩:=hrel;rcases (show i=0\/i=1\/i=2 by omega) with rfl|rfl|rfl
  ·by_cases c:s=[42]
   ·have t:(Z.toList==[42])=true:=by rw[A0,hZ,c];rfl
    have t':([42]==Z.toList)=true:=by rw[A0,hZ,c];rfl
    have HR:=Ax (Ek (a:=15) (show(15:Int)=Cz s (Bt 5) by rw[hq.out,c];decide));clear hq c hZ;exact zzd
   have t:(Z.toList==[42])=false:=by rw[A0,hZ];exact Af.2 c
   have t':([42]==Z.toList)=false:=by rw[A0,hZ];exact Af.2 (fun e=>c e.symm)
   have HM:=Ax (show Cz s (Bt 5)=Cz s ((Bt 5).drop 1) by rw[hq.out];show(if s=[42] then _ else _)=_;rw[Ao c];rfl);exact zyt
  ·by_cases c:s=[47]
   ·have t:(Z.toList==[47])=true:=by rw[A0,hZ,c];rfl
    have t':([47]==Z.toList)=true:=by rw[A0,hZ,c];rfl
    have HR:=Ax (Ek (a:=16) (show(16:Int)=Cz s (Bt 5) by rw[hq.out,c];decide));clear hq c hZ;exact zzd
   have t:(Z.toList==[47])=false:=by rw[A0,hZ];exact Af.2 c
   have t':([47]==Z.toList)=false:=by rw[A0,hZ];exact Af.2 (fun e=>c e.symm)
   have HM:=Ax (show Cz s (Bt 5)=Cz s ((Bt 5).drop 2) by rw[hq.out];show(if s=[47] then _ else _)=_;rw[Ao c];rfl);exact zxr
  have HR:=Ax (Ek (a:=0) (show(0:Int)=Cz s (Bt 5) by rw[hq.out];rfl));clear hq;exact zzd
 have x:W.cell? ⟨w.heap.size+5,6,none⟩=some (.slice none 0 0):=by simp only[World.cell?,g];rfl
 have y:W.cell? ⟨w.heap.size+6,6,none⟩=some (.int .u8 0):=by simp only[World.cell?,h];rfl
 clear q r j k m g h p d f;go_enter Tryz.func167,Tryz.ntmps167;go_upto_region 3 with fail
 change Code.wp _ _ _ _ (((((((w.alloc (.cells #[.string ⟨#[111,114]⟩] 9)).alloc (.cells #[.string ⟨#[97,110,100]⟩] 9)).alloc (.cells #[.string ⟨#[61]⟩,.string ⟨#[60,62]⟩,.string ⟨#[60]⟩,.string ⟨#[60,61]⟩,.string ⟨#[62]⟩,.string ⟨#[62,61]⟩] 9)).alloc (.cells #[.string ⟨#[43]⟩,.string ⟨#[45]⟩] 9)).alloc (.cells #[.string ⟨#[42]⟩,.string ⟨#[47]⟩] 9)).alloc (.cells #[.slice (some ⟨w.heap.size+0,0,none⟩) 1 1,.slice (some ⟨w.heap.size+1,0,none⟩) 1 1,.slice none 0 0,.slice (some ⟨w.heap.size+2,0,none⟩) 6 6,.slice (some ⟨w.heap.size+3,0,none⟩) 2 2,.slice (some ⟨w.heap.size+4,0,none⟩) 2 2,.slice none 0 0] 39)).alloc (.cells #[.int .u8 4,.int .u8 5,.int .u8 0,.int .u8 7,.int .u8 13,.int .u8 15,.int .u8 0] 5));rw[v.out];go_wp2_with fail
 go_loop [7] (fun v7=>∃i:Nat,v7= .int .i64 (i:Int)/\i<=0/\Hid (Cz s (Bt 6)=Cz s ((Bt 6).drop i))) (fun v7=>0 - (intOf v7).toNat)
 case atStart=>exact⟨0,rfl,Nat.zero_le _,Ax rfl⟩
 obtain⟨i,rfl,A,hq⟩:=hrel;obtain rfl:i=0:=by omega
 have HR:=Ax (Ek (a:=0) (show(0:Int)=Cz s (Bt 6) by rw[hq.out];rfl));clear hq;exact zzd
end Go.Proofs.YtgfakdobajgnfaaGreatDoor

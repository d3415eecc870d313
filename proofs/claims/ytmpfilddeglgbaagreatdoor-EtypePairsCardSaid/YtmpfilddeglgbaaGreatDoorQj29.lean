import Derived.Test.YtmpfilddeglgbaaGreatDoorQj28
set_option maxRecDepth 100000
set_option maxHeartbeats 16000000
namespace Go.Proofs.YtmpfilddeglgbaaGreatDoor
open Go Go.RowKit
theorem Ej.lay {w W Z:World}{B b bad cp m:Nat}{vl vt v':Value}{ts:List Tkn}{e:Int}{xs ys:List Value}(h:Ej w B b vl ts vt e bad cp)(hm:m<=cp)(hk1:w.ownsRow B 38 8 vt m xs)
 (hbw:Below w.heap.size w W) (hg:W.grownBy Z vt.ownBlock) (hown:Z.ownsRow B 38 8 v' (m+1) ys) (hv:∀g,v'.ownBlock=some g->vt.ownBlock=some g\/w.heap.size<=g)
 (hroom:cp+1<=1000000):Ej (Z.setCell ⟨b,3,none⟩ v') B b vl ts v' e bad (cp+1)/\Rch b w vt (Z.setCell ⟨b,3,none⟩ v') v':=by
 obtain⟨a,dd,hk⟩:=h.blk;have hX:Bc vt.ownBlock.toList w Z:=(Bc.of_below hbw _).trans (Bc.of_grown hg _ fun k hk=>by simp [hk]);have hbt:vt.ownBlock≠some b:=Bi hk1 hk tG;have hbX:=(hX.block b (Ay hk) (by simpa using hbt)).trans hk;have hO:Bc (b::vt.ownBlock.toList) w (Z.setCell ⟨b,3,none⟩ v'):=(hX.mono fun i hi=>Aj _ hi).setCell (.inl tH) _;refine⟨⟨h.toks.kept hO.size fun g hg hlt=>hO.block g hlt fun hm=>?_,h.tl,h.hB,h.big,hroom,h.ne,⟨a,dd,by rw[A2 hbX];rfl⟩,m+1,ys,by omega,?_⟩,hO,fun g hg=>hv g hg⟩
 ·have h1:=h.tl g hg;rcases List.mem_cons.1 hm with rfl|hm
  ·have:=h.hB
   omega
  have:=C9 hk1 g uD
  omega
 exact Bm hown (A3 Z b 3 v') fun g e hm=>by
  simp at hm;subst hm;exact Bi hown hbX tG e
theorem Ei {w:World}{B b bad cp:Nat}{vl vt:Value}{ts:List Tkn}{er:Int}(h:Ej w B b vl ts vt er bad cp)(hroom:cp+1<=1000000)(hB:B<=w.heap.size)(hd:Hd)(ka:Option Addr)(kn kc:Nat):
 Calls Tryz.prog 128 #[.pointer (some ⟨b,0,none⟩),hdK hd (.slice ka kn kc)] w fun e w'=>∃(z:Int) (vt':Value),e= .returned (.int .i64 z)/\Ej w' B b vl ts vt' er bad (cp+1)/\Rch b w vt w' vt':=by
 obtain⟨a0,dd0,hk0⟩:=h.blk;obtain⟨m,xs,hmc,hk1⟩:=h.row;obtain⟨la,lc,rfl⟩:=Er hk1;obtain⟨c0,c1,c2,c3,c4,c5,cf⟩:=Bd hk0;have cf3:=cf 3;obtain⟨i0,hi,hz0,hz1,hz2⟩:=Jr;have hb:=Ay hk0;obtain⟨op,⟨vk,vn,vs⟩,nm,ln,cl⟩:=hd;have Ow:Hid (((w.alloc (.cells #[.int .u8 op,.int .u8 vk,.int .i64 vn,.string ⟨vs.toArray⟩,.string ⟨nm.toArray⟩,.slice ka kn kc,.int .i64 ln,.int .i64 cl] 38)).alloc (.cells #[.int .u8 op,.int .u8 vk,.int .i64 vn,.string ⟨vs.toArray⟩,.string ⟨nm.toArray⟩,.slice ka kn kc,.int .i64 ln,.int .i64 cl] 38)).drew.ownsRow B 38 8 (.slice la m lc) m xs):=Ax (Di hk1 (Bc.drew (((Bc.refl [] w).alloc _).alloc _)).below);have OW:Hid (Below w.heap.size w ((w.alloc (.cells #[.int .u8 op,.int .u8 vk,.int .i64 vn,.string ⟨vs.toArray⟩,.string ⟨nm.toArray⟩,.slice ka kn kc,.int .i64 ln,.int .i64 cl] 38)).alloc (.cells #[.int .u8 op,.int .u8 vk,.int .i64 vn,.string ⟨vs.toArray⟩,.string ⟨nm.toArray⟩,.slice ka kn kc,.int .i64 ln,.int .i64 cl] 38)).drew):=Ax (Bc.drew (((Bc.refl [] w).alloc _).alloc _)).below;have HS:Hid (((w.alloc (.cells #[.int .u8 op,.int .u8 vk,.int .i64 vn,.string ⟨vs.toArray⟩,.string ⟨nm.toArray⟩,.slice ka kn kc,.int .i64 ln,.int .i64 cl] 38)).alloc (.cells #[.int .u8 op,.int .u8 vk,.int .i64 vn,.string ⟨vs.toArray⟩,.string ⟨nm.toArray⟩,.slice ka kn kc,.int .i64 ln,.int .i64 cl] 38)).drew.heap.size=w.heap.size+2):=Ax vQ;have hbt:Hid (Value.ownBlock (.slice la m lc)≠some b):=Ax (Bi hk1 hk0 tG)
 have HN:Hid (((w.alloc (.cells #[.int .u8 op,.int .u8 vk,.int .i64 vn,.string ⟨vs.toArray⟩,.string ⟨nm.toArray⟩,.slice ka kn kc,.int .i64 ln,.int .i64 cl] 38)).alloc (.cells #[.int .u8 op,.int .u8 vk,.int .i64 vn,.string ⟨vs.toArray⟩,.string ⟨nm.toArray⟩,.slice ka kn kc,.int .i64 ln,.int .i64 cl] 38)).drew.heap[w.heap.size+1]? =some (.cells #[.int .u8 op,.int .u8 vk,.int .i64 vn,.string ⟨vs.toArray⟩,.string ⟨nm.toArray⟩,.slice ka kn kc,.int .i64 ln,.int .i64 cl] 38)):=Ax (by
  have:=A1 (w.alloc (.cells #[.int .u8 op,.int .u8 vk,.int .i64 vn,.string ⟨vs.toArray⟩,.string ⟨nm.toArray⟩,.slice ka kn kc,.int .i64 ln,.int .i64 cl] 38)) (.cells #[.int .u8 op,.int .u8 vk,.int .i64 vn,.string ⟨vs.toArray⟩,.string ⟨nm.toArray⟩,.slice ka kn kc,.int .i64 ln,.int .i64 cl] 38)
  rw[show(w.alloc (.cells #[.int .u8 op,.int .u8 vk,.int .i64 vn,.string ⟨vs.toArray⟩,.string ⟨nm.toArray⟩,.slice ka kn kc,.int .i64 ln,.int .i64 cl] 38)).heap.size=w.heap.size+1 by simp] at this
  exact this)
 have p3:=Ba OW.out c3;have pf:((w.alloc (.cells #[.int .u8 op,.int .u8 vk,.int .i64 vn,.string ⟨vs.toArray⟩,.string ⟨nm.toArray⟩,.slice ka kn kc,.int .i64 ln,.int .i64 cl] 38)).alloc (.cells #[.int .u8 op,.int .u8 vk,.int .i64 vn,.string ⟨vs.toArray⟩,.string ⟨nm.toArray⟩,.slice ka kn kc,.int .i64 ln,.int .i64 cl] 38)).drew.frozen? ⟨b,3,none⟩=false:=(OW.out.frozen (p:=⟨b,3,none⟩) hb).trans cf3;have HK1:=Ax hk1;have H:=Ax h;have Hi:=Ax hi;have Hz0:=Ax hz0;have Hz1:=Ax hz1;have Hz2:=Ax hz2;clear h hk1 hk0 hi hz0 hz1 hz2 cf;unfold hdK;clear c0 c1 c2 c4 c5;go_enter Tryz.func128,Tryz.ntmps128;go_wp2_with fail
 go_region_law
  ((refine step_append_lies _ vF _ _ _ vF B 38 i0 (.agg #[.int .u8 0,.int .u8 0,.int .i64 0,.string ⟨#[]⟩,.string ⟨#[]⟩,.slice none 0 0,.int .i64 0,.int .i64 0]) 8 96 Tryz.underlying24 Hi.out Hz0.out Hz1.out Hz2.out rfl tG (.slice la m lc) m xs vF Ow.out ⟨w.heap.size+1,0,none⟩ 1 1 [.int .u8 op,.int .u8 vk,.int .i64 vn,.string ⟨vs.toArray⟩,.string ⟨nm.toArray⟩,.slice ka kn kc,.int .i64 ln,.int .i64 cl] vF vF (World.news_of_block (cs:= #[.int .u8 op,.int .u8 vk,.int .i64 vn,.string ⟨vs.toArray⟩,.string ⟨nm.toArray⟩,.slice ka kn kc,.int .i64 ln,.int .i64 cl]) (t:=38) (fr:=(0,0)) HN.out) tS tG tQ tE (by rw[HS.out];omega) (w.heap.size+2) HS.out ?_;intro g cap w3 hown3 hgrow hat hlt;have r0:=(hgrow.cell_far ⟨b,3,none⟩ uS (Ne.symm hbt.out)).trans p3;have rf:=(hgrow.frozen_far ⟨b,3,none⟩ uS (Ne.symm hbt.out)).trans pf))
 all_goals
  have hG:=H.out.lay hmc HK1.out OW.out hgrow hown3 (fun x hx=>by
   simp only[Value.ownBlock,Option.some.injEq] at hx;subst hx;rcases hat with q|q
   ·exact .inl q
   exact .inr tE) hroom
  clear hown3 hgrow hat hlt r0 rf p3 pf c3 Ow OW HS hbt HN HK1;obtain⟨W1,hW1⟩:∃W1,w3.setCell ⟨b,3,none⟩ (.slice (some ⟨g,0,none⟩) (m+1) cap)=W1:=⟨_,rfl⟩;rw[hW1] at hG ⊢;clear hW1;obtain⟨a9,dd9,hk9⟩:=hG.1.blk;obtain⟨_,_,_,c3,_⟩:=Bd hk9;have HG:=Ax hG;clear hG hk9;go_wp2_with fail;go_ret;exact⟨_,_,rfl,HG.out.1,HG.out.2⟩
theorem jQ (s:List UInt8)(w:World):Calls Tryz.prog 132 #[.string ⟨s.toArray⟩] w fun e w'=>e= .returned (.tuple #[.int .u8 ((De s).getD (0,0,0)).1,.int .i64 (((De s).getD (0,0,0)).2.1:Int),.int .i64 (((De s).getD (0,0,0)).2.2:Int)])/\w=w':=by
 obtain⟨Z,hZe⟩:∃Z:ByteArray,⟨s.toArray⟩=Z:=⟨_,rfl⟩;have hZ:dl Z=s:=by rw[←hZe]
 rw[hZe];clear hZe;go_enter Tryz.func132,Tryz.ntmps132;by_cases c0:s=[97,98,115]
 ·have HR:=Ax (show(De s).getD (0,0,0)=(18,1,1) by rw[c0];decide);have t0:(Z.toList==[97,98,115])=true:=by rw[Az,hZ,c0];rfl
  clear hZ c0;go_wp2_with fail;exact Au (v:= .tuple #[.int .u8 18,.int .i64 1,.int .i64 1]) tW rfl ⟨by rw[HR.out];rfl,rfl⟩
 have t0:(Z.toList==[97,98,115])=false:=by rw[Az,hZ];exact Af.2 c0
 by_cases c1:s=[109,105,110]
 ·have HR:=Ax (show(De s).getD (0,0,0)=(19,1,8) by rw[c1];decide);have t0:(Z.toList==[97,98,115])=false:=by rw[Az,hZ,c1];rfl
  have t1:(Z.toList==[109,105,110])=true:=by rw[Az,hZ,c1];rfl
  clear hZ c0 c1;go_wp2_with fail;exact Au (v:= .tuple #[.int .u8 19,.int .i64 1,.int .i64 8]) tW rfl ⟨by rw[HR.out];rfl,rfl⟩
 have t1:(Z.toList==[109,105,110])=false:=by rw[Az,hZ];exact Af.2 c1
 by_cases c2:s=[109,97,120]
 ·have HR:=Ax (show(De s).getD (0,0,0)=(20,1,8) by rw[c2];decide);have t0:(Z.toList==[97,98,115])=false:=by rw[Az,hZ,c2];rfl
  have t1:(Z.toList==[109,105,110])=false:=by rw[Az,hZ,c2];rfl
  have t2:(Z.toList==[109,97,120])=true:=by rw[Az,hZ,c2];rfl
  clear hZ c0 c1 c2;go_wp2_with fail;exact Au (v:= .tuple #[.int .u8 20,.int .i64 1,.int .i64 8]) tW rfl ⟨by rw[HR.out];rfl,rfl⟩
 have t2:(Z.toList==[109,97,120])=false:=by rw[Az,hZ];exact Af.2 c2
 by_cases c3:s=[109,111,100]
 ·have HR:=Ax (show(De s).getD (0,0,0)=(21,2,2) by rw[c3];decide);have t0:(Z.toList==[97,98,115])=false:=by rw[Az,hZ,c3];rfl
  have t1:(Z.toList==[109,105,110])=false:=by rw[Az,hZ,c3];rfl
  have t2:(Z.toList==[109,97,120])=false:=by rw[Az,hZ,c3];rfl
  have t3:(Z.toList==[109,111,100])=true:=by rw[Az,hZ,c3];rfl
  clear hZ c0 c1 c2 c3;go_wp2_with fail;exact Au (v:= .tuple #[.int .u8 21,.int .i64 2,.int .i64 2]) tW rfl ⟨by rw[HR.out];rfl,rfl⟩
 have t3:(Z.toList==[109,111,100])=false:=by rw[Az,hZ];exact Af.2 c3
 by_cases c4:s=[108,101,110,103,116,104]
 ·have HR:=Ax (show(De s).getD (0,0,0)=(22,1,1) by rw[c4];decide);have t0:(Z.toList==[97,98,115])=false:=by rw[Az,hZ,c4];rfl
  have t1:(Z.toList==[109,105,110])=false:=by rw[Az,hZ,c4];rfl
  have t2:(Z.toList==[109,97,120])=false:=by rw[Az,hZ,c4];rfl
  have t3:(Z.toList==[109,111,100])=false:=by rw[Az,hZ,c4];rfl
  have t4:(Z.toList==[108,101,110,103,116,104])=true:=by rw[Az,hZ,c4];rfl
  clear hZ c0 c1 c2 c3 c4;go_wp2_with fail;exact Au (v:= .tuple #[.int .u8 22,.int .i64 1,.int .i64 1]) tW rfl ⟨by rw[HR.out];rfl,rfl⟩
 have t4:(Z.toList==[108,101,110,103,116,104])=false:=by rw[Az,hZ];exact Af.2 c4
 by_cases c5:s=[117,112,112,101,114]
 ·have HR:=Ax (show(De s).getD (0,0,0)=(23,1,1) by rw[c5];decide);have t0:(Z.toList==[97,98,115])=false:=by rw[Az,hZ,c5];rfl
  have t1:(Z.toList==[109,105,110])=false:=by rw[Az,hZ,c5];rfl
  have t2:(Z.toList==[109,97,120])=false:=by rw[Az,hZ,c5];rfl
  have t3:(Z.toList==[109,111,100])=false:=by rw[Az,hZ,c5];rfl
  have t4:(Z.toList==[108,101,110,103,116,104])=false:=by rw[Az,hZ,c5];rfl
  have t5:(Z.toList==[117,112,112,101,114])=true:=by rw[Az,hZ,c5];rfl
  clear hZ c0 c1 c2 c3 c4 c5;go_wp2_with fail;exact Au (v:= .tuple #[.int .u8 23,.int .i64 1,.int .i64 1]) tW rfl ⟨by rw[HR.out];rfl,rfl⟩
 have t5:(Z.toList==[117,112,112,101,114])=false:=by rw[Az,hZ];exact Af.2 c5
 by_cases c6:s=[99,111,110,116,97,105,110,115]
 ·have HR:=Ax (show(De s).getD (0,0,0)=(24,2,2) by rw[c6];decide);have t0:(Z.toList==[97,98,115])=false:=by rw[Az,hZ,c6];rfl
  have t1:(Z.toList==[109,105,110])=false:=by rw[Az,hZ,c6];rfl
  have t2:(Z.toList==[109,97,120])=false:=by rw[Az,hZ,c6];rfl
  have t3:(Z.toList==[109,111,100])=false:=by rw[Az,hZ,c6];rfl
  have t4:(Z.toList==[108,101,110,103,116,104])=false:=by rw[Az,hZ,c6];rfl
  have t5:(Z.toList==[117,112,112,101,114])=false:=by rw[Az,hZ,c6];rfl
  have t6:(Z.toList==[99,111,110,116,97,105,110,115])=true:=by rw[Az,hZ,c6];rfl
  clear hZ c0 c1 c2 c3 c4 c5 c6;go_wp2_with fail;exact Au (v:= .tuple #[.int .u8 24,.int .i64 2,.int .i64 2]) tW rfl ⟨by rw[HR.out];rfl,rfl⟩
 have t6:(Z.toList==[99,111,110,116,97,105,110,115])=false:=by rw[Az,hZ];exact Af.2 c6
 by_cases c7:s=[115,116,97,114,116,115]
 ·have HR:=Ax (show(De s).getD (0,0,0)=(25,2,2) by rw[c7];decide);have t0:(Z.toList==[97,98,115])=false:=by rw[Az,hZ,c7];rfl
  have t1:(Z.toList==[109,105,110])=false:=by rw[Az,hZ,c7];rfl
  have t2:(Z.toList==[109,97,120])=false:=by rw[Az,hZ,c7];rfl
  have t3:(Z.toList==[109,111,100])=false:=by rw[Az,hZ,c7];rfl
  have t4:(Z.toList==[108,101,110,103,116,104])=false:=by rw[Az,hZ,c7];rfl
  have t5:(Z.toList==[117,112,112,101,114])=false:=by rw[Az,hZ,c7];rfl
  have t6:(Z.toList==[99,111,110,116,97,105,110,115])=false:=by rw[Az,hZ,c7];rfl
  have t7:(Z.toList==[115,116,97,114,116,115])=true:=by rw[Az,hZ,c7];rfl
  clear hZ c0 c1 c2 c3 c4 c5 c6 c7;go_wp2_with fail;exact Au (v:= .tuple #[.int .u8 25,.int .i64 2,.int .i64 2]) tW rfl ⟨by rw[HR.out];rfl,rfl⟩
 have t7:(Z.toList==[115,116,97,114,116,115])=false:=by rw[Az,hZ];exact Af.2 c7
 by_cases c8:s=[105,102]
 ·have HR:=Ax (show(De s).getD (0,0,0)=(26,3,3) by rw[c8];decide);have t0:(Z.toList==[97,98,115])=false:=by rw[Az,hZ,c8];rfl
  have t1:(Z.toList==[109,105,110])=false:=by rw[Az,hZ,c8];rfl
  have t2:(Z.toList==[109,97,120])=false:=by rw[Az,hZ,c8];rfl
  have t3:(Z.toList==[109,111,100])=false:=by rw[Az,hZ,c8];rfl
  have t4:(Z.toList==[108,101,110,103,116,104])=false:=by rw[Az,hZ,c8];rfl
  have t5:(Z.toList==[117,112,112,101,114])=false:=by rw[Az,hZ,c8];rfl
  have t6:(Z.toList==[99,111,110,116,97,105,110,115])=false:=by rw[Az,hZ,c8];rfl
  have t7:(Z.toList==[115,116,97,114,116,115])=false:=by rw[Az,hZ,c8];rfl
  have t8:(Z.toList==[105,102])=true:=by rw[Az,hZ,c8];rfl
  clear hZ c0 c1 c2 c3 c4 c5 c6 c7 c8;go_wp2_with fail;exact Au (v:= .tuple #[.int .u8 26,.int .i64 3,.int .i64 3]) tW rfl ⟨by rw[HR.out];rfl,rfl⟩
 have t8:(Z.toList==[105,102])=false:=by rw[Az,hZ];exact Af.2 c8
 have HR:=Ax (show(De s).getD (0,0,0)=(0,0,0) by unfold De;rw[Ao c0,Ao c1,Ao c2,Ao c3,Ao c4,Ao c5,Ao c6,Ao c7,Ao c8];rfl);clear c0 c1 c2 c3 c4 c5 c6 c7 c8;go_wp2_with fail;exact Au (v:= .tuple #[.int .u8 0,.int .i64 0,.int .i64 0]) tW rfl ⟨by rw[HR.out];rfl,rfl⟩
open Go Go.RowKit Go.Lib
def C3 (s:List UInt8):List (List UInt8×Int)->Int
 |[]=>0
 |(x,o)::l=>if s=x then o else C3 s l
theorem K7 (r:List Tkn):∀(l:List (List UInt8×Int)),(∀p∈l,p.1≠[])->C3 (Gj r) l=Be r l
 |[],_=>rfl
 |(x,o)::l,h=>by
  have e:=J3 (r:=r) (h (x,o) Ai);have ih:=K7 r l fun p hp=>h p (Aj _ hp)
  show(if Gj r=x then o else C3 (Gj r) l)=if isH x r=true then o else Be r l
  rw[ih,←e];simp
theorem Sc (n:Nat):∀p∈Bp n,p.1≠[]:=by
 unfold Bp;intro p hp
 repeat' split at hp
 all_goals
  simp only[List.mem_cons,List.not_mem_nil,or_false] at hp
 all_goals first
  |(rcases hp with rfl|rfl|rfl|rfl|rfl|rfl<;>simp;done)
  |(rcases hp with rfl|rfl<;>simp;done)
  |(subst hp;simp;done)
theorem sT (w:World)(o0 o1 o2 o3 o4 o5 o6:Obj){W:World}(h:((((((w.alloc o0).alloc o1).alloc o2).alloc o3).alloc o4).alloc o5).alloc o6=W):
 W.heap[w.heap.size]? =some o0/\W.heap[w.heap.size+1]? =some o1/\W.heap[w.heap.size+2]? =some o2/\W.heap[w.heap.size+3]? =some o3/\W.heap[w.heap.size+4]? =some o4/\W.heap[w.heap.size+5]? =some o5/\W.heap[w.heap.size+6]? =some o6/\Below w.heap.size w W:=by
 subst h;have hz:∀(w:World) (o:Obj),(w.alloc o).heap=w.heap.push o:=fun _ _=>rfl
 refine⟨?_,?_,?_,?_,?_,?_,?_,(((((((Aq _ _).alloc (Ak _) _).alloc tH _).alloc (by simp<;>omega) _).alloc (by simp<;>omega) _).alloc (by simp<;>omega) _).alloc (by simp<;>omega) _).alloc (by simp<;>omega) _⟩
 all_goals
  simp only[hz,Array.getElem?_push,Array.size_push]
  repeat (first|rw[Ao tE]|rw[Ap tE])
  simp
theorem Ew {a b:Int}(h:a=b):Ending.returned (.int .u8 a)= .returned (.int .u8 b):=by rw[h]
theorem Nu (n:Nat)(hn:n<=6)(s:List UInt8)(w:World):Calls Tryz.prog 129 #[.int .i64 (n:Int),.string ⟨s.toArray⟩] w fun e w'=>e= .returned (.int .u8 (C3 s (Bp n)))/\Below w.heap.size w w':=by
 obtain⟨Z,hZe⟩:∃Z:ByteArray,⟨s.toArray⟩=Z:=⟨_,rfl⟩;have hZ:dl Z=s:=by rw[←hZe]
 rw[hZe];clear hZe;obtain⟨W,hW⟩:∃W,(((((((w.alloc (.cells #[.string ⟨#[111,114]⟩] 9)).alloc (.cells #[.string ⟨#[97,110,100]⟩] 9)).alloc (.cells #[.string ⟨#[61]⟩,.string ⟨#[60,62]⟩,.string ⟨#[60]⟩,.string ⟨#[60,61]⟩,.string ⟨#[62]⟩,.string ⟨#[62,61]⟩] 9)).alloc (.cells #[.string ⟨#[43]⟩,.string ⟨#[45]⟩] 9)).alloc (.cells #[.string ⟨#[42]⟩,.string ⟨#[47]⟩] 9)).alloc (.cells #[.slice (some ⟨w.heap.size+0,0,none⟩) 1 1,.slice (some ⟨w.heap.size+1,0,none⟩) 1 1,.slice none 0 0,.slice (some ⟨w.heap.size+2,0,none⟩) 6 6,.slice (some ⟨w.heap.size+3,0,none⟩) 2 2,.slice (some ⟨w.heap.size+4,0,none⟩) 2 2,.slice none 0 0] 87)).alloc (.cells #[.int .u8 4,.int .u8 5,.int .u8 0,.int .u8 7,.int .u8 13,.int .u8 15,.int .u8 0] 5))=W:=⟨_,rfl⟩;obtain⟨b0,b1,b2,b3,b4,b5,b6,hb⟩:=sT w _ _ _ _ _ _ _ hW;have HW:=Ax hW;have HB:=Ax hb;clear hW hb;obtain⟨hn0,hn1⟩:0<=n/\n<=6:=⟨Nat.zero_le _,hn⟩;rcases (show n=0\/n=1\/n=2\/n=3\/n=4\/n=5\/n=6 by omega) with rfl|rfl|rfl|rfl|rfl|rfl|rfl
 ·have hx:W.cell? ⟨w.heap.size+5,0,none⟩=some (.slice (some ⟨w.heap.size+0,0,none⟩) 1 1):=by simp only[World.cell?,b5];rfl
  have hf:W.cell? ⟨w.heap.size+6,0,none⟩=some (.int .u8 4):=by simp only[World.cell?,b6];rfl
  have hs0:W.cell? ⟨w.heap.size,0,none⟩=some (.string ⟨#[111,114]⟩):=by simp only[World.cell?,b0];rfl
  clear b0 b1 b2 b3 b4 b5 b6 hn hn0 hn1;go_enter Tryz.func129,Tryz.ntmps129;go_upto_region 3 with fail
  change Code.wp _ _ _ _ (((((((w.alloc (.cells #[.string ⟨#[111,114]⟩] 9)).alloc (.cells #[.string ⟨#[97,110,100]⟩] 9)).alloc (.cells #[.string ⟨#[61]⟩,.string ⟨#[60,62]⟩,.string ⟨#[60]⟩,.string ⟨#[60,61]⟩,.string ⟨#[62]⟩,.string ⟨#[62,61]⟩] 9)).alloc (.cells #[.string ⟨#[43]⟩,.string ⟨#[45]⟩] 9)).alloc (.cells #[.string ⟨#[42]⟩,.string ⟨#[47]⟩] 9)).alloc (.cells #[.slice (some ⟨w.heap.size+0,0,none⟩) 1 1,.slice (some ⟨w.heap.size+1,0,none⟩) 1 1,.slice none 0 0,.slice (some ⟨w.heap.size+2,0,none⟩) 6 6,.slice (some ⟨w.heap.size+3,0,none⟩) 2 2,.slice (some ⟨w.heap.size+4,0,none⟩) 2 2,.slice none 0 0] 87)).alloc (.cells #[.int .u8 4,.int .u8 5,.int .u8 0,.int .u8 7,.int .u8 13,.int .u8 15,.int .u8 0] 5));rw[HW.out];go_wp2_with fail
  go_loop [7] (fun v7=>∃i:Nat,v7= .int .i64 (i:Int)/\i<=1/\Hid (C3 s (Bp 0)=C3 s ((Bp 0).drop i))) (fun v7=>1 - (intOf v7).toNat)
  case atStart=>exact⟨0,rfl,Nat.zero_le _,Ax rfl⟩
  obtain⟨i,rfl,hi,hq⟩:=hrel;rcases (show i=0\/i=1 by omega) with rfl|rfl
  ·by_cases c:s=[111,114]
   ·have t:(Z.toList==[111,114])=true:=by rw[Az,hZ,c];rfl
    have t':([111,114]==Z.toList)=true:=by rw[Az,hZ,c];rfl
    have HR:=Ax (Ew (a:=4) (show(4:Int)=C3 s (Bp 0) by rw[hq.out,c];decide));clear hq c hZ;exact zzf
   have t:(Z.toList==[111,114])=false:=by rw[Az,hZ];exact Af.2 c
   have t':([111,114]==Z.toList)=false:=by rw[Az,hZ];exact Af.2 (fun e=>c e.symm)
   have HM:=Ax (show C3 s (Bp 0)=C3 s ((Bp 0).drop 1) by rw[hq.out];show(if s=[111,114] then _ else _)=_;rw[Ao c];rfl);exact zy1
  have HR:=Ax (Ew (a:=0) (show(0:Int)=C3 s (Bp 0) by rw[hq.out];rfl));clear hq;exact zzf
 ·have hx:W.cell? ⟨w.heap.size+5,1,none⟩=some (.slice (some ⟨w.heap.size+1,0,none⟩) 1 1):=by simp only[World.cell?,b5];rfl
  have hf:W.cell? ⟨w.heap.size+6,1,none⟩=some (.int .u8 5):=by simp only[World.cell?,b6];rfl
  have hs0:W.cell? ⟨w.heap.size+1,0,none⟩=some (.string ⟨#[97,110,100]⟩):=by simp only[World.cell?,b1];rfl
  clear b0 b1 b2 b3 b4 b5 b6 hn hn0 hn1;go_enter Tryz.func129,Tryz.ntmps129;go_upto_region 3 with fail
  change Code.wp _ _ _ _ (((((((w.alloc (.cells #[.string ⟨#[111,114]⟩] 9)).alloc (.cells #[.string ⟨#[97,110,100]⟩] 9)).alloc (.cells #[.string ⟨#[61]⟩,.string ⟨#[60,62]⟩,.string ⟨#[60]⟩,.string ⟨#[60,61]⟩,.string ⟨#[62]⟩,.string ⟨#[62,61]⟩] 9)).alloc (.cells #[.string ⟨#[43]⟩,.string ⟨#[45]⟩] 9)).alloc (.cells #[.string ⟨#[42]⟩,.string ⟨#[47]⟩] 9)).alloc (.cells #[.slice (some ⟨w.heap.size+0,0,none⟩) 1 1,.slice (some ⟨w.heap.size+1,0,none⟩) 1 1,.slice none 0 0,.slice (some ⟨w.heap.size+2,0,none⟩) 6 6,.slice (some ⟨w.heap.size+3,0,none⟩) 2 2,.slice (some ⟨w.heap.size+4,0,none⟩) 2 2,.slice none 0 0] 87)).alloc (.cells #[.int .u8 4,.int .u8 5,.int .u8 0,.int .u8 7,.int .u8 13,.int .u8 15,.int .u8 0] 5));rw[HW.out];go_wp2_with fail
  go_loop [7] (fun v7=>∃i:Nat,v7= .int .i64 (i:Int)/\i<=1/\Hid (C3 s (Bp 1)=C3 s ((Bp 1).drop i))) (fun v7=>1 - (intOf v7).toNat)
  case atStart=>exact⟨0,rfl,Nat.zero_le _,Ax rfl⟩
  obtain⟨i,rfl,hi,hq⟩:=hrel;rcases (show i=0\/i=1 by omega) with rfl|rfl
  ·by_cases c:s=[97,110,100]
   ·have t:(Z.toList==[97,110,100])=true:=by rw[Az,hZ,c];rfl
    have t':([97,110,100]==Z.toList)=true:=by rw[Az,hZ,c];rfl
    have HR:=Ax (Ew (a:=5) (show(5:Int)=C3 s (Bp 1) by rw[hq.out,c];decide));clear hq c hZ;exact zzf
   have t:(Z.toList==[97,110,100])=false:=by rw[Az,hZ];exact Af.2 c
   have t':([97,110,100]==Z.toList)=false:=by rw[Az,hZ];exact Af.2 (fun e=>c e.symm)
   have HM:=Ax (show C3 s (Bp 1)=C3 s ((Bp 1).drop 1) by rw[hq.out];show(if s=[97,110,100] then _ else _)=_;rw[Ao c];rfl);exact zy1
  have HR:=Ax (Ew (a:=0) (show(0:Int)=C3 s (Bp 1) by rw[hq.out];rfl));clear hq;exact zzf
 ·have hx:W.cell? ⟨w.heap.size+5,2,none⟩=some (.slice none 0 0):=by simp only[World.cell?,b5];rfl
  have hf:W.cell? ⟨w.heap.size+6,2,none⟩=some (.int .u8 0):=by simp only[World.cell?,b6];rfl
  clear b0 b1 b2 b3 b4 b5 b6 hn hn0 hn1;go_enter Tryz.func129,Tryz.ntmps129;go_upto_region 3 with fail
  change Code.wp _ _ _ _ (((((((w.alloc (.cells #[.string ⟨#[111,114]⟩] 9)).alloc (.cells #[.string ⟨#[97,110,100]⟩] 9)).alloc (.cells #[.string ⟨#[61]⟩,.string ⟨#[60,62]⟩,.string ⟨#[60]⟩,.string ⟨#[60,61]⟩,.string ⟨#[62]⟩,.string ⟨#[62,61]⟩] 9)).alloc (.cells #[.string ⟨#[43]⟩,.string ⟨#[45]⟩] 9)).alloc (.cells #[.string ⟨#[42]⟩,.string ⟨#[47]⟩] 9)).alloc (.cells #[.slice (some ⟨w.heap.size+0,0,none⟩) 1 1,.slice (some ⟨w.heap.size+1,0,none⟩) 1 1,.slice none 0 0,.slice (some ⟨w.heap.size+2,0,none⟩) 6 6,.slice (some ⟨w.heap.size+3,0,none⟩) 2 2,.slice (some ⟨w.heap.size+4,0,none⟩) 2 2,.slice none 0 0] 87)).alloc (.cells #[.int .u8 4,.int .u8 5,.int .u8 0,.int .u8 7,.int .u8 13,.int .u8 15,.int .u8 0] 5));rw[HW.out];go_wp2_with fail
  go_loop [7] (fun v7=>∃i:Nat,v7= .int .i64 (i:Int)/\i<=0/\Hid (C3 s (Bp 2)=C3 s ((Bp 2).drop i))) (fun v7=>0 - (intOf v7).toNat)
  case atStart=>exact⟨0,rfl,Nat.zero_le _,Ax rfl⟩
  obtain⟨i,rfl,hi,hq⟩:=hrel;obtain rfl:i=0:=by omega
  have HR:=Ax (Ew (a:=0) (show(0:Int)=C3 s (Bp 2) by rw[hq.out];rfl));clear hq;exact zzf
 ·have hx:W.cell? ⟨w.heap.size+5,3,none⟩=some (.slice (some ⟨w.heap.size+2,0,none⟩) 6 6):=by simp only[World.cell?,b5];rfl
  have hf:W.cell? ⟨w.heap.size+6,3,none⟩=some (.int .u8 7):=by simp only[World.cell?,b6];rfl
  have hs0:W.cell? ⟨w.heap.size+2,0,none⟩=some (.string ⟨#[61]⟩):=by simp only[World.cell?,b2];rfl
  have hs1:W.cell? ⟨w.heap.size+2,1,none⟩=some (.string ⟨#[60,62]⟩):=by simp only[World.cell?,b2];rfl
  have hs2:W.cell? ⟨w.heap.size+2,2,none⟩=some (.string ⟨#[60]⟩):=by simp only[World.cell?,b2];rfl
  have hs3:W.cell? ⟨w.heap.size+2,3,none⟩=some (.string ⟨#[60,61]⟩):=by simp only[World.cell?,b2];rfl
  have hs4:W.cell? ⟨w.heap.size+2,4,none⟩=some (.string ⟨#[62]⟩):=by simp only[World.cell?,b2];rfl
  have hs5:W.cell? ⟨w.heap.size+2,5,none⟩=some (.string ⟨#[62,61]⟩):=by simp only[World.cell?,b2];rfl
  clear b0 b1 b2 b3 b4 b5 b6 hn hn0 hn1;go_enter Tryz.func129,Tryz.ntmps129;go_upto_region 3 with fail
  change Code.wp _ _ _ _ (((((((w.alloc (.cells #[.string ⟨#[111,114]⟩] 9)).alloc (.cells #[.string ⟨#[97,110,100]⟩] 9)).alloc (.cells #[.string ⟨#[61]⟩,.string ⟨#[60,62]⟩,.string ⟨#[60]⟩,.string ⟨#[60,61]⟩,.string ⟨#[62]⟩,.string ⟨#[62,61]⟩] 9)).alloc (.cells #[.string ⟨#[43]⟩,.string ⟨#[45]⟩] 9)).alloc (.cells #[.string ⟨#[42]⟩,.string ⟨#[47]⟩] 9)).alloc (.cells #[.slice (some ⟨w.heap.size+0,0,none⟩) 1 1,.slice (some ⟨w.heap.size+1,0,none⟩) 1 1,.slice none 0 0,.slice (some ⟨w.heap.size+2,0,none⟩) 6 6,.slice (some ⟨w.heap.size+3,0,none⟩) 2 2,.slice (some ⟨w.heap.size+4,0,none⟩) 2 2,.slice none 0 0] 87)).alloc (.cells #[.int .u8 4,.int .u8 5,.int .u8 0,.int .u8 7,.int .u8 13,.int .u8 15,.int .u8 0] 5));rw[HW.out];go_wp2_with fail
  go_loop [7] (fun v7=>∃i:Nat,v7= .int .i64 (i:Int)/\i<=6/\Hid (C3 s (Bp 3)=C3 s ((Bp 3).drop i))) (fun v7=>6 - (intOf v7).toNat)
  case atStart=>exact⟨0,rfl,Nat.zero_le _,Ax rfl⟩
  obtain⟨i,rfl,hi,hq⟩:=hrel;rcases (show i=0\/i=1\/i=2\/i=3\/i=4\/i=5\/i=6 by omega) with rfl|rfl|rfl|rfl|rfl|rfl|rfl
  ·by_cases c:s=[61]
   ·have t:(Z.toList==[61])=true:=by rw[Az,hZ,c];rfl
    have t':([61]==Z.toList)=true:=by rw[Az,hZ,c];rfl
    have HR:=Ax (Ew (a:=7) (show(7:Int)=C3 s (Bp 3) by rw[hq.out,c];decide));clear hq c hZ;exact zzf
   have t:(Z.toList==[61])=false:=by rw[Az,hZ];exact Af.2 c
   have t':([61]==Z.toList)=false:=by rw[Az,hZ];exact Af.2 (fun e=>c e.symm)
   have HM:=Ax (show C3 s (Bp 3)=C3 s ((Bp 3).drop 1) by rw[hq.out];show(if s=[61] then _ else _)=_;rw[Ao c];rfl);exact zy1
  ·by_cases c:s=[60,62]
   ·have t:(Z.toList==[60,62])=true:=by rw[Az,hZ,c];rfl
    have t':([60,62]==Z.toList)=true:=by rw[Az,hZ,c];rfl
    have HR:=Ax (Ew (a:=8) (show(8:Int)=C3 s (Bp 3) by rw[hq.out,c];decide));clear hq c hZ;exact zzf
   have t:(Z.toList==[60,62])=false:=by rw[Az,hZ];exact Af.2 c
   have t':([60,62]==Z.toList)=false:=by rw[Az,hZ];exact Af.2 (fun e=>c e.symm)
   have HM:=Ax (show C3 s (Bp 3)=C3 s ((Bp 3).drop 2) by rw[hq.out];show(if s=[60,62] then _ else _)=_;rw[Ao c];rfl);exact zx8
  ·by_cases c:s=[60]
   ·have t:(Z.toList==[60])=true:=by rw[Az,hZ,c];rfl
    have t':([60]==Z.toList)=true:=by rw[Az,hZ,c];rfl
    have HR:=Ax (Ew (a:=9) (show(9:Int)=C3 s (Bp 3) by rw[hq.out,c];decide));clear hq c hZ;exact zzf
   have t:(Z.toList==[60])=false:=by rw[Az,hZ];exact Af.2 c
   have t':([60]==Z.toList)=false:=by rw[Az,hZ];exact Af.2 (fun e=>c e.symm)
   have HM:=Ax (show C3 s (Bp 3)=C3 s ((Bp 3).drop 3) by rw[hq.out];show(if s=[60] then _ else _)=_;rw[Ao c];rfl);clear hq c hZ;go_wp2_with fail
   go_round
   case rel=>exact⟨3,by first|rfl|go_num,by omega,HM⟩
   case measure=>simp [intOf]<;>omega
  ·by_cases c:s=[60,61]
   ·have t:(Z.toList==[60,61])=true:=by rw[Az,hZ,c];rfl
    have t':([60,61]==Z.toList)=true:=by rw[Az,hZ,c];rfl
    have HR:=Ax (Ew (a:=10) (show(10:Int)=C3 s (Bp 3) by rw[hq.out,c];decide));clear hq c hZ;exact zzf
   have t:(Z.toList==[60,61])=false:=by rw[Az,hZ];exact Af.2 c
   have t':([60,61]==Z.toList)=false:=by rw[Az,hZ];exact Af.2 (fun e=>c e.symm)
   have HM:=Ax (show C3 s (Bp 3)=C3 s ((Bp 3).drop 4) by rw[hq.out];show(if s=[60,61] then _ else _)=_;rw[Ao c];rfl);clear hq c hZ;go_wp2_with fail
   go_round
   case rel=>exact⟨4,by first|rfl|go_num,by omega,HM⟩
   case measure=>simp [intOf]<;>omega
  ·by_cases c:s=[62]
   ·have t:(Z.toList==[62])=true:=by rw[Az,hZ,c];rfl
    have t':([62]==Z.toList)=true:=by rw[Az,hZ,c];rfl
    have HR:=Ax (Ew (a:=11) (show(11:Int)=C3 s (Bp 3) by rw[hq.out,c];decide));clear hq c hZ;exact zzf
   have t:(Z.toList==[62])=false:=by rw[Az,hZ];exact Af.2 c
   have t':([62]==Z.toList)=false:=by rw[Az,hZ];exact Af.2 (fun e=>c e.symm)
   have HM:=Ax (show C3 s (Bp 3)=C3 s ((Bp 3).drop 5) by rw[hq.out];show(if s=[62] then _ else _)=_;rw[Ao c];rfl);clear hq c hZ;go_wp2_with fail
   go_round
   case rel=>exact⟨5,by first|rfl|go_num,by omega,HM⟩
   case measure=>simp [intOf]<;>omega
  ·by_cases c:s=[62,61]
   ·have t:(Z.toList==[62,61])=true:=by rw[Az,hZ,c];rfl
    have t':([62,61]==Z.toList)=true:=by rw[Az,hZ,c];rfl
    have HR:=Ax (Ew (a:=12) (show(12:Int)=C3 s (Bp 3) by rw[hq.out,c];decide));clear hq c hZ;exact zzf
   have t:(Z.toList==[62,61])=false:=by rw[Az,hZ];exact Af.2 c
   have t':([62,61]==Z.toList)=false:=by rw[Az,hZ];exact Af.2 (fun e=>c e.symm)
   have HM:=Ax (show C3 s (Bp 3)=C3 s ((Bp 3).drop 6) by rw[hq.out];show(if s=[62,61] then _ else _)=_;rw[Ao c];rfl);clear hq c hZ;go_wp2_with fail
   go_round
   case rel=>exact⟨6,by first|rfl|go_num,by omega,HM⟩
   case measure=>simp [intOf]<;>omega
  have HR:=Ax (Ew (a:=0) (show(0:Int)=C3 s (Bp 3) by rw[hq.out];rfl));clear hq;exact zzf
 ·have hx:W.cell? ⟨w.heap.size+5,4,none⟩=some (.slice (some ⟨w.heap.size+3,0,none⟩) 2 2):=by simp only[World.cell?,b5];rfl
  have hf:W.cell? ⟨w.heap.size+6,4,none⟩=some (.int .u8 13):=by simp only[World.cell?,b6];rfl
  have hs0:W.cell? ⟨w.heap.size+3,0,none⟩=some (.string ⟨#[43]⟩):=by simp only[World.cell?,b3];rfl
  have hs1:W.cell? ⟨w.heap.size+3,1,none⟩=some (.string ⟨#[45]⟩):=by simp only[World.cell?,b3];rfl
  clear b0 b1 b2 b3 b4 b5 b6 hn hn0 hn1;go_enter Tryz.func129,Tryz.ntmps129;go_upto_region 3 with fail
  change Code.wp _ _ _ _ (((((((w.alloc (.cells #[.string ⟨#[111,114]⟩] 9)).alloc (.cells #[.string ⟨#[97,110,100]⟩] 9)).alloc (.cells #[.string ⟨#[61]⟩,.string ⟨#[60,62]⟩,.string ⟨#[60]⟩,.string ⟨#[60,61]⟩,.string ⟨#[62]⟩,.string ⟨#[62,61]⟩] 9)).alloc (.cells #[.string ⟨#[43]⟩,.string ⟨#[45]⟩] 9)).alloc (.cells #[.string ⟨#[42]⟩,.string ⟨#[47]⟩] 9)).alloc (.cells #[.slice (some ⟨w.heap.size+0,0,none⟩) 1 1,.slice (some ⟨w.heap.size+1,0,none⟩) 1 1,.slice none 0 0,.slice (some ⟨w.heap.size+2,0,none⟩) 6 6,.slice (some ⟨w.heap.size+3,0,none⟩) 2 2,.slice (some ⟨w.heap.size+4,0,none⟩) 2 2,.slice none 0 0] 87)).alloc (.cells #[.int .u8 4,.int .u8 5,.int .u8 0,.int .u8 7,.int .u8 13,.int .u8 15,.int .u8 0] 5));rw[HW.out];go_wp2_with fail
  go_loop [7] (fun v7=>∃i:Nat,v7= .int .i64 (i:Int)/\i<=2/\Hid (C3 s (Bp 4)=C3 s ((Bp 4).drop i))) (fun v7=>2 - (intOf v7).toNat)
  case atStart=>exact⟨0,rfl,Nat.zero_le _,Ax rfl⟩
  obtain⟨i,rfl,hi,hq⟩:=hrel;rcases (show i=0\/i=1\/i=2 by omega) with rfl|rfl|rfl
  ·by_cases c:s=[43]
   ·have t:(Z.toList==[43])=true:=by rw[Az,hZ,c];rfl
    have t':([43]==Z.toList)=true:=by rw[Az,hZ,c];rfl
    have HR:=Ax (Ew (a:=13) (show(13:Int)=C3 s (Bp 4) by rw[hq.out,c];decide));clear hq c hZ;exact zzf
   have t:(Z.toList==[43])=false:=by rw[Az,hZ];exact Af.2 c
   have t':([43]==Z.toList)=false:=by rw[Az,hZ];exact Af.2 (fun e=>c e.symm)
   have HM:=Ax (show C3 s (Bp 4)=C3 s ((Bp 4).drop 1) by rw[hq.out];show(if s=[43] then _ else _)=_;rw[Ao c];rfl);exact zy1
  ·by_cases c:s=[45]
   ·have t:(Z.toList==[45])=true:=by rw[Az,hZ,c];rfl
    have t':([45]==Z.toList)=true:=by rw[Az,hZ,c];rfl
    have HR:=Ax (Ew (a:=14) (show(14:Int)=C3 s (Bp 4) by rw[hq.out,c];decide));clear hq c hZ;exact zzf
   have t:(Z.toList==[45])=false:=by rw[Az,hZ];exact Af.2 c
   have t':([45]==Z.toList)=false:=by rw[Az,hZ];exact Af.2 (fun e=>c e.symm)
   have HM:=Ax (show C3 s (Bp 4)=C3 s ((Bp 4).drop 2) by rw[hq.out];show(if s=[45] then _ else _)=_;rw[Ao c];rfl);exact zx8
  have HR:=Ax (Ew (a:=0) (show(0:Int)=C3 s (Bp 4) by rw[hq.out];rfl));clear hq;exact zzf
 ·have hx:W.cell? ⟨w.heap.size+5,5,none⟩=some (.slice (some ⟨w.heap.size+4,0,none⟩) 2 2):=by simp only[World.cell?,b5];rfl
  have hf:W.cell? ⟨w.heap.size+6,5,none⟩=some (.int .u8 15):=by simp only[World.cell?,b6];rfl
  have hs0:W.cell? ⟨w.heap.size+4,0,none⟩=some (.string ⟨#[42]⟩):=by simp only[World.cell?,b4];rfl
  have hs1:W.cell? ⟨w.heap.size+4,1,none⟩=some (.string ⟨#[47]⟩):=by simp only[World.cell?,b4];rfl
  clear b0 b1 b2 b3 b4 b5 b6 hn hn0 hn1;go_enter Tryz.func129,Tryz.ntmps129;go_upto_region 3 with fail
  change Code.wp _ _ _ _ (((((((w.alloc (.cells #[.string ⟨#[111,114]⟩] 9)).alloc (.cells #[.string ⟨#[97,110,100]⟩] 9)).alloc (.cells #[.string ⟨#[61]⟩,.string ⟨#[60,62]⟩,.string ⟨#[60]⟩,.string ⟨#[60,61]⟩,.string ⟨#[62]⟩,.string ⟨#[62,61]⟩] 9)).alloc (.cells #[.string ⟨#[43]⟩,.string ⟨#[45]⟩] 9)).alloc (.cells #[.string ⟨#[42]⟩,.string ⟨#[47]⟩] 9)).alloc (.cells #[.slice (some ⟨w.heap.size+0,0,none⟩) 1 1,.slice (some ⟨w.heap.size+1,0,none⟩) 1 1,.slice none 0 0,.slice (some ⟨w.heap.size+2,0,none⟩) 6 6,.slice (some ⟨w.heap.size+3,0,none⟩) 2 2,.slice (some ⟨w.heap.size+4,0,none⟩) 2 2,.slice none 0 0] 87)).alloc (.cells #[.int .u8 4,.int .u8 5,.int .u8 0,.int .u8 7,.int .u8 13,.int .u8 15,.int .u8 0] 5));rw[HW.out];go_wp2_with fail
  go_loop [7] (fun v7=>∃i:Nat,v7= .int .i64 (i:Int)/\i<=2/\Hid (C3 s (Bp 5)=C3 s ((Bp 5).drop i))) (fun v7=>2 - (intOf v7).toNat)
  case atStart=>exact⟨0,rfl,Nat.zero_le _,Ax rfl⟩
  obtain⟨i,rfl,hi,hq⟩:=hrel;rcases (show i=0\/i=1\/i=2 by omega) with rfl|rfl|rfl
  ·by_cases c:s=[42]
   ·have t:(Z.toList==[42])=true:=by rw[Az,hZ,c];rfl
    have t':([42]==Z.toList)=true:=by rw[Az,hZ,c];rfl
    have HR:=Ax (Ew (a:=15) (show(15:Int)=C3 s (Bp 5) by rw[hq.out,c];decide));clear hq c hZ;exact zzf
   have t:(Z.toList==[42])=false:=by rw[Az,hZ];exact Af.2 c
   have t':([42]==Z.toList)=false:=by rw[Az,hZ];exact Af.2 (fun e=>c e.symm)
   have HM:=Ax (show C3 s (Bp 5)=C3 s ((Bp 5).drop 1) by rw[hq.out];show(if s=[42] then _ else _)=_;rw[Ao c];rfl);exact zy1
  ·by_cases c:s=[47]
   ·have t:(Z.toList==[47])=true:=by rw[Az,hZ,c];rfl
    have t':([47]==Z.toList)=true:=by rw[Az,hZ,c];rfl
    have HR:=Ax (Ew (a:=16) (show(16:Int)=C3 s (Bp 5) by rw[hq.out,c];decide));clear hq c hZ;exact zzf
   have t:(Z.toList==[47])=false:=by rw[Az,hZ];exact Af.2 c
   have t':([47]==Z.toList)=false:=by rw[Az,hZ];exact Af.2 (fun e=>c e.symm)
   have HM:=Ax (show C3 s (Bp 5)=C3 s ((Bp 5).drop 2) by rw[hq.out];show(if s=[47] then _ else _)=_;rw[Ao c];rfl);exact zx8
  have HR:=Ax (Ew (a:=0) (show(0:Int)=C3 s (Bp 5) by rw[hq.out];rfl));clear hq;exact zzf
 have hx:W.cell? ⟨w.heap.size+5,6,none⟩=some (.slice none 0 0):=by simp only[World.cell?,b5];rfl
 have hf:W.cell? ⟨w.heap.size+6,6,none⟩=some (.int .u8 0):=by simp only[World.cell?,b6];rfl
 clear b0 b1 b2 b3 b4 b5 b6 hn hn0 hn1;go_enter Tryz.func129,Tryz.ntmps129;go_upto_region 3 with fail
 change Code.wp _ _ _ _ (((((((w.alloc (.cells #[.string ⟨#[111,114]⟩] 9)).alloc (.cells #[.string ⟨#[97,110,100]⟩] 9)).alloc (.cells #[.string ⟨#[61]⟩,.string ⟨#[60,62]⟩,.string ⟨#[60]⟩,.string ⟨#[60,61]⟩,.string ⟨#[62]⟩,.string ⟨#[62,61]⟩] 9)).alloc (.cells #[.string ⟨#[43]⟩,.string ⟨#[45]⟩] 9)).alloc (.cells #[.string ⟨#[42]⟩,.string ⟨#[47]⟩] 9)).alloc (.cells #[.slice (some ⟨w.heap.size+0,0,none⟩) 1 1,.slice (some ⟨w.heap.size+1,0,none⟩) 1 1,.slice none 0 0,.slice (some ⟨w.heap.size+2,0,none⟩) 6 6,.slice (some ⟨w.heap.size+3,0,none⟩) 2 2,.slice (some ⟨w.heap.size+4,0,none⟩) 2 2,.slice none 0 0] 87)).alloc (.cells #[.int .u8 4,.int .u8 5,.int .u8 0,.int .u8 7,.int .u8 13,.int .u8 15,.int .u8 0] 5));rw[HW.out];go_wp2_with fail
 go_loop [7] (fun v7=>∃i:Nat,v7= .int .i64 (i:Int)/\i<=0/\Hid (C3 s (Bp 6)=C3 s ((Bp 6).drop i))) (fun v7=>0 - (intOf v7).toNat)
 case atStart=>exact⟨0,rfl,Nat.zero_le _,Ax rfl⟩
 obtain⟨i,rfl,hi,hq⟩:=hrel;obtain rfl:i=0:=by omega
 have HR:=Ax (Ew (a:=0) (show(0:Int)=C3 s (Bp 6) by rw[hq.out];rfl));clear hq;exact zzf
end Go.Proofs.YtmpfilddeglgbaaGreatDoor

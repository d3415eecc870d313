import Derived.Deep.RegionLaw
import Derived.Test.YtgfakdobajgnfaaGreatDoorQn17
set_option maxRecDepth 100000
set_option maxHeartbeats 16000000
namespace Go.Proofs.YtgfakdobajgnfaaGreatDoor
open Go Go.RowKit Go.Lib
def Nt (s:ByteArray)(k:Nat):Nat:=(s.data.toList.getD k 0).toNat
theorem Qd {s:ByteArray}{k:Nat}(h:k<s.size):Nt s k=s[k].toNat:=by
 have h':k<s.data.toList.length:=by simpa using h
 unfold Nt;rw[List.getD_eq_getElem?_getD,Ag h'];rfl
theorem Np (p:Nat->Bool)(s:ByteArray):(s.data.toList.any fun b=>p b.toNat)=false↔ ∀k,k<s.size->p (Nt s k)=false:=by
 rw[List.any_eq_false];constructor
 ·intro h k hk;have h':k<s.data.toList.length:=by simpa using hk
  have:=h _ (List.getElem_mem h')
  unfold Nt;rw[List.getD_eq_getElem?_getD,Ag h'];simpa using this
 intro h b hb;obtain⟨k,hk,rfl⟩:=List.getElem_of_mem hb
 have:=h k (by simpa using hk)
 unfold Nt at this;rw[List.getD_eq_getElem?_getD,Ag hk] at this;simpa using this
def R6 (s:ByteArray)(k:Nat):Bool:=D8 (Nt s k)||(decide (0<k) && Ic (Nt s k))
theorem dW {s:ByteArray}(h0:0<s.size)(h1:s.size<=12)(h:∀k,k<s.size->R6 s k=true):Gx s=true:=by
 rw[Nv h0,Am h1];have hl:=h 0 h0;simp only[R6,Nat.lt_irrefl,decide_false,Bool.false_and,Bool.or_false,Qd h0] at hl;rw[hl]
 have:(s.data.toList.any fun b=>G6 b.toNat)=false:=(Np G6 s).2 fun k hk=>by
  have:=h k hk
  simp only[R6,Bool.or_eq_true,Bool.and_eq_true] at this;unfold G6;rcases this with q|⟨_,q⟩<;>simp [q]
 rw[this];rfl
theorem La {s:ByteArray}{k:Nat}(hk:k<s.size)(h:R6 s k=false):Gx s=false:=by
 have h0:0<s.size:=by omega
 rw[Nv h0];simp only[R6,Bool.or_eq_false_iff,Bool.and_eq_false_iff] at h;obtain⟨h1,h2⟩:=h;by_cases hz:k=0
 ·subst hz;rw[Qd h0] at h1;rw[h1];simp
 have hd:Ic (Nt s k)=false:=by
  rcases h2 with q|q
  ·simp at q;omega
  exact q
 have:(s.data.toList.any fun b=>G6 b.toNat)=true:=by
  cases hq:(s.data.toList.any fun b=>G6 b.toNat)
  ·have:=(Np G6 s).1 hq k hk
   simp [G6,h1,hd] at this
  rfl
 rw[this];simp
theorem aU (s:ByteArray)(hs:s.size<=9223372036854775807)(w:World):
 Calls Tryz.prog 49 #[.string s] w fun e w'=>e= .returned (.bool (Gx s))/\w=w':=by
 by_cases h0:s.size=0
 ·have d0:(s.size:Int)<1:=by omega
  rw[Qz h0];clear h0;go_enter Tryz.func49,Tryz.ntmps49
  go_wp2
  exact zyn
 have d0:1<=(s.size:Int):=by omega
 by_cases h12:12<s.size
 ·have d12:12<(s.size:Int):=by omega
  have hq:Gx s=false:=by rw[Nv nU,An nU];rfl
  rw[hq];clear h12 h0 hq;go_enter Tryz.func49,Tryz.ntmps49
  go_wp2
  exact zyn
 have d12:(s.size:Int)<=12:=by omega
 clear h12 h0;go_enter Tryz.func49,Tryz.ntmps49
 go_wp2
 go_loop [3] (fun vi=>∃k:Nat,k<=s.size/\vi= .int .i64 k/\Hid (∀j,j<k->R6 s j=true)) (fun i=>s.size - (intOf i).toNat)
 case atStart=>exact⟨0,Nat.zero_le _,rfl,fun j hj=>absurd hj nU⟩
 obtain⟨k,hk,rfl,hq⟩:=hrel;by_cases hlk:k<s.size
 ·have hby:=Qd hlk;obtain⟨c,hc⟩:∃c,Nt s k=c:=⟨_,rfl⟩;have hok:R6 s k=(D8 c||(decide (0<k) && Ic c)):=by unfold R6;rw[hc]
  rw[hc] at hby;have Hok:=Ax hok;clear hok hc
  have yes:R6 s k=true->∀j,j<k+1->R6 s j=true:=fun h j hj=>by
   rcases Nat.lt_or_ge j k with q|q
   ·exact hq.out j q
   obtain rfl:j=k:=by omega
   exact h
  have Yes:=Ax yes;clear yes;by_cases hlo:c<97
  ·have d1:(s[k].toNat:Int)<97:=by omega
   by_cases hk0:k=0
   ·have hno:=La hlk (by rw[Hok.out];simp [D8,hk0];omega);have Hno:=Ax hno;subst hk0;clear hno hby hlo;exact zxk
   have e0:((k:Int)==0)=false:=by simp;omega
   by_cases h48:c<48
   ·have d2:(s[k].toNat:Int)<48:=by omega
    have hno:=La hlk qA;have Hno:=Ax hno;clear hno hby hlo h48 hk0;exact zxk
   have d2:48<=(s[k].toNat:Int):=by omega
   by_cases h57:57<c
   ·have d3:57<(s[k].toNat:Int):=by omega
    have hno:=La hlk qA;have Hno:=Ax hno;clear hno hby hlo h48 hk0 h57;exact zxk
   have d3:(s[k].toNat:Int)<=57:=by omega
   have hyes:=Yes.out qA;have Hyes:=Ax hyes;clear hyes hby hlo h48 hk0 h57;exact zxt
  have d1:97<=(s[k].toNat:Int):=by omega
  by_cases hhi:122<c
  ·have d2:122<(s[k].toNat:Int):=by omega
   have d5:decide ((s[k].toNat:Int)<=122)=false:=by simp;omega
   have hno:=La hlk qA;have Hno:=Ax hno;have d3:48<=(s[k].toNat:Int):=by omega
   have d4:57<(s[k].toNat:Int):=by omega
   by_cases hk0:k=0
   ·subst hk0;clear hno hby hlo hhi;exact zxk
   have e0:((k:Int)==0)=false:=by simp;omega
   clear hno hby hlo hhi hk0;exact zxk
  have d2:(s[k].toNat:Int)<=122:=by omega
  have hyes:=Yes.out (by rw[Hok.out];simp [D8];omega);have Hyes:=Ax hyes;clear hyes hby hlo hhi;exact zxt
 obtain rfl:k=s.size:=by omega
 go_wp2
 go_ret;exact⟨by rw[dW nU nU hq.out];rfl,rfl⟩
theorem Tk {s:ByteArray}{k:Nat}(hk:k<s.size)(h:Im (Nt s k)=true):J8 s=false:=by
 have:(s.data.toList.any fun b=>Im b.toNat)=true:=by
  cases hq:(s.data.toList.any fun b=>Im b.toNat)
  ·have:=(Np Im s).1 hq k hk
   rw[h] at this;cases this
  rfl
 unfold J8;rw[this];simp
theorem bA {s:ByteArray}(h:∀k,k<s.size->Im (Nt s k)=false):J8 s=decide (s.size<=200):=by
 unfold J8;rw[(Np Im s).2 h];simp
theorem iK (n:Int)(s:ByteArray)(hs:s.size<=9223372036854775807)(w:World):Calls Tryz.prog 17 #[.agg #[.int .u8 3,.int .i64 n,.string s]] w (E9 w (decide (n=0) && J8 s)):=by
 have HB:=Ax ((Aq w.heap.size w).alloc (Ak _) (.cells #[.int .u8 3,.int .i64 n,.string s] 23));go_enter Tryz.func17,Tryz.ntmps17
 go_wp2
 go_loop [3] (fun vi=>∃k:Nat,k<=s.size/\vi= .int .i64 k/\Hid (∀j,j<k->Im (Nt s j)=false)) (fun i=>s.size - (intOf i).toNat)
 case atStart=>exact⟨0,Nat.zero_le _,rfl,fun j hj=>absurd hj nU⟩
 obtain⟨k,hk,rfl,hq⟩:=hrel;by_cases hlk:k<s.size
 ·have hby:=Qd hlk;obtain⟨c,hc⟩:∃c,Nt s k=c:=⟨_,rfl⟩;rw[hc] at hby;by_cases h32:c<32
  ·have d1:(s[k].toNat:Int)<32:=by omega
   have Hno:=Ax (Tk hlk (by rw[hc];simp [Im];omega));clear hby hc h32
   go_wp2
   go_ret;exact⟨by rw[Hno.out,Bool.and_false];rfl,HB.out⟩
  have d1:32<=(s[k].toNat:Int):=by omega
  by_cases h126:126<c
  ·have d2:126<(s[k].toNat:Int):=by omega
   have Hno:=Ax (Tk hlk (by rw[hc];simp [Im];omega));clear hby hc h32 h126
   go_wp2
   go_ret;exact⟨by rw[Hno.out,Bool.and_false];rfl,HB.out⟩
  have d2:(s[k].toNat:Int)<=126:=by omega
  have Hyes:Hid (∀j,j<k+1->Im (Nt s j)=false):=fun j hj=>by
   rcases Nat.lt_or_ge j k with q|q
   ·exact hq.out j q
   obtain rfl:j=k:=by omega
   rw[hc];simp [Im];omega
  clear hby hc h32 h126;exact zxt
 obtain rfl:k=s.size:=by omega
 have Ht:=Ax (bA hq.out);by_cases hn:n=0
 ·subst hn;by_cases h200:s.size<=200
  ·have d1:(s.size:Int)<=200:=by omega
   have Hd:=Ax (Am h200);clear h200
   go_wp2
   go_ret;exact⟨by rw[Ht.out,Hd.out];rfl,HB.out⟩
  have d1:200<(s.size:Int):=by omega
  have d2:decide ((s.size:Int)<=200)=false:=by simp;omega
  have Hd:=Ax (An h200);clear h200
  go_wp2
  go_ret;exact⟨by rw[Ht.out,Hd.out];rfl,HB.out⟩
 have h0:(n==0)=false:=by simpa using hn
 have Hd:=Ax (An hn);clear hn
 go_wp2
 go_ret;exact⟨by rw[Hd.out];rfl,HB.out⟩
theorem cB (n:Int)(s:ByteArray)(w:World):Calls Tryz.prog 17 #[.agg #[.int .u8 0,.int .i64 n,.string s]] w (E9 w (decide (n=0) && decide (s.size=0))):=by
 have HB:=Ax ((Aq w.heap.size w).alloc (Ak _) (.cells #[.int .u8 0,.int .i64 n,.string s] 23));obtain⟨q,hq⟩:∃q,decide (s.size=0)=q:=⟨_,rfl⟩;obtain⟨he1,he2,he3⟩:=Dz s hq;rw[hq];clear hq;by_cases hn:n=0
 ·subst hn;cases q
  ·have he:=he3 rfl;clear he2 he3;go_enter Tryz.func17,Tryz.ntmps17;exact zzl
  have he:=he2 rfl;clear he2 he3;go_enter Tryz.func17,Tryz.ntmps17;exact zzl
 have h0:(n==0)=false:=by simpa using hn
 rw[An hn];cases q
 ·have he:=he3 rfl;clear he2 he3;go_enter Tryz.func17,Tryz.ntmps17;exact zzl
 have he:=he2 rfl;clear he2 he3;go_enter Tryz.func17,Tryz.ntmps17;exact zzl
theorem gX (k n:Int)(s:ByteArray)(w:World)(hk:k=1\/k=2):Calls Tryz.prog 17 #[.agg #[.int .u8 k,.int .i64 n,.string s]] w (E9 w (decide (s.size=0))):=by
 have HB:=Ax ((Aq w.heap.size w).alloc (Ak _) (.cells #[.int .u8 k,.int .i64 n,.string s] 23));obtain⟨q,hq⟩:∃q,decide (s.size=0)=q:=⟨_,rfl⟩;obtain⟨he1,he2,he3⟩:=Dz s hq;rw[hq];clear hq;rcases hk with rfl|rfl
 all_goals
  cases q
  ·have he:=he3 rfl;clear he2 he3;go_enter Tryz.func17,Tryz.ntmps17;exact zzl
  have he:=he2 rfl;clear he2 he3;go_enter Tryz.func17,Tryz.ntmps17;exact zzl
theorem eQ (n:Int)(s:ByteArray)(hs:s.size<=9223372036854775807)(w:World):Calls Tryz.prog 17 #[.agg #[.int .u8 5,.int .i64 n,.string s]] w (E9 w (decide (n=0) && Gx s)):=by
 have HB:=Ax ((Aq w.heap.size w).alloc (Ak _) (.cells #[.int .u8 5,.int .i64 n,.string s] 23));have hc:=aU s hs (w.alloc (.cells #[.int .u8 5,.int .i64 n,.string s] 23));obtain⟨b,hb⟩:∃b,Gx s=b:=⟨_,rfl⟩;rw[hb] at hc ⊢;have Hc:=Ax hc;clear hc hb;by_cases hn:n=0
 ·subst hn;go_enter Tryz.func17,Tryz.ntmps17;go_wp2_with fail;refine Hc.out.mono ?_;rintro e w1 ⟨rfl,rfl⟩
  go_wp2
  go_ret;exact⟨Ir nW,HB.out⟩
 have h0:(n==0)=false:=by simpa using hn
 rw[An hn];clear hn;go_enter Tryz.func17,Tryz.ntmps17;exact zzl
theorem bN (n:Int)(s:ByteArray)(w:World):Calls Tryz.prog 17 #[.agg #[.int .u8 4,.int .i64 n,.string s]] w (E9 w (decide (s.size=0) && decide (n=0\/n=1))):=by
 have HB:=Ax ((Aq w.heap.size w).alloc (Ak _) (.cells #[.int .u8 4,.int .i64 n,.string s] 23));obtain⟨q,hq⟩:∃q,decide (s.size=0)=q:=⟨_,rfl⟩;obtain⟨he1,he2,he3⟩:=Dz s hq;rw[hq];clear hq;cases q
 ·have he:=he3 rfl;clear he2 he3;go_enter Tryz.func17,Tryz.ntmps17;exact zzl
 have he:=he2 rfl;clear he2 he3;by_cases h0:n=0
 ·subst h0;go_enter Tryz.func17,Tryz.ntmps17;exact zzl
 by_cases h1:n=1
 ·subst h1;go_enter Tryz.func17,Tryz.ntmps17;exact zzl
 have e0:(n==0)=false:=by simpa using h0
 have e1:(n==1)=false:=by simpa using h1
 rw[An nU];clear h0 h1;go_enter Tryz.func17,Tryz.ntmps17;exact zzl
theorem Yz (k n:Int)(s:ByteArray)(w:World)(hk:k<0\/5<k):Calls Tryz.prog 17 #[.agg #[.int .u8 k,.int .i64 n,.string s]] w (E9 w false):=by
 have HB:=Ax ((Aq w.heap.size w).alloc (Ak _) (.cells #[.int .u8 k,.int .i64 n,.string s] 23));have e0:(k==0)=false:=by simp;omega
 have e1:(k==1)=false:=by simp;omega
 have e2:(k==2)=false:=by simp;omega
 have e3:(k==3)=false:=by simp;omega
 have e4:(k==4)=false:=by simp;omega
 have e5:(k==5)=false:=by simp;omega
 clear hk;go_enter Tryz.func17,Tryz.ntmps17;exact zzl
theorem Gr (v:Vl)(hv:v.s.size<=9223372036854775807)(w:World):
 Calls Tryz.prog 17 #[.agg #[.int .u8 v.k,.int .i64 v.n,.string v.s]] w fun e w'=>e= .returned (.bool (cO v))/\Below w.heap.size w w':=by
 obtain⟨k,n,s⟩:=v;simp only at hv;unfold cO;simp only;by_cases k0:k=0
 ·subst k0;rw[Ap rfl];exact cB n s w
 rw[Ao k0];by_cases k1:k=1\/k=2
 ·rw[Ap k1];exact gX k n s w k1
 rw[Ao k1];by_cases k3:k=3
 ·subst k3;rw[Ap rfl];exact iK n s hv w
 rw[Ao k3];by_cases k4:k=4
 ·subst k4;rw[Ap rfl];exact bN n s w
 rw[Ao k4];by_cases k5:k=5
 ·subst k5;rw[Ap rfl];exact eQ n s hv w
 rw[Ao k5];exact Yz k n s w nU
open Go Go.RowKit Go.Lib
theorem Ch.store {V:World}{r:Nat}{v:Value}{l:List Nat}{p:Bool}{s:Value}{t:TypeId}(h:Ch V v l)(hs:∃a n c,s= .slice a n c)(hr:V.heap[r]? =some (.cells #[.bool p,s] t (0,0)))(u u':Value):Ch ((V.setCell ⟨r,0,none⟩ u).setCell ⟨r,1,none⟩ u') v l:=by
 obtain⟨a1,n1,c1,rfl⟩:=hs;obtain⟨h1,a0,c0,rfl,h3,h4⟩:=h;refine⟨h1,a0,c0,rfl,h3,fun i hi=>?_⟩;exact zy0
structure Qn (w wr:World)(bx by':Bool)(sx sy:Value)(ps:Bool)(ss:Value):Prop where
 x:wr.heap[w.heap.size]? =some (.cells #[.bool bx,sx] 79 (0,0))
 y:wr.heap[w.heap.size+1]? =some (.cells #[.bool by',sy] 79 (0,0))
 z:wr.heap[w.heap.size+2]? =some (.cells #[.bool false,.slice none 0 0] 79 (0,0))
 s:wr.heap[w.heap.size+3]? =some (.cells #[.bool ps,ss] 79 (0,0))
 bel:Below w.heap.size w wr
theorem Qn.below {w wr V:World}{bx by':Bool}{sx sy:Value}{ps:Bool}{ss:Value}(h:Qn w wr bx by' sx sy ps ss)(hb:Below wr.heap.size wr V):Qn w V bx by' sx sy ps ss:=
 ⟨(hb.block _ (Ay h.x)).trans h.x,(hb.block _ (Ay h.y)).trans h.y,(hb.block _ (Ay h.z)).trans h.z,(hb.block _ (Ay h.s)).trans h.s,h.bel.trans (hb.mono h.bel.size)⟩
theorem Zz {V:World}{r:Nat}{p:Bool}{s:Value}{t:TypeId}(hr:V.heap[r]? =some (.cells #[.bool p,s] t (0,0)))(q:Bool)(u:Value):((V.setCell ⟨r,0,none⟩ (.bool q)).setCell ⟨r,1,none⟩ u).heap[r]? =some (.cells #[.bool q,u] t (0,0)):=by
 simp only[World.setCell,Array.getElem?_modify,hr];simp
theorem Qn.store {w wr:World}{bx by':Bool}{sx sy:Value}{ps:Bool}{ss:Value}(h:Qn w wr bx by' sx sy ps ss)(q:Bool)(u:Value):Qn w ((wr.setCell ⟨w.heap.size+3,0,none⟩ (.bool q)).setCell ⟨w.heap.size+3,1,none⟩ u) bx by' sx sy q u:=by
 refine⟨?_,?_,?_,Zz h.s q u,(h.bel.setCell (p:=⟨w.heap.size+3,0,none⟩) nW _).setCell (p:=⟨w.heap.size+3,1,none⟩) nW _⟩
 ·rw[Below.heap_setCell _ _ _ _ nW,Below.heap_setCell _ _ _ _ nW];exact h.x
 ·rw[Below.heap_setCell _ _ _ _ nW,Below.heap_setCell _ _ _ _ nW];exact h.y
 rw[Below.heap_setCell _ _ _ _ nW,Below.heap_setCell _ _ _ _ nW];exact h.z
theorem Qn.with {w wr:World}{bx by':Bool}{sx sy:Value}{ps:Bool}{ss:Value}{l:List Nat}(h:Qn w wr bx by' sx sy ps ss)(hd:∀V,Ch V ss l):Qn w wr bx by' sx sy ps ss/\Ch wr ss l:=⟨h,hd _⟩
def ml0 (w:World)(bx by':Bool)(sx sy:Value):World:=((((w.alloc (.cells #[.bool bx,sx] 79)).alloc (.cells #[.bool by',sy] 79)).alloc (.cells #[.bool false,.slice none 0 0] 79)).alloc (.cells #[.bool false,.slice none 0 0] 79))
theorem mI (w:World)(bx by':Bool)(sx sy:Value):Qn w (ml0 w bx by' sx sy) bx by' sx sy false (.slice none 0 0):=by
 obtain⟨W1,h1⟩:∃W1,w.alloc (.cells #[.bool bx,sx] 79)=W1:=⟨_,rfl⟩;obtain⟨W2,h2⟩:∃W2,W1.alloc (.cells #[.bool by',sy] 79)=W2:=⟨_,rfl⟩;obtain⟨W3,h3⟩:∃W3,W2.alloc (.cells #[.bool false,.slice none 0 0] 79)=W3:=⟨_,rfl⟩;have z1:W1.heap.size=w.heap.size+1:=by rw[←h1];simp
 have z2:W2.heap.size=w.heap.size+2:=by rw[←h2];simp [z1]
 have z3:W3.heap.size=w.heap.size+3:=by rw[←h3];simp [z2]
 have e1:W1.heap[w.heap.size]? =some (.cells #[.bool bx,sx] 79 (0,0)):=by rw[←h1];exact A0 _ _
 have e2:W2.heap[w.heap.size+1]? =some (.cells #[.bool by',sy] 79 (0,0)):=by rw[←h2,←z1];exact A0 _ _
 have e3:W3.heap[w.heap.size+2]? =some (.cells #[.bool false,.slice none 0 0] 79 (0,0)):=by rw[←h3,←z2];exact A0 _ _
 have b1:Below w.heap.size w W1:=by rw[←h1];exact(Aq _ _).alloc (Ak _) _
 have b2:Below W1.heap.size W1 W2:=by rw[←h2];exact(Aq _ _).alloc (Ak _) _
 have b3:Below W2.heap.size W2 W3:=by rw[←h3];exact(Aq _ _).alloc (Ak _) _
 have b4:Below W3.heap.size W3 (W3.alloc (.cells #[.bool false,.slice none 0 0] 79)):=(Aq _ _).alloc (Ak _) _;unfold ml0;rw[h1,h2,h3];refine⟨?_,?_,(b4.block _ (Ay e3)).trans e3,?_,((b1.trans (b2.mono nU)).trans (b3.mono nU)).trans (b4.mono nU)⟩
 ·rw[b4.block _ nU,b3.block _ nU,b2.block _ nU];exact e1
 ·rw[b4.block _ nU,b3.block _ nU];exact e2
 rw[←z3];exact A0 _ _
structure Ys (B:Nat)(W0 wr:World)(xs:List Nat)(y i k more:Nat)(v:Value)(o:List Nat):Prop where
 row:wr.ownsRow B 3 1 v (i+k) (C3 (List.replicate i 0++o))
 len:o.length=k
 ok:okD o
 val:nv o+10000^k*(more+nv (xs.drop k)*y)=nv xs*y
 bel:Below B W0 wr
theorem Ys.drew {B:Nat}{W0 wr:World}{xs:List Nat}{y i k more:Nat}{v:Value}{o:List Nat}(h:Ys B W0 wr xs y i k more v o)(n:Nat):Ys B W0 (wr.drewN n) xs y i k more v o:=
 ⟨h.row,h.len,h.ok,h.val,h.bel.os,h.bel.tape,h.bel.output,h.bel.size,h.bel.block⟩
theorem aK {O p t s A y:Nat}(h:t+10000*(A*y)=s):O+p*(t % 10000)+p*10000*(t/10000+A*y)=O+p*s:=by
 have:p*(t % 10000)+p*10000*(t/10000+A*y)=p*s:=by
  rw[Nat.mul_assoc,←Nat.mul_add];congr 1;rw[Nat.mul_add];omega
 omega
theorem eR (i:Nat)(o:List Nat):nv (List.replicate i 0++o)=10000^i*nv o:=by
 rw[Zl,List.length_replicate]
 have:nv (List.replicate i 0)=0:=by
  induction i with
  |zero=>rfl
  |succ n ih=>rw[List.replicate_succ,nv,ih]
 rw[this,Nat.zero_add]
theorem gJ (i:Nat){o:List Nat}(h:okD o):okD (List.replicate i 0++o):=fun d hd=>by
 rcases List.mem_append.1 hd with hd|hd
 ·rw[List.eq_of_mem_replicate hd];decide
 exact h d hd
theorem Vq (n:Nat)(hn:n<=1000000)(w:World):∃w',(Instr.makeSlice 41 (.int .i64 (n:Int)) (.int .i64 (n:Int))).run Tryz.prog w= .ok (.slice (some ⟨w.heap.size,0,none⟩) n n) w'/\Below w.heap.size w w'/\w'.ownsRow w.heap.size 3 1 (.slice (some ⟨w.heap.size,0,none⟩) n n) n (C3 (List.replicate n 0)):=by
 obtain⟨i0,hi,hz0,hz1,hz2⟩:=Cg;obtain⟨w',hrun,hown,hg⟩:=run_make_full (P:=Tryz.prog) w w.heap.size 41 3 i0 (.int .i64 0) 1 Tryz.underlying41 hi hz0 hz1 .i64 .i64 n (by rw[hz2];omega) oF (Ak _);refine⟨w',hrun,(A8.of_grown hg [] (fun k e=>by cases e)).below,?_⟩
 have:(madeCells (Value.int .i64 0).cells (n*1)).toList=C3 (List.replicate n 0):=by
  simp [madeCells,C3];rw[List.eq_replicate_iff];refine⟨by simp,fun u hu=>?_⟩;obtain⟨x,_,rfl⟩:=List.mem_map.1 hu
  show(#[Value.int .i64 0]:Array Value)[x % 1]! =_
  rw[Nat.mod_one];rfl
 rw[←this];exact hown
theorem Bj.nat {w:World}{v:Value}{m:Nat}(h:Bj w v (m:Int)):∃a n c,v= .agg #[.bool false,.slice a n c]/\Ch w (.slice a n c) (dg m):=by
 obtain⟨a,c,h1,h2⟩:=h.form;refine⟨a,_,c,?_,by simpa using h2⟩;rw[h1,An nU];rfl
theorem Zj {w:World}{sx sy:Value}{xs ys:List Nat}(bx by':Bool)(hx:Ch w sx xs)(hy:Ch w sy ys)(hox:okD xs)(hoy:okD ys)(hlx:xs.length<=40000)(hly:ys.length<=40000){z:Int}(hz:sgn (bx !=by') (nv xs*nv ys)=z):Calls Tryz.prog 127 #[.agg #[.bool bx,sx],.agg #[.bool by',sy]] w (Fd w z):=by
 obtain⟨ax,cx,rfl,_⟩:=hx.slice;obtain⟨ay,cy,rfl,_⟩:=hy.slice;have HX:=Ax hx;have HY:=Ax hy;have HOX:=Ax hox;have HOY:=Ax hoy;have HZ:=Ax hz;have h0:=mI w bx by' (.slice ax xs.length cx) (.slice ay ys.length cy);have HS:=Ax (h0.with (l:=dg (nv xs*nv (ys.take 0))) fun V=>by rw[List.take_zero];show Ch _ _ (dg (nv xs*0));rw[Nat.mul_zero,Dr];exact Ch.nil _);unfold ml0 at HS;clear hx hy hox hoy hz h0;go_enter Tryz.func127,Tryz.ntmps127;go_wp2_with fail
 go_loopw [6] (fun v6 wr=>∃(i:Nat) (sa:Option Addr) (sn sc:Nat),i<=ys.length/\v6= .int .i64 i/\Hid (Qn w wr bx by' (.slice ax xs.length cx) (.slice ay ys.length cy) false (.slice sa sn sc)/\Ch wr (.slice sa sn sc) (dg (nv xs*nv (ys.take i))))) (fun v6 _=>ys.length - (intOf v6).toNat)
 case atStart=>exact⟨0,none,0,0,Nat.zero_le _,rfl,HS⟩
 obtain⟨wo,rfl⟩:∃wo:World,wo=wr:=⟨_,rfl⟩;obtain⟨i,sa,sn,sc,hi,rfl,hq⟩:=hrel;obtain⟨hM,hD⟩:=hq.out;obtain⟨m0,m1,_⟩:=A1 hM.x;obtain⟨m2,m3,_⟩:=A1 hM.y;obtain⟨m4,m5,_⟩:=A1 hM.s;by_cases hil:i<ys.length
 ·have p0:decide ((i:Int)<(ys.length:Int))=true:=Am nU;obtain⟨W0,hmk,hbW0,hrow⟩:=Vq i nU wo;have HM:=Ax hM;have HD:=Ax hD;have hM0:=hM.below hbW0;have HM0:=Ax hM0;have HB0:=Ax hbW0;have HR0:Hid (Ys wo.heap.size W0 W0 xs ys[i] i 0 0 (.slice (some ⟨wo.heap.size,0,none⟩) i i) []):=Ax ⟨by rw[List.append_nil];exact hrow,rfl,fun _ h=>by(cases h),by simp [nv],Aq _ _⟩;have hyo:=HOY.out _ (List.getElem_mem hil);have HTK:=Ax (Fw ys i hil);obtain⟨y,hyy⟩:∃y,ys[i]=y:=⟨_,rfl⟩;rw[hyy] at HR0 HTK hyo;have HYY:=Ax hyy;clear hq hM hD hbW0 hrow hM0 hyy HS;go_wp2_with fail
  go_loopw [7,8,9] (fun v7 v8 v9 wi=>∃(k more:Nat) (o:List Nat) (oa:Option Addr) (oc:Nat),more<=9999/\(k<=xs.length\/k=xs.length+1/\more=0)/\v7= .slice oa (i+k) oc/\v8= .int .i64 more/\v9= .int .i64 k/\Hid (Ys wo.heap.size W0 wi xs y i k more (.slice oa (i+k) oc) o)) (fun _ _ v9 _=>xs.length+2 - (intOf v9).toNat)
  case atStart=>exact⟨0,0,[],some ⟨wo.heap.size,0,none⟩,i,by omega,.inl nU,rfl,rfl,rfl,HR0⟩
  obtain⟨wi,rfl⟩:∃wi:World,wi=wr:=⟨_,rfl⟩;obtain⟨k,more,o,oa,oc,hm,hk,rfl,rfl,rfl,hq⟩:=hrel;have hR:=hq.out;have hMi:=HM.out.below (HB0.out.trans hR.bel);obtain⟨n0,n1,_⟩:=A1 hMi.x;obtain⟨n2,n3,_⟩:=A1 hMi.y;obtain⟨n4,n5,_⟩:=A1 hMi.s;by_cases hkl:k<xs.length
  ·skip
   have hMb:=hMi.bel;obtain⟨bxx,fxx,hax,hcx⟩:=HX.out.at hkl;obtain⟨byy,fyy,hay,hcy⟩:=HY.out.at hil;subst hax;subst hay;have hcx:=A6 hMb hcx;have hcy:=A6 hMb hcy;have hxl:=HOX.out _ (List.getElem_mem hkl);have hda:=C8 hkl;obtain⟨x,hx⟩:∃x,xs[k]=x:=⟨_,rfl⟩;rw[hx] at hcx hda hxl;rw[HYY.out] at hcy;obtain⟨p,hp⟩:∃p,x*y=p:=⟨_,rfl⟩;have hpl:p<=99980001:=by rw[←hp];exact Nat.mul_le_mul (show x<=9999 by omega) (show y<=9999 by omega)
   have hxy:(x:Int)*(y:Int)=(p:Int):=by rw[←hp];exact(Int.natCast_mul x y).symm
   have hdr:nv (xs.drop k)*y=p+10000*(nv (xs.drop (k+1))*y):=by rw[hda,Nat.add_mul,hp,Nat.mul_assoc]
   have p1:decide ((k:Int)<(xs.length:Int))=true:=Am nU;have p1':(k:Int)<(xs.length:Int):=by omega
   have p2':(i:Int)<(ys.length:Int):=by omega
   have q7:(0:Int)<=(p:Int):=by omega
   have q8:(p:Int)<=99980001:=by omega
   have wr1:IntKind.i64.wrap (p:Int)=(p:Int):=IntWalk.i64_in _ ⟨by omega,by omega⟩;have wr2:IntKind.i64.wrap ((more:Int)+(p:Int))=(more:Int)+(p:Int):=IntWalk.i64_in _ ⟨by omega,by omega⟩;have q0:(0:Int)<=(k:Int):=by omega
   have q0b:(0:Int)<=(i:Int):=by omega
   have q5:(0:Int)<=(more:Int):=by omega
   have q6:(more:Int)<=9999:=by omega
   obtain⟨d,hdd⟩:∃d,(more+p) % 10000=d:=⟨_,rfl⟩;obtain⟨c,hcc⟩:∃c,(more+p)/10000=c:=⟨_,rfl⟩;have hz:((more:Int)+(p:Int)) % 10000=(d:Int):=by omega
   have hd:((more:Int)+(p:Int))/10000=(c:Int):=by omega
   have hm1:c<=9999:=by omega
   have hbd:k+1<=xs.length\/k+1=xs.length+1/\c=0:=by omega
   have HVL:=Ax (aK (O:=nv o) (p:=10000^k) (t:=(more+p)) (A:=nv (xs.drop (k+1))) (y:=y) (s:=more+nv (xs.drop k)*y) nU);rw[hdd,hcc] at HVL;have HR:=Ax hR;have HSW:=Ax HB0.out.size;have HDL:=Ax (show d<10000 by omega);obtain⟨i0,hi0,hz0,hz1,hz2⟩:=Cg;have Hi0:=Ax hi0;have Hy0:=Ax hz0;have Hy1:=Ax hz1;have Hy2:=Ax hz2;have Hbd:=Ax hbd;clear hq hMi hR hi0 hz0 hz1 hz2 hdr hbd hdd hcc hMb hda hx hp;go_wp2_with fail;go_quiet (fail);have HR:=Ax (HR.out.drew nq);obtain⟨wj,hwj⟩:∃wj,wi.drewN nq=wj:=⟨_,rfl⟩;rw[hwj] at HR ⊢;clear hwj;have Hrow1:=Ax (HR.out.row.alloc (.cells #[.int .i64 (d:Int)] 3));have HN1:=Ax (A0 wj (.cells #[.int .i64 (d:Int)] 3));have HZ1:Hid ((wj.alloc (.cells #[.int .i64 (d:Int)] 3)).heap.size=wj.heap.size+1):=Ax nW;have hsr:=HR.out.bel.size;have Hown:=Ax (Cf HR.out.row);go_wp2_with ((refine wpList_append_lies _ rfl (.tmp 49) (.tmp 52) _ rfl wo.heap.size 3 i0 (.int .i64 0) 1 8 Tryz.underlying41 Hi0.out Hy0.out Hy1.out Hy2.out rfl nV (.slice oa (i+k) oc) (i+k) (C3 (List.replicate i 0++o)) rfl Hrow1.out ⟨wj.heap.size,0,none⟩ 1 1 [.int .i64 (d:Int)] rfl rfl (World.news_of_block (cs:= #[.int .i64 (d:Int)]) HN1.out) oH nV oF nU pX (wj.heap.size+1) HZ1.out ?_;intro g6 cap w6 hown6 hgrow6 hat6 hlt6));exact zze
  by_cases hm0:more=0
  ·subst hm0;have p1:decide ((k:Int)<(xs.length:Int))=false:=An nU
   have hov:nv o=nv xs*y:=by
    have:=hR.val
    rw[List.drop_eq_nil_of_le nU] at this;simpa[nv] using this
   have hol:(List.replicate i 0++o).length=i+k:=by rw[Ab,List.length_replicate,hR.len]
   have hrd:=Ch.of_row nU hol.symm hR.row
   have hsl:(dg (nv xs*nv (ys.take i))).length<=100000:=by
    have h1:=Kr (nv xs) (nv (ys.take i));have h2:=Qw HOX.out;have h3:=Qw (Uf HOY.out i);rw[List.length_take] at h3;rw[Uj];omega
   have HU:=Ax (fZ (HD.out.below (HB0.out.trans hR.bel)) hrd (Fy _) (gJ i hR.ok) hsl nU)
   have HVV:Hid (∀n,n=nv (dg (nv xs*nv (ys.take i)))+nv (List.replicate i 0++o)->n=nv xs*nv (ys.take (i+1))):=Ax (fun n hn=>by
    rw[Es,eR,hov] at hn;rw[hn,HTK.out,Nat.mul_add];congr 1
    rw[Nat.mul_left_comm])
   obtain⟨m,hm⟩:∃m,nv xs*nv (ys.take (i+1))=m:=⟨_,rfl⟩;rw[hm] at HVV;have HMM:=Ax hm;have HMi:=Ax hMi;clear hq hMi hR hrd hsl hov hol hm HR0 HTK HM;go_wp2_with fail;refine HU.out.mono ?_;rintro e V1 ⟨⟨v1,o1,rfl,hd1,ho1,hv1,_⟩,hb1⟩;obtain⟨a1,c1,rfl,_⟩:=hd1.slice;have HT:=Ax (Gw false hd1 ho1 (z:=(m:Int)) (by rw[HVV.out _ hv1];rfl));have HM1:=Ax (HMi.out.below hb1);clear hd1 ho1 hv1 hb1 HMi HVV HU;go_wp2_with fail;refine HT.out.mono ?_;rintro e V2 ⟨⟨v2,rfl,hv2⟩,hb2⟩;obtain⟨a2,n2,c2,rfl,hd2⟩:=hv2.nat;have hM2:=HM1.out.below hb2;obtain⟨l4,l5,lf⟩:=A1 hM2.s;have lf0:=lf 0;have lf1:=lf 1;have HM3:=Ax (hM2.store false (.slice a2 n2 c2));have HD3:=Ax (hd2.store ⟨_,_,_,rfl⟩ hM2.s (.bool false) (.slice a2 n2 c2));rw[←HMM.out] at HD3;clear hd2 hM2 hv2 hb2 lf HT HM1;go_wp2_with fail;go_roundw
   case rel=>exact⟨i+1,a2,n2,c2,hil,by go_num,Ax ⟨HM3.out,HD3.out⟩⟩
   case measure=>simp [intOf];omega
  skip
  have hMb:=hMi.bel;have hdr:nv (xs.drop k)*y=0:=by rw[List.drop_eq_nil_of_le nU];exact Nat.zero_mul y
  have hdr2:nv (xs.drop (k+1))*y=0:=by rw[List.drop_eq_nil_of_le nU];exact Nat.zero_mul y
  have p1:decide ((k:Int)<(xs.length:Int))=false:=An nU;have p4:decide ((0:Int)<(more:Int))=true:=Am nU;have q0:(0:Int)<=(k:Int):=by omega
  have q0b:(0:Int)<=(i:Int):=by omega
  have q5:(0:Int)<=(more:Int):=by omega
  have q6:(more:Int)<=9999:=by omega
  obtain⟨d,hdd⟩:∃d,more % 10000=d:=⟨_,rfl⟩;obtain⟨c,hcc⟩:∃c,more/10000=c:=⟨_,rfl⟩;have hz:(more:Int) % 10000=(d:Int):=by omega
  have hd:(more:Int)/10000=(c:Int):=by omega
  have hm1:c<=9999:=by omega
  have hbd:k+1<=xs.length\/k+1=xs.length+1/\c=0:=by omega
  have HVL:=Ax (aK (O:=nv o) (p:=10000^k) (t:=more) (A:=nv (xs.drop (k+1))) (y:=y) (s:=more+nv (xs.drop k)*y) nU);rw[hdd,hcc] at HVL;have HR:=Ax hR;have HSW:=Ax HB0.out.size;have HDL:=Ax (show d<10000 by omega);obtain⟨i0,hi0,hz0,hz1,hz2⟩:=Cg;have Hi0:=Ax hi0;have Hy0:=Ax hz0;have Hy1:=Ax hz1;have Hy2:=Ax hz2;have Hbd:=Ax hbd;clear hq hMi hR hi0 hz0 hz1 hz2 hdr hbd hdd hcc hMb hdr2;have Hrow1:=Ax (HR.out.row.alloc (.cells #[.int .i64 (d:Int)] 3));have HN1:=Ax (A0 wi (.cells #[.int .i64 (d:Int)] 3));have HZ1:Hid ((wi.alloc (.cells #[.int .i64 (d:Int)] 3)).heap.size=wi.heap.size+1):=Ax nW;have hsr:=HR.out.bel.size;have Hown:=Ax (Cf HR.out.row);go_wp2_with ((refine wpList_append_lies _ rfl (.tmp 49) (.tmp 52) _ rfl wo.heap.size 3 i0 (.int .i64 0) 1 8 Tryz.underlying41 Hi0.out Hy0.out Hy1.out Hy2.out rfl nV (.slice oa (i+k) oc) (i+k) (C3 (List.replicate i 0++o)) rfl Hrow1.out ⟨wi.heap.size,0,none⟩ 1 1 [.int .i64 (d:Int)] rfl rfl (World.news_of_block (cs:= #[.int .i64 (d:Int)]) HN1.out) oH nV oF nU pX (wi.heap.size+1) HZ1.out ?_;intro g6 cap w6 hown6 hgrow6 hat6 hlt6));exact zze
 obtain rfl:i=ys.length:=by omega
 have p0:decide ((ys.length:Int)<(ys.length:Int))=false:=An nU;rw[List.take_length] at hD;have HT:=Ax (Gw (bx !=by') hD (Fy _) (z:=z) (by rw[Es];exact HZ.out));have HM:=Ax hM;obtain⟨sg,hsg⟩:∃sg,(bx !=by')=sg:=⟨_,rfl⟩;rw[hsg] at HT;have hsg2:((!bx)==by')=sg:=by rw[←hsg];cases bx<;>cases by'<;>rfl
 have hsg3:(!(bx==by'))=sg:=hsg;clear hq hM hD HS;go_wp2_with fail;refine HT.out.mono ?_;rintro e V2 ⟨⟨v2,rfl,hv2⟩,hb2⟩;obtain⟨a2,c2,rfl,hd2⟩:=hv2.form;have hM2:=HM.out.below hb2;obtain⟨l4,l5,lf⟩:=A1 hM2.z;have lf0:=lf 0;have lf1:=lf 1;obtain⟨nb,hnb⟩:∃b,decide (z<0)=b:=⟨_,rfl⟩;obtain⟨n2,hn2⟩:∃n,Bo z.natAbs=n:=⟨_,rfl⟩;rw[hnb,hn2] at hv2 ⊢;have HV:=Ax (hv2.store hM2.z (.bool nb) (.slice a2 n2 c2));have HB:=Ax ((hM2.bel.setCell (p:=⟨w.heap.size+2,0,none⟩) nW (.bool nb)).setCell (p:=⟨w.heap.size+2,1,none⟩) nW (.slice a2 n2 c2));clear hd2 hM2 hv2 hb2 lf HT HM hnb hn2;go_wp2_with fail;refine Au (v:= .agg #[.bool nb,.slice a2 n2 c2]) (by simp [results,Tryz.results127,go_sem, *]) rfl ⟨⟨_,rfl,HV.out⟩,HB.out⟩
theorem jM (x y:Int):sgn (decide (x<0) !=decide (y<0)) (x.natAbs*y.natAbs)=x*y:=by
 unfold sgn;by_cases hx:x<0
 ·by_cases hy:y<0
  ·rw[Am hx,Am hy];simp only[bne_self_eq_false,Bool.false_eq_true,if_false];rw[←Int.natAbs_mul,Int.natAbs_of_nonneg (Int.le_of_lt (Int.mul_pos_of_neg_of_neg hx hy))]
  rw[Am hx,An hy]
  have:x*y<=0:=Int.mul_nonpos_of_nonpos_of_nonneg nU nU
  simp only[Bool.true_bne,Bool.not_false,if_true];rw[←Int.natAbs_mul];omega
 by_cases hy:y<0
 ·rw[An hx,Am hy]
  have:x*y<=0:=Int.mul_nonpos_of_nonneg_of_nonpos nU nU
  simp only[Bool.false_bne,if_true];rw[←Int.natAbs_mul];omega
 rw[An hx,An hy];simp only[bne_self_eq_false,Bool.false_eq_true,if_false];rw[←Int.natAbs_mul,Int.natAbs_of_nonneg (Int.mul_nonneg nU nU)]
theorem Li {w:World}{vx vy:Value}{x y:Int}(hx:Bj w vx x)(hy:Bj w vy y)(hlx:Bo x.natAbs<=40000)(hly:Bo y.natAbs<=40000):Calls Tryz.prog 127 #[vx,vy] w (Fd w (x*y)):=by
 obtain⟨sx,rfl,hsx⟩:=hx;obtain⟨sy,rfl,hsy⟩:=hy;exact Zj _ _ hsx hsy (Fy _) (Fy _) hlx hly (by rw[Es,Es];exact jM x y)
open Go Go.RowKit Go.Lib
theorem Ku {P:Program}{ops:Array Oper}{o:Oper}{a:Act}{w:World}{K:Act->World->Prop}{Q:Exit->Act->World->Prop}{E:Prop}(hgd:o.guard=none)(s x:Operand)(t:TypeId)
 (ho:o.op= .call {callee:= .builtin .append,args:= #[s,x],argTypes:= #[t,t]})
 (base:Nat) (i:TypeInfo) (ht:P.underlying t=some (.slice 3)) (hi:P.info? 3=some i) (hz:i.zero=some (.int .i64 0))
 (hsize:i.size=1) (hby:i.bytes=8)
 (v:Value) (n:Nat) (xs:List Value) (hs:a.eval s=v) (hown:w.ownsRow base 3 1 v n xs)
 (vx:Value) (l:List Nat) (hx:a.eval x=vx) (hl:Ch w vx l)
 (h63:n+l.length<=2000000) (hbase:base<=w.heap.size)
 (h:∀v' w',w'.ownsRow base 3 1 v' (n+l.length) (xs++C3 l)->w.grownBy w' v.ownBlock->K (a.put o.dst v') w'):
 if Region.wanted o (yielded ops a.tmps)=true then Oper.wp P o a w K Q else E:=by
 have hw:Region.wanted o (yielded ops a.tmps)=true:=by simp [Region.wanted,hgd]
 rw[Ap hw];obtain⟨h1,a0,c,rfl,h3,h4⟩:=hl
 have hone:∀u∈C3 l,u.oneCell'=true:=fun u hu=>by
  obtain⟨k,_,rfl⟩:=List.mem_map.1 hu;rfl
 cases a0 with
 |some ad=>
  refine wp_append_own w s x t ho base 3 i (.int .i64 0) 1 8 ht hi hz hsize hby rfl nV v n xs hs hown ad l.length c (C3 l) hx (by simp [C3]) (fun j u hu=>?_) hone oF nU hbase fun v' w' h2 h3 _=>h v' w' h2 h3
  obtain⟨hj,he⟩:=List.getElem?_eq_some_iff.1 hu;obtain⟨b,off,e,hc⟩:=h4 j (by simpa[C3] using hj);injection e with e;subst e;rw[Addr.add_lit,hc,←he];simp [C3]
 |none=>
  have h0:l=[]:=by
   cases l with
   |nil=>rfl
   |cons y ys=>
    obtain⟨b,off,e,_⟩:=h4 0 nW;cases e
  subst h0
  have hrun:(Builtin.append_ #[t,t] o.type #[v,.slice none 0 c]).run P w= .ok v w:=by
   rcases hown.2 with ⟨rfl,rfl⟩|⟨g,cap,cur,rfl,_,_,hnc,_⟩
   ·simp [Builtin.append_,run_underlying ht,sizeOf,typeInfo,hi,Builtin.lenOf,Builtin.firstCells]
   simp [Builtin.append_,run_underlying ht,sizeOf,typeInfo,hi,Builtin.lenOf,Builtin.firstCells,hnc,storeCells]
  unfold Oper.wp;simp [execOp,ho,resolve,invoke,builtin,hs,hx,hrun,Result.andThen];exact h v w (by simpa[C3] using hown) ⟨rfl,rfl,rfl,Ak _,fun _ _ _=>rfl⟩
structure Nu (w wr:World)(bx by':Bool)(sx sy:Value)(p q M R:Nat)(qs:List Nat)(rs:Value):Prop where
 x:wr.heap[w.heap.size]? =some (.cells #[.bool bx,sx] 79 (0,0))
 y:wr.heap[w.heap.size+1]? =some (.cells #[.bool by',sy] 79 (0,0))
 z1:wr.heap[w.heap.size+2]? =some (.cells #[.bool false,.slice none 0 0] 79 (0,0))
 z2:wr.heap[w.heap.size+3]? =some (.cells #[.bool false,.slice none 0 0] 79 (0,0))
 pa:wr.heap[p]? =some (.cells #[.bool false,sx] 79 (0,0))
 qb:wr.heap[q]? =some (.cells #[.bool false,sy] 79 (0,0))
 row:wr.heap[M]? =some (.cells (C3 qs).toArray 3 (0,0))
 rb:wr.heap[R]? =some (.cells #[.bool false,rs] 79 (0,0))
 pM:p<M
 qM:q<M
 zM:w.heap.size+3<M
 MR:M<R
 bel:Below w.heap.size w wr
theorem Nu.below {w wr V:World}{bx by':Bool}{sx sy:Value}{p q M R:Nat}{qs:List Nat}{rs:Value}(h:Nu w wr bx by' sx sy p q M R qs rs)(hb:Below wr.heap.size wr V):Nu w V bx by' sx sy p q M R qs rs:=
 ⟨(hb.block _ (Ay h.x)).trans h.x,(hb.block _ (Ay h.y)).trans h.y,(hb.block _ (Ay h.z1)).trans h.z1,(hb.block _ (Ay h.z2)).trans h.z2,(hb.block _ (Ay h.pa)).trans h.pa,(hb.block _ (Ay h.qb)).trans h.qb,(hb.block _ (Ay h.row)).trans h.row,(hb.block _ (Ay h.rb)).trans h.rb,h.pM,h.qM,h.zM,h.MR,h.bel.trans (hb.mono h.bel.size)⟩
theorem Nu.store {w wr:World}{bx by':Bool}{sx sy:Value}{p q M R:Nat}{qs:List Nat}{rs:Value}(h:Nu w wr bx by' sx sy p q M R qs rs)(u:Value):Nu w ((wr.setCell ⟨R,0,none⟩ (.bool false)).setCell ⟨R,1,none⟩ u) bx by' sx sy p q M R qs u:=by
 have h1:=h.pM;have h2:=h.qM;have h3:=h.zM;have h4:=h.MR
 have hk:∀k,k<R->((wr.setCell ⟨R,0,none⟩ (.bool false)).setCell ⟨R,1,none⟩ u).heap[k]? =wr.heap[k]?:=fun k hk=>by
  rw[Below.heap_setCell _ _ _ _ oB,Below.heap_setCell _ _ _ _ oB]
 exact⟨(hk _ nU).trans h.x,(hk _ nU).trans h.y,(hk _ nU).trans h.z1,(hk _ nU).trans h.z2,(hk _ nU).trans h.pa,(hk _ nU).trans h.qb,(hk _ nU).trans h.row,Zz h.rb false u,h1,h2,h3,h4,(h.bel.setCell (p:=⟨R,0,none⟩) oB _).setCell (p:=⟨R,1,none⟩) oB _⟩
theorem Nu.set {w wr:World}{bx by':Bool}{sx sy:Value}{p q M R:Nat}{qs:List Nat}{rs:Value}(h:Nu w wr bx by' sx sy p q M R qs rs)(i d:Nat):Nu w (wr.setCell ⟨M,i,none⟩ (.int .i64 (d:Int))) bx by' sx sy p q M R (qs.set i d) rs:=by
 have h1:=h.pM;have h2:=h.qM;have h3:=h.zM;have h4:=h.MR;have hk:∀k,k≠M->(wr.setCell ⟨M,i,none⟩ (.int .i64 (d:Int))).heap[k]? =wr.heap[k]?:=fun k hk=>Below.heap_setCell _ _ _ _ (by simpa using hk)
 refine⟨(hk _ nU).trans h.x,(hk _ nU).trans h.y,(hk _ nU).trans h.z1,(hk _ nU).trans h.z2,(hk _ nU).trans h.pa,(hk _ nU).trans h.qb,?_,(hk _ nU).trans h.rb,h1,h2,h3,h4,h.bel.setCell (p:=⟨M,i,none⟩) oB _⟩;simp only[World.setCell,Array.getElem?_modify,h.row];simp [C3,List.map_set]
theorem Nu.digits {w wr:World}{bx by':Bool}{sx sy:Value}{p q M R:Nat}{qs:List Nat}{rs:Value}(h:Nu w wr bx by' sx sy p q M R qs rs)(hl:qs.length<=1000000):(∀i,wr.frozen? ⟨M,i,none⟩=false)/\Ch wr (.slice (some ⟨M,0,none⟩) qs.length qs.length) qs:=
 ⟨fun i=>by simp only[World.frozen?,h.row];simp,hl,some ⟨M,0,none⟩,qs.length,rfl,Ak _,fun i hi=>⟨M,0,rfl,by
  simp only[World.cell?,h.row]
  simp [C3,hi]⟩⟩
theorem Zd (n:Nat)(hn:n<=1000000)(w:World):∃w',(Instr.makeSlice 41 (.int .i64 (n:Int)) (.int .i64 (n:Int))).run Tryz.prog w= .ok (.slice (some ⟨w.heap.size,0,none⟩) n n) w'/\Below w.heap.size w w'/\w'.heap[w.heap.size]? =some (.cells (C3 (List.replicate n 0)).toArray 3 (0,0)):=by
 obtain⟨w',hrun,hb,hown⟩:=Vq n hn w;refine⟨w',hrun,hb,?_⟩;rcases hown.2 with ⟨e,_⟩|⟨g,cap,cur,e,_,hgb,_,_,hcs,hct⟩
 ·cases e
 injection e with e1 _ e3;injection e1 with e1;injection e1 with e1;subst e1;subst e3;rw[hgb];congr 2;apply Array.ext';rw[List.take_of_length_le qW] at hct;rw[hct]
theorem Sj (w:World)(b1 b2 b3 b4 b5 b6:Bool)(s1 s2 s3 s4 s5 s6:Value)(t:TypeId)(W:World)(hW:((((((w.alloc (.cells #[.bool b1,s1] t)).alloc (.cells #[.bool b2,s2] t)).alloc (.cells #[.bool b3,s3] t)).alloc (.cells #[.bool b4,s4] t)).alloc (.cells #[.bool b5,s5] t)).alloc (.cells #[.bool b6,s6] t)).drew=W):
 W.heap[w.heap.size]? =some (.cells #[.bool b1,s1] t (0,0))/\W.heap[w.heap.size+1]? =some (.cells #[.bool b2,s2] t (0,0))/\W.heap[w.heap.size+2]? =some (.cells #[.bool b3,s3] t (0,0))/\W.heap[w.heap.size+3]? =some (.cells #[.bool b4,s4] t (0,0))/\W.heap[w.heap.size+4]? =some (.cells #[.bool b5,s5] t (0,0))/\W.heap[w.heap.size+5]? =some (.cells #[.bool b6,s6] t (0,0))/\W.heap.size=w.heap.size+6/\Below w.heap.size w W:=by
 subst hW;obtain⟨W1,h1⟩:∃V,w.alloc (.cells #[.bool b1,s1] t)=V:=⟨_,rfl⟩;have z1:W1.heap.size=w.heap.size+1:=by rw[←h1];simp
 have e1:W1.heap[w.heap.size]? =some (.cells #[.bool b1,s1] t (0,0)):=by rw[←h1];exact A0 _ _
 have k1:∀j,j<w.heap.size->W1.heap[j]? =w.heap[j]?:=fun j hj=>by rw[←h1];exact Below.heap_alloc _ _ _ hj
 have b1':Below w.heap.size w W1:=by rw[←h1];exact(Aq _ w).alloc nU _
 obtain⟨W2,h2⟩:∃V,W1.alloc (.cells #[.bool b2,s2] t)=V:=⟨_,rfl⟩;have z2:W2.heap.size=w.heap.size+2:=by rw[←h2];simp [z1]
 have e2:W2.heap[w.heap.size+1]? =some (.cells #[.bool b2,s2] t (0,0)):=by rw[←h2,←z1];exact A0 _ _
 have k2:∀j,j<W1.heap.size->W2.heap[j]? =W1.heap[j]?:=fun j hj=>by rw[←h2];exact Below.heap_alloc _ _ _ hj
 have b2':Below w.heap.size w W2:=by rw[←h2];exact b1'.alloc nU _
 obtain⟨W3,h3⟩:∃V,W2.alloc (.cells #[.bool b3,s3] t)=V:=⟨_,rfl⟩;have z3:W3.heap.size=w.heap.size+3:=by rw[←h3];simp [z2]
 have e3:W3.heap[w.heap.size+2]? =some (.cells #[.bool b3,s3] t (0,0)):=by rw[←h3,←z2];exact A0 _ _
 have k3:∀j,j<W2.heap.size->W3.heap[j]? =W2.heap[j]?:=fun j hj=>by rw[←h3];exact Below.heap_alloc _ _ _ hj
 have b3':Below w.heap.size w W3:=by rw[←h3];exact b2'.alloc nU _
 obtain⟨W4,h4⟩:∃V,W3.alloc (.cells #[.bool b4,s4] t)=V:=⟨_,rfl⟩;have z4:W4.heap.size=w.heap.size+4:=by rw[←h4];simp [z3]
 have e4:W4.heap[w.heap.size+3]? =some (.cells #[.bool b4,s4] t (0,0)):=by rw[←h4,←z3];exact A0 _ _
 have k4:∀j,j<W3.heap.size->W4.heap[j]? =W3.heap[j]?:=fun j hj=>by rw[←h4];exact Below.heap_alloc _ _ _ hj
 have b4':Below w.heap.size w W4:=by rw[←h4];exact b3'.alloc nU _
 obtain⟨W5,h5⟩:∃V,W4.alloc (.cells #[.bool b5,s5] t)=V:=⟨_,rfl⟩;have z5:W5.heap.size=w.heap.size+5:=by rw[←h5];simp [z4]
 have e5:W5.heap[w.heap.size+4]? =some (.cells #[.bool b5,s5] t (0,0)):=by rw[←h5,←z4];exact A0 _ _
 have k5:∀j,j<W4.heap.size->W5.heap[j]? =W4.heap[j]?:=fun j hj=>by rw[←h5];exact Below.heap_alloc _ _ _ hj
 have b5':Below w.heap.size w W5:=by rw[←h5];exact b4'.alloc nU _
 obtain⟨W6,h6⟩:∃V,W5.alloc (.cells #[.bool b6,s6] t)=V:=⟨_,rfl⟩;have z6:W6.heap.size=w.heap.size+6:=by rw[←h6];simp [z5]
 have e6:W6.heap[w.heap.size+5]? =some (.cells #[.bool b6,s6] t (0,0)):=by rw[←h6,←z5];exact A0 _ _
 have k6:∀j,j<W5.heap.size->W6.heap[j]? =W5.heap[j]?:=fun j hj=>by rw[←h6];exact Below.heap_alloc _ _ _ hj
 have b6':Below w.heap.size w W6:=by rw[←h6];exact b5'.alloc nU _
 rw[h1,h2,h3,h4,h5,h6];exact⟨((k6 _ nU).trans ((k5 _ nU).trans ((k4 _ nU).trans ((k3 _ nU).trans ((k2 _ nU).trans e1))))),((k6 _ nU).trans ((k5 _ nU).trans ((k4 _ nU).trans ((k3 _ nU).trans e2)))),((k6 _ nU).trans ((k5 _ nU).trans ((k4 _ nU).trans e3))),((k6 _ nU).trans ((k5 _ nU).trans e4)),((k6 _ nU).trans e5),e6,z6,b6'.drew⟩
structure Ps (w W:World)(bx by':Bool)(sx sy:Value)(p q:Nat):Prop where
 x:W.heap[w.heap.size]? =some (.cells #[.bool bx,sx] 79 (0,0))
 y:W.heap[w.heap.size+1]? =some (.cells #[.bool by',sy] 79 (0,0))
 z1:W.heap[w.heap.size+2]? =some (.cells #[.bool false,.slice none 0 0] 79 (0,0))
 z2:W.heap[w.heap.size+3]? =some (.cells #[.bool false,.slice none 0 0] 79 (0,0))
 pa:W.heap[p]? =some (.cells #[.bool false,sx] 79 (0,0))
 qb:W.heap[q]? =some (.cells #[.bool false,sy] 79 (0,0))
 bel:Below w.heap.size w W
theorem Ps.at {w W W2:World}{bx by':Bool}{sx sy:Value}{p q n:Nat}(h:Ps w W bx by' sx sy p q)(hb:Below W.heap.size W W2)(hr:W2.heap[W.heap.size]? =some (.cells (C3 (List.replicate n 0)).toArray 3 (0,0))):
 Nu w (W2.alloc (.cells #[.bool false,.slice none 0 0] 79)) bx by' sx sy p q W.heap.size W2.heap.size (List.replicate n 0) (.slice none 0 0):=by
 have h2:Below W2.heap.size W2 (W2.alloc (.cells #[.bool false,.slice none 0 0] 79)):=(Aq _ _).alloc (Ak _) _
 have hk:∀k o,W.heap[k]? =some o->(W2.alloc (.cells #[.bool false,.slice none 0 0] 79)).heap[k]? =some o:=fun k o hk=>by
  have h3:=(hb.block _ (Ay hk)).trans hk;exact(h2.block _ (Ay h3)).trans h3
 exact⟨hk _ _ h.x,hk _ _ h.y,hk _ _ h.z1,hk _ _ h.z2,hk _ _ h.pa,hk _ _ h.qb,(h2.block _ (Ay hr)).trans hr,A0 _ _,Ay h.pa,Ay h.qb,Ay h.z2,Ay hr,(h.bel.trans (hb.mono h.bel.size)).trans (h2.mono (Al h.bel.size hb.size))⟩
structure I9 (xs:List Nat)(Y j r:Nat)(qs:List Nat):Prop where
 le:j<=xs.length
 r:r=nv (xs.drop j) % Y
 q:∃qd,qs=List.replicate j 0++qd/\qd.length+j=xs.length/\okD qd/\nv qd=nv (xs.drop j)/Y
theorem I9.zero (xs:List Nat)(Y:Nat):I9 xs Y xs.length 0 (List.replicate xs.length 0):=
 ⟨Ak _,by rw[List.drop_length];simp [nv],[],by simp,by simp,fun _ h=>(by cases h),by rw[List.drop_length];simp [nv]⟩
theorem I9.len {xs:List Nat}{Y j r:Nat}{qs:List Nat}(h:I9 xs Y j r qs):qs.length=xs.length:=by
 obtain⟨qd,rfl,h2,_⟩:=h.q;rw[Ab,List.length_replicate];omega
theorem mS {Y d x V:Nat}(hY:0<Y)(h1:d*Y<=x+10000*(V % Y))(h2:x+10000*(V % Y)<(d+1)*Y):(x+10000*V)/Y=d+10000*(V/Y)/\(x+10000*V) % Y=x+10000*(V % Y) - d*Y:=by
 have hV:=Nat.div_add_mod V Y
 have e:x+10000*V=(x+10000*(V % Y) - d*Y)+Y*(d+10000*(V/Y)):=by
  rw[Nat.mul_add,Nat.mul_comm Y d,Nat.mul_left_comm]
  have:10000*V=10000*(Y*(V/Y))+10000*(V % Y):=by rw[←Nat.mul_add,hV]
  omega
 have hlt:x+10000*(V % Y) - d*Y<Y:=by
  rw[Nat.add_mul,Nat.one_mul] at h2;omega
 rw[e];constructor
 ·rw[Nat.add_mul_div_left _ _ hY,Nat.div_eq_of_lt hlt,Nat.zero_add]
 rw[Nat.add_mul_mod_self_left,Nat.mod_eq_of_lt hlt]
theorem I9.step {xs:List Nat}{Y m r d:Nat}{qs:List Nat}(h:I9 xs Y (m+1) r qs)(hY:0<Y)(hm:m<xs.length)(hd:d<10000)(h1:d*Y<=xs[m]+10000*r)(h2:xs[m]+10000*r<(d+1)*Y):I9 xs Y m (xs[m]+10000*r - d*Y) (qs.set m d):=by
 have hr:=h.r;obtain⟨qd,rfl,e2,e3,e4⟩:=h.q;rw[hr] at h1 h2;obtain⟨k1,k2⟩:=mS hY h1 h2;refine⟨by omega,by rw[C8 hm,k2,hr],d::qd,?_,by simp;omega,fun x hx=>?_,by rw[nv,C8 hm,k1,e4]⟩
 ·rw[List.replicate_succ',List.append_assoc,List.set_append_right _ _ nW];simp
 rcases List.mem_cons.1 hx with rfl|hx
 ·exact hd
 exact e3 x hx
theorem I9.lt {xs:List Nat}{Y j r:Nat}{qs:List Nat}(h:I9 xs Y j r qs)(hY:0<Y):r<Y:=by rw[h.r];exact Nat.mod_lt _ hY
theorem I9.done {xs:List Nat}{Y r:Nat}{qs:List Nat}(h:I9 xs Y 0 r qs):okD qs/\nv qs=nv xs/Y/\r=nv xs % Y:=by
 obtain⟨qd,rfl,e2,e3,e4⟩:=h.q;exact⟨by simpa using e3,by simpa using e4,by simpa using h.r⟩
end Go.Proofs.YtgfakdobajgnfaaGreatDoor

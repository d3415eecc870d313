import Derived.Test.YtgfakdobajgnfaaGreatDoorQk25
set_option maxRecDepth 100000
set_option maxHeartbeats 16000000
namespace Go.Proofs.YtgfakdobajgnfaaGreatDoor
open Go Go.RowKit Go.Lib
theorem Ty {s:ByteArray}{p q:Nat}(h:q=p+Ba Bg ((dl s).drop p)):p+Ce ((dl s).drop p)=p+Cn (Ba Bg ((dl s).drop p)) ((dl s).drop q):=by
 rw[F0,List.drop_drop,h]
theorem Rt {n:Nat}{l:List UInt8}(h:l.length<=1):Cn n l=n:=by
 match l,h with
 |[],_=>rfl
 |[a],_=>unfold Cn;split<;>first|rfl|simp_all
theorem S3 {n:Nat}{c:UInt8}{r:List UInt8}(h:c≠46):Cn n (c::r)=n:=by
 unfold Cn
 split
 ·rename_i e;injection e with e;exact absurd e h
 rfl
theorem Mn {n:Nat}{c:UInt8}{r:List UInt8}:Cn n (46::c::r)=if Bg c then n+(1+Ba Bg (c::r)) else n:=rfl
theorem jP (s:ByteArray)(p:Nat)(w:World)(M:s.size<=1000000)(E:p<=s.size):Calls Tryz.prog 158 #[.string s,.int .i64 (p:Int)] w fun e w'=>e= .returned (.int .i64 ((p+Ce ((dl s).drop p):Nat):Int))/\w=w':=by
 go_enter Tryz.func158,Tryz.ntmps158;go_wp2_with fail
 go_loop [1] (fun v1=>∃q:Nat,v1= .int .i64 (q:Int)/\p<=q/\q<=s.size/\Hid (q+Ba Bg ((dl s).drop q)=p+Ba Bg ((dl s).drop p))) (fun v1=>s.size - (intOf v1).toNat)
 case atStart=>exact⟨p,rfl,Ak _,E,Ax rfl⟩
 obtain⟨q,rfl,F,G,k⟩:=hrel;by_cases hgo:q<s.size
 ·have C:decide (q<s.size)=true:=Am hgo;have N:(0:Int)<=(q:Int):=by omega
  have O:(q:Int)<(s.size:Int):=by omega
  have d:=Ax (Iy s[q] w);have h:=Ju hgo;cases hd:Bg s[q] with
  |true=>
   rw[hd] at d;have HN:=Ax (show q+1+Ba Bg ((dl s).drop (q+1))=p+Ba Bg ((dl s).drop p) by rw[←k.out,h,Fw hd];omega);clear hd h k;go_wp2_with fail;refine d.out.mono ?_;exact zxv
  |false=>
   rw[hd] at d;have f:q=p+Ba Bg ((dl s).drop p):=by rw[←k.out,h,O4 hd];omega
   have c:=Ty f;have i:=Ax f;clear hd k f;by_cases h2:q+1<s.size
   ·have D:decide (s.size<=q+1)=false:=An rF;have o:decide ((s.size:Int)<=(q:Int)+1)=false:=An rF;have u:=Ju h2;by_cases h46:s[q].toNat=46
    ·have x:((s[q].toNat:Int)==46)=true:=beq_iff_eq.2 rF;have y:((s[q].toNat:Int) !=46)=false:=by rw[bne,x];rfl
     have g:=Ax (Iy s[q+1] w);rw[h,Cd (n:=46) h46,u] at c;have R:(0:Int)<=(q:Int)+1:=by omega
     have T:(q:Int)+1<(s.size:Int):=by omega
     have U:((q:Int)+1).toNat=q+1:=by omega
     cases hd:Bg s[q+1] with
     |false=>
      rw[hd] at g;have HR:=Ax (show q=p+Ce ((dl s).drop p) by rw[c,show UInt8.ofNat 46=46 from rfl,Mn,hd,Ao rI,←i.out]);clear h u c hd h46;go_wp2_with fail;refine d.out.mono ?_;rintro e w' ⟨rfl,rfl⟩;go_wp2_with fail;refine g.out.mono ?_;exact zwg
     |true=>
      rw[hd] at g;have HR:=Ax (show q+1+Ba Bg ((dl s).drop (q+1))=p+Ce ((dl s).drop p) by rw[c,show UInt8.ofNat 46=46 from rfl,Mn,hd,Ap rfl,u];have:=i.out;omega);clear h u c hd h46;go_wp2_with fail;refine d.out.mono ?_;rintro e w' ⟨rfl,rfl⟩;go_wp2_with fail;refine g.out.mono ?_;rintro e w' ⟨rfl,rfl⟩;clear d g C;go_wp2_with fail
      go_loop [1] (fun v1=>∃r:Nat,v1= .int .i64 (r:Int)/\r<=s.size/\Hid (r+Ba Bg ((dl s).drop r)=q+1+Ba Bg ((dl s).drop (q+1)))) (fun v1=>s.size - (intOf v1).toNat)
      case atStart=>exact⟨q+1,by go_num,by omega,Ax rfl⟩
      obtain⟨r,rfl,I,m⟩:=hrel;by_cases hgr:r<s.size
      ·have L:decide (r<s.size)=true:=Am hgr;have V:(0:Int)<=(r:Int):=by omega
       have W:(r:Int)<(s.size:Int):=by omega
       have j:=Ax (Iy s[r] w);have v:=Ju hgr;cases hd:Bg s[r] with
       |true=>
        rw[hd] at j;have HN:=Ax (show r+1+Ba Bg ((dl s).drop (r+1))=q+1+Ba Bg ((dl s).drop (q+1)) by rw[←m.out,v,Fw hd];omega);clear hd v m;go_wp2_with fail;refine j.out.mono ?_;rintro e w' ⟨rfl,rfl⟩;go_wp2_with fail
        go_round
        case rel=>exact⟨r+1,by go_num,by omega,HN⟩
        case measure=>simp [intOf]<;>omega
       |false=>
        rw[hd] at j;have A:=Ax (show r=p+Ce ((dl s).drop p) by rw[←HR.out,←m.out,v,O4 hd];omega);clear hd v m;go_wp2_with fail;refine j.out.mono ?_;rintro e w' ⟨rfl,rfl⟩;go_wp2_with fail;go_ret;exact⟨Jo A.out,rfl⟩
      have L:decide (r<s.size)=false:=An hgr;have A:=Ax (show r=p+Ce ((dl s).drop p) by rw[←HR.out,←m.out,G2 rF];rfl);clear m;go_wp2_with fail;go_ret;exact⟨Jo A.out,rfl⟩
    have x:((s[q].toNat:Int)==46)=false:=Af.2 rF;have y:((s[q].toNat:Int) !=46)=true:=by rw[bne,x];rfl
    have HR:=Ax (show q=p+Ce ((dl s).drop p) by rw[c,h,S3 (fun e=>h46 rU),←i.out]);clear h u c;go_wp2_with fail;refine d.out.mono ?_;exact zwg
   have D:decide (s.size<=q+1)=true:=Am rF;have o:decide ((s.size:Int)<=(q:Int)+1)=true:=Am rF;have HR:=Ax (show q=p+Ce ((dl s).drop p) by rw[c,Rt tR,←i.out]);clear h c;go_wp2_with fail;refine d.out.mono ?_;exact zwg
 have C:decide (q<s.size)=false:=An hgo;have f:q=p+Ba Bg ((dl s).drop p):=by rw[←k.out,G2 rF];rfl
 have c:=Ty f;have HR:=Ax (show q=p+Ce ((dl s).drop p) by rw[c,Rt tR,←f]);have D:decide (s.size<=q+1)=true:=Am rF;have o:decide ((s.size:Int)<=(q:Int)+1)=true:=Am rF;clear k f c;go_wp2_with fail;go_ret;exact⟨Jo HR.out,rfl⟩
def S7 (p:Nat)(l:List UInt8):Int:=if(l.drop (1+Bd false l.tail)).head? =some 34 then((p+Bd false l.tail+2:Nat):Int) else -1
theorem iV {s:ByteArray}{p i:Nat}(c:p<s.size)(h:i=p+1+Bd false ((dl s).drop (p+1)))(d:i<s.size)(f:s[i]=34):S7 p ((dl s).drop p)=((i+1:Nat):Int):=by
 have e:((dl s).drop p).tail=(dl s).drop (p+1):=by rw[Ju c];rfl
 unfold S7;rw[e,List.drop_drop,show p+(1+Bd false ((dl s).drop (p+1)))=i by omega,Ju d,f,Ap (show(34::(dl s).drop (i+1)).head? =some 34 from rfl)];omega
theorem nB {s:ByteArray}{p i:Nat}(c:p<s.size)(h:i=p+1+Bd false ((dl s).drop (p+1)))(d:((dl s).drop i).head?≠some 34):S7 p ((dl s).drop p)= -1:=by
 have e:((dl s).drop p).tail=(dl s).drop (p+1):=by rw[Ju c];rfl
 unfold S7;rw[e,List.drop_drop,show p+(1+Bd false ((dl s).drop (p+1)))=i by omega,Ao d]
theorem Vk {c:UInt8}(h:c.toNat<32\/126<c.toNat):El c=false:=by
 unfold El;rcases h with h|h
 ·rw[An rF,Bool.false_and]
 rw[An (show ¬c.toNat<=126 by omega),Bool.and_false]
theorem cH {c:UInt8}(h:32<=c.toNat)(d:c.toNat<=126):El c=true:=by
 unfold El;rw[Am h,Am d];rfl
theorem R5 {a:Int}(h:a= -1):Ending.returned (.int .i64 (-1))= .returned (.int .i64 a):=by rw[h]
theorem nA {a:Int}{i:Nat}(h:a=((i:Nat):Int)):Ending.returned (.int .i64 ((i:Nat):Int))= .returned (.int .i64 a):=by rw[h]
theorem gC (s:ByteArray)(p:Nat)(w:World)(O:s.size<=1000000)(A:p<s.size):Calls Tryz.prog 160 #[.string s,.int .i64 (p:Int)] w fun e w'=>e= .returned (.int .i64 (S7 p ((dl s).drop p)))/\w=w':=by
 obtain⟨R,u⟩:∃R,S7 p ((dl s).drop p)=R:=⟨_,rfl⟩;rw[u];have q:Hid (∀i,i=p+1+Bd false ((dl s).drop (p+1))->∀C:i<s.size,s[i]=34->R=((i+1:Nat):Int)):=Ax fun i h C v=>by rw[←u];exact iV A h C v
 have j:Hid (∀i,i=p+1+Bd false ((dl s).drop (p+1))->((dl s).drop i).head?≠some 34->R= -1):=Ax fun i h v=>by rw[←u];exact nB A h v
 clear u;go_enter Tryz.func160,Tryz.ntmps160;go_wp2_with fail
 go_loop [5] (fun v5=>∃i:Nat,v5= .int .i64 (i:Int)/\p+1<=i/\i<=s.size+1/\Hid (i+Bd false ((dl s).drop i)=p+1+Bd false ((dl s).drop (p+1))\/s.size<i/\R= -1)) (fun v5=>s.size+1 - (intOf v5).toNat)
 case atStart=>exact⟨p+1,by go_num,Ak _,by omega,Ax (.inl rfl)⟩
 obtain⟨i,rfl,x,r,g⟩:=hrel;by_cases hgo:i<s.size
 ·have D:decide (i<s.size)=true:=Am hgo;have T:(0:Int)<=(i:Int):=by omega
  have U:(i:Int)<(s.size:Int):=by omega
  have g:=g.out.resolve_right rF;have k:=Ju hgo;have V:=Ax (And.intro x r);clear r;by_cases hlo:s[i].toNat<32
  ·have E:decide ((s[i].toNat:Int)<32)=true:=Am rF;have HR:=Ax (j.out i (by rw[←g,k,Ci,Ap (by rw[Vk (.inl hlo)];simp)];omega) (by rw[k];intro e;have:=Option.some.inj e;rw[this] at hlo;revert hlo;decide));clear g k;exact zw6
  have E:decide ((s[i].toNat:Int)<32)=false:=An rF;by_cases hhi:126<s[i].toNat
  ·have F:decide ((126:Int)<(s[i].toNat:Int))=true:=Am rF;have HR:=Ax (j.out i (by rw[←g,k,Ci,Ap (by rw[Vk (.inr hhi)];simp)];omega) (by rw[k];intro e;have:=Option.some.inj e;rw[this] at hhi;revert hhi;decide));clear g k;exact zw6
  have F:decide ((126:Int)<(s[i].toNat:Int))=false:=An rF;have m:=cH (c:=s[i]) rF rF;by_cases h34:s[i].toNat=34
  ·have G:((s[i].toNat:Int)==34)=true:=beq_iff_eq.2 rF;have d:s[i]=34:=Cd h34;have HR:=Ax (q.out i (by rw[←g,k,Ci,Ap (by rw[d];rfl)];omega) hgo d);clear g k m d;go_wp2_with fail;go_ret;exact⟨nA HR.out,rfl⟩
  have G:((s[i].toNat:Int)==34)=false:=Af.2 rF;have d:(s[i]==34)=false:=Af.2 (fun e=>h34 rU);by_cases h92:s[i].toNat=92
  ·have I:((s[i].toNat:Int)==92)=true:=beq_iff_eq.2 rF;have n:s[i]=92:=Cd h92
   have f:i+1+Bd true ((dl s).drop (i+1))=p+1+Bd false ((dl s).drop (p+1)):=by
    rw[←g,k,Ci,Ao (by rw[d,m];simp),n];show i+1+Bd true _=i+(1+Bd true _);omega
   clear g k m d n;by_cases h2:i+1<s.size
   ·have L:decide ((i:Int)+1<(s.size:Int))=true:=Am rF;have W:(0:Int)<=(i:Int)+1:=by omega
    have X:(i:Int)+1<(s.size:Int):=by omega
    have Y:((i:Int)+1).toNat=i+1:=by omega
    have o:=Ju h2;by_cases hlo2:s[i+1].toNat<32
    ·have M:decide ((s[i+1].toNat:Int)<32)=true:=Am rF;have HR:=Ax (j.out (i+1) (by rw[←f,o,Ci,Ap (by rw[Vk (.inl hlo2)];simp)]<;>omega) (by rw[o];intro e;have:=Option.some.inj e;rw[this] at hlo2;revert hlo2;decide));clear f o;exact zw6
    have M:decide ((s[i+1].toNat:Int)<32)=false:=An rF;by_cases hhi2:126<s[i+1].toNat
    ·have N:decide ((126:Int)<(s[i+1].toNat:Int))=true:=Am rF;have HR:=Ax (j.out (i+1) (by rw[←f,o,Ci,Ap (by rw[Vk (.inr hhi2)];simp)]<;>omega) (by rw[o];intro e;have:=Option.some.inj e;rw[this] at hhi2;revert hhi2;decide));clear f o;exact zw6
    have N:decide ((126:Int)<(s[i+1].toNat:Int))=false:=An rF
    have y:=Ax (show i+2+Bd false ((dl s).drop (i+2))=p+1+Bd false ((dl s).drop (p+1)) by
     rw[←f,o,Ci,Ao (by rw[cH (c:=s[i+1]) rF rF];simp)];simp only[Bool.not_true,Bool.and_false];rw[show i+2=i+1+1 from rfl]
     omega)
    clear f o;go_wp2_with fail
    go_round
    case rel=>exact⟨i+2,by go_num,by omega,by omega,Ax (.inl y.out)⟩
    case measure=>simp [intOf]<;>omega
   have L:decide ((i:Int)+1<(s.size:Int))=false:=An rF;have HR:=Ax (j.out (i+1) (by rw[←f,G2 rF];rfl) (by rw[G2 rF];simp));clear f;go_wp2_with fail
   go_round
   case rel=>exact⟨i+2,by go_num,by omega,by omega,Ax (.inr ⟨by omega,HR.out⟩)⟩
   case measure=>simp [intOf]<;>omega
  have I:((s[i].toNat:Int)==92)=false:=Af.2 rF;have n:(s[i]==92)=false:=Af.2 (fun e=>h92 rU)
  have y:=Ax (show i+1+Bd false ((dl s).drop (i+1))=p+1+Bd false ((dl s).drop (p+1)) by
   rw[←g,k,Ci,Ao (by rw[d,m];simp),n];simp only[Bool.false_and]
   omega)
  clear g k m d n;go_wp2_with fail
  go_round
  case rel=>exact⟨i+1,by go_num,by omega,by omega,Ax (.inl y.out)⟩
  case measure=>simp [intOf]<;>omega
 have D:decide (i<s.size)=false:=An hgo
 have HR:Hid (R= -1):=Ax (by
  rcases g.out with h|h
  ·exact j.out i (by rw[←h,G2 rF];rfl) (by rw[G2 rF];simp)
  exact h.2)
 clear g;exact zw6
open Go Go.RowKit Go.Lib
def Jt (l:List UInt8):Nat:=if l.take 2∈Jy then 2 else if l.take 1∈Lu.map (fun c=>[c]) then 1 else 0
theorem Va (l:List UInt8):F5 l=if Jt l=0 then .error 4 else .ok (⟨7,l.take (Jt l),v0⟩,Jt l):=by
 unfold F5 Jt;by_cases h:l.take 2∈Jy
 ·rw[Ap h,Ap h];rfl
 rw[Ao h,Ao h];by_cases h1:l.take 1∈Lu.map fun c=>[c]
 ·rw[Ap h1,Ap h1];rfl
 rw[Ao h1,Ao h1];rfl
def C4 (p:Nat)(l:List UInt8):Int:=if Jt l=0 then -1 else((p+Jt l:Nat):Int)
theorem Vt {c:UInt8}{r:List UInt8}:(c::r).take 1∈Lu.map (fun c=>[c])↔c∈Lu:=by
 rw[show(c::r).take 1=[c] from rfl,List.mem_map];constructor
 ·rintro ⟨x,h,e⟩;injection e with e;rw[←e];exact h
 exact fun h=>⟨c,h,rfl⟩
theorem L2 {p:Nat}{l:List UInt8}(h:l.take 2∈Jy):C4 p l=((p+2:Nat):Int):=by unfold C4 Jt;rw[Ap h];rfl
theorem Bv {p:Nat}{c:UInt8}{r:List UInt8}(h:(c::r).take 2∉Jy)(d:c∈Lu):C4 p (c::r)=((p+1:Nat):Int):=by unfold C4 Jt;rw[Ao h,Ap (Vt.2 d)];rfl
theorem Wy {p:Nat}{c:UInt8}{r:List UInt8}(h:(c::r).take 2∉Jy)(d:c∉Lu):C4 p (c::r)= -1:=by unfold C4 Jt;rw[Ao h,Ao (fun q=>d (Vt.1 q))];rfl
theorem Xj {l:List UInt8}(c:l≠[60,61])(d:l≠[62,61])(e:l≠[60,62])(f:l≠[46,46]):l∉Jy:=by
 unfold Jy;simp only[List.mem_cons,List.not_mem_nil,or_false,not_or];exact⟨c,d,e,f⟩
theorem Zi {l:List UInt8}(h:l.length<2):l∉Jy:=fun q=>by
 unfold Jy at q;simp only[List.mem_cons,List.not_mem_nil,or_false] at q;rcases q with rfl|rfl|rfl|rfl<;>simp at h
theorem Cu {a b:Int}(h:a=b):Ending.returned (.int .i64 b)= .returned (.int .i64 a):=by rw[h]
theorem eR (s:ByteArray)(p:Nat)(w:World)(q:s.size<=1000000)(k:p<s.size):Calls Tryz.prog 161 #[.string s,.int .i64 (p:Int)] w fun e w'=>e= .returned (.int .i64 (C4 p ((dl s).drop p)))/\w=w':=by
 have e1:=Ju k;have r:(0:Int)<=(p:Int):=by omega
 have u:(p:Int)<(s.size:Int):=by omega
 go_enter Tryz.func161,Tryz.ntmps161;by_cases h2:p+1<s.size
 ·have m:decide ((p:Int)+1<(s.size:Int))=true:=Am rF;have g:=Dm s (p:Int) ((p:Int)+2) rF rF rF;rw[show((p:Int)).toNat=p by omega,show((p:Int)+2).toNat=p+2 by omega] at g;obtain⟨X,f⟩:∃X,s.extract p (p+2)=X:=⟨_,rfl⟩;have d:((dl s).drop p).take 2=dl X:=by rw[←f,Ep,Nat.add_sub_cancel_left]
  rw[f] at g;have c:True:=trivial;clear f;by_cases w0:dl X=[60,61]
  ·have h:(X.toList==[60,61])=true:=by rw[A0,w0];rfl
   have HR:=Ax (show C4 p ((dl s).drop p)=((p+2:Nat):Int) from L2 (by rw[d,w0];decide));clear e1 d c w0;exact zzm
  have h:(X.toList==[60,61])=false:=by rw[A0];exact Af.2 w0
  by_cases w1:dl X=[62,61]
  ·have i:(X.toList==[62,61])=true:=by rw[A0,w1];rfl
   have h:(X.toList==[60,61])=false:=by rw[A0,w1];rfl
   have HR:=Ax (show C4 p ((dl s).drop p)=((p+2:Nat):Int) from L2 (by rw[d,w1];decide));clear e1 d c w0 w1;exact zzm
  have i:(X.toList==[62,61])=false:=by rw[A0];exact Af.2 w1
  by_cases w2:dl X=[60,62]
  ·have j:(X.toList==[60,62])=true:=by rw[A0,w2];rfl
   have h:(X.toList==[60,61])=false:=by rw[A0,w2];rfl
   have i:(X.toList==[62,61])=false:=by rw[A0,w2];rfl
   have HR:=Ax (show C4 p ((dl s).drop p)=((p+2:Nat):Int) from L2 (by rw[d,w2];decide));clear e1 d c w0 w1 w2;exact zzm
  have j:(X.toList==[60,62])=false:=by rw[A0];exact Af.2 w2
  by_cases w3:dl X=[46,46]
  ·have o:(X.toList==[46,46])=true:=by rw[A0,w3];rfl
   have h:(X.toList==[60,61])=false:=by rw[A0,w3];rfl
   have i:(X.toList==[62,61])=false:=by rw[A0,w3];rfl
   have j:(X.toList==[60,62])=false:=by rw[A0,w3];rfl
   have HR:=Ax (show C4 p ((dl s).drop p)=((p+2:Nat):Int) from L2 (by rw[d,w3];decide));clear e1 d c w0 w1 w2 w3;exact zzm
  have o:(X.toList==[46,46])=false:=by rw[A0];exact Af.2 w3
  have HT:=Ax (show((dl s).drop p).take 2∉Jy by rw[d];exact Xj w0 w1 w2 w3);clear d w0 w1 w2 w3 c;exact zz5
 have m:decide ((p:Int)+1<(s.size:Int))=false:=An rF;have HT:=Ax (show((dl s).drop p).take 2∉Jy from Zi (by rw[List.length_take,List.length_drop,A5];omega));exact zz5
end Go.Proofs.YtgfakdobajgnfaaGreatDoor

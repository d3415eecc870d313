import Derived.Test.YtmpfilddeglgbaaGreatDoorQj25
set_option maxRecDepth 100000
set_option maxHeartbeats 16000000
namespace Go.Proofs.YtmpfilddeglgbaaGreatDoor
open Go Go.RowKit Go.Lib
theorem Uy {s:ByteArray}{p q:Nat}(h:q=p+A5 Bb ((dl s).drop p)):p+Br ((dl s).drop p)=p+Cj (A5 Bb ((dl s).drop p)) ((dl s).drop q):=by
 rw[Fz,List.drop_drop,h]
theorem Tp {n:Nat}{l:List UInt8}(h:l.length<=1):Cj n l=n:=by
 match l,h with
 |[],_=>rfl
 |[a],_=>unfold Cj;split<;>first|rfl|simp_all
theorem Uj {n:Nat}{c:UInt8}{r:List UInt8}(h:c≠46):Cj n (c::r)=n:=by
 unfold Cj
 split
 ·rename_i e;injection e with e;exact absurd e h
 rfl
theorem N8 {n:Nat}{c:UInt8}{r:List UInt8}:Cj n (46::c::r)=if Bb c then n+(1+A5 Bb (c::r)) else n:=rfl
theorem nI (s:ByteArray)(p:Nat)(w:World)(hs:s.size<=1000000)(hp:p<=s.size):Calls Tryz.prog 92 #[.string s,.int .i64 (p:Int)] w fun e w'=>e= .returned (.int .i64 ((p+Br ((dl s).drop p):Nat):Int))/\w=w':=by
 go_enter Tryz.func92,Tryz.ntmps92;go_wp2_with fail
 go_loop [1] (fun v1=>∃q:Nat,v1= .int .i64 (q:Int)/\p<=q/\q<=s.size/\Hid (q+A5 Bb ((dl s).drop q)=p+A5 Bb ((dl s).drop p))) (fun v1=>s.size - (intOf v1).toNat)
 case atStart=>exact⟨p,rfl,Ak _,hp,Ax rfl⟩
 obtain⟨q,rfl,hpq,hqs,hq⟩:=hrel;by_cases hgo:q<s.size
 ·have d0:decide (q<s.size)=true:=Am hgo;have q0:(0:Int)<=(q:Int):=by omega
  have q1:(q:Int)<(s.size:Int):=by omega
  have HD2:=Ax (J6 s[q] w);have e1:=Kq hgo;cases hd:Bb s[q] with
  |true=>
   rw[hd] at HD2;have HN:=Ax (show q+1+A5 Bb ((dl s).drop (q+1))=p+A5 Bb ((dl s).drop p) by rw[←hq.out,e1,Gm hd];omega);clear hd e1 hq;go_wp2_with fail;refine HD2.out.mono ?_;exact zyc
  |false=>
   rw[hd] at HD2;have hqe:q=p+A5 Bb ((dl s).drop p):=by rw[←hq.out,e1,Pk hd];omega
   have hnl:=Uy hqe;have HQE:=Ax hqe;clear hd hq hqe;by_cases h2:q+1<s.size
   ·have d3:decide (s.size<=q+1)=false:=An tE;have d3':decide ((s.size:Int)<=(q:Int)+1)=false:=An tE;have e2:=Kq h2;by_cases h46:s[q].toNat=46
    ·have d4:((s[q].toNat:Int)==46)=true:=beq_iff_eq.2 tE;have d4':((s[q].toNat:Int) !=46)=false:=by rw[bne,d4];rfl
     have HD3:=Ax (J6 s[q+1] w);rw[e1,Ci (n:=46) h46,e2] at hnl;have q2:(0:Int)<=(q:Int)+1:=by omega
     have q3:(q:Int)+1<(s.size:Int):=by omega
     have ix:((q:Int)+1).toNat=q+1:=by omega
     cases hd:Bb s[q+1] with
     |false=>
      rw[hd] at HD3;have HR:=Ax (show q=p+Br ((dl s).drop p) by rw[hnl,show UInt8.ofNat 46=46 from rfl,N8,hd,Ao tH,←HQE.out]);clear e1 e2 hnl hd h46;go_wp2_with fail;refine HD2.out.mono ?_;rintro e w' ⟨rfl,rfl⟩;go_wp2_with fail;refine HD3.out.mono ?_;exact zw3
     |true=>
      rw[hd] at HD3;have HR:=Ax (show q+1+A5 Bb ((dl s).drop (q+1))=p+Br ((dl s).drop p) by rw[hnl,show UInt8.ofNat 46=46 from rfl,N8,hd,Ap rfl,e2];have:=HQE.out;omega);clear e1 e2 hnl hd h46;go_wp2_with fail;refine HD2.out.mono ?_;rintro e w' ⟨rfl,rfl⟩;go_wp2_with fail;refine HD3.out.mono ?_;rintro e w' ⟨rfl,rfl⟩;clear HD2 HD3 d0;go_wp2_with fail
      go_loop [1] (fun v1=>∃r:Nat,v1= .int .i64 (r:Int)/\r<=s.size/\Hid (r+A5 Bb ((dl s).drop r)=q+1+A5 Bb ((dl s).drop (q+1)))) (fun v1=>s.size - (intOf v1).toNat)
      case atStart=>exact⟨q+1,by go_num,by omega,Ax rfl⟩
      obtain⟨r,rfl,hrs,hr⟩:=hrel;by_cases hgr:r<s.size
      ·have d5:decide (r<s.size)=true:=Am hgr;have q5:(0:Int)<=(r:Int):=by omega
       have q6:(r:Int)<(s.size:Int):=by omega
       have HD4:=Ax (J6 s[r] w);have e3:=Kq hgr;cases hd:Bb s[r] with
       |true=>
        rw[hd] at HD4;have HN:=Ax (show r+1+A5 Bb ((dl s).drop (r+1))=q+1+A5 Bb ((dl s).drop (q+1)) by rw[←hr.out,e3,Gm hd];omega);clear hd e3 hr;go_wp2_with fail;refine HD4.out.mono ?_;rintro e w' ⟨rfl,rfl⟩;go_wp2_with fail
        go_round
        case rel=>exact⟨r+1,by go_num,by omega,HN⟩
        case measure=>simp [intOf]<;>omega
       |false=>
        rw[hd] at HD4;have HE:=Ax (show r=p+Br ((dl s).drop p) by rw[←HR.out,←hr.out,e3,Pk hd];omega);clear hd e3 hr;go_wp2_with fail;refine HD4.out.mono ?_;rintro e w' ⟨rfl,rfl⟩;go_wp2_with fail;go_ret;exact⟨Kn HE.out,rfl⟩
      have d5:decide (r<s.size)=false:=An hgr;have HE:=Ax (show r=p+Br ((dl s).drop p) by rw[←HR.out,←hr.out,Ie tE];rfl);clear hr;go_wp2_with fail;go_ret;exact⟨Kn HE.out,rfl⟩
    have d4:((s[q].toNat:Int)==46)=false:=Af.2 tE;have d4':((s[q].toNat:Int) !=46)=true:=by rw[bne,d4];rfl
    have HR:=Ax (show q=p+Br ((dl s).drop p) by rw[hnl,e1,Uj (fun e=>h46 tU),←HQE.out]);clear e1 e2 hnl;go_wp2_with fail;refine HD2.out.mono ?_;exact zw3
   have d3:decide (s.size<=q+1)=true:=Am tE;have d3':decide ((s.size:Int)<=(q:Int)+1)=true:=Am tE;have HR:=Ax (show q=p+Br ((dl s).drop p) by rw[hnl,Tp vN,←HQE.out]);clear e1 hnl;go_wp2_with fail;refine HD2.out.mono ?_;exact zw3
 have d0:decide (q<s.size)=false:=An hgo;have hqe:q=p+A5 Bb ((dl s).drop p):=by rw[←hq.out,Ie tE];rfl
 have hnl:=Uy hqe;have HR:=Ax (show q=p+Br ((dl s).drop p) by rw[hnl,Tp vN,←hqe]);have d3:decide (s.size<=q+1)=true:=Am tE;have d3':decide ((s.size:Int)<=(q:Int)+1)=true:=Am tE;clear hq hqe hnl;go_wp2_with fail;go_ret;exact⟨Kn HR.out,rfl⟩
def Uq (p:Nat)(l:List UInt8):Int:=if(l.drop (1+A7 false l.tail)).head? =some 34 then((p+A7 false l.tail+2:Nat):Int) else -1
theorem lE {s:ByteArray}{p i:Nat}(hp:p<s.size)(h:i=p+1+A7 false ((dl s).drop (p+1)))(hi:i<s.size)(hc:s[i]=34):Uq p ((dl s).drop p)=((i+1:Nat):Int):=by
 have e:((dl s).drop p).tail=(dl s).drop (p+1):=by rw[Kq hp];rfl
 unfold Uq;rw[e,List.drop_drop,show p+(1+A7 false ((dl s).drop (p+1)))=i by omega,Kq hi,hc,Ap (show(34::(dl s).drop (i+1)).head? =some 34 from rfl)];omega
theorem rE {s:ByteArray}{p i:Nat}(hp:p<s.size)(h:i=p+1+A7 false ((dl s).drop (p+1)))(hi:((dl s).drop i).head?≠some 34):Uq p ((dl s).drop p)= -1:=by
 have e:((dl s).drop p).tail=(dl s).drop (p+1):=by rw[Kq hp];rfl
 unfold Uq;rw[e,List.drop_drop,show p+(1+A7 false ((dl s).drop (p+1)))=i by omega,Ao hi]
theorem Xr {c:UInt8}(h:c.toNat<32\/126<c.toNat):G7 c=false:=by
 unfold G7;rcases h with h|h
 ·rw[An tE,Bool.false_and]
 rw[An (show ¬c.toNat<=126 by omega),Bool.and_false]
theorem dT {c:UInt8}(h:32<=c.toNat)(h':c.toNat<=126):G7 c=true:=by
 unfold G7;rw[Am h,Am h'];rfl
theorem Tw {a:Int}(h:a= -1):Ending.returned (.int .i64 (-1))= .returned (.int .i64 a):=by rw[h]
theorem pU {a:Int}{i:Nat}(h:a=((i:Nat):Int)):Ending.returned (.int .i64 ((i:Nat):Int))= .returned (.int .i64 a):=by rw[h]
theorem fT (s:ByteArray)(p:Nat)(w:World)(hs:s.size<=1000000)(hp:p<s.size):Calls Tryz.prog 94 #[.string s,.int .i64 (p:Int)] w fun e w'=>e= .returned (.int .i64 (Uq p ((dl s).drop p)))/\w=w':=by
 obtain⟨R,hR⟩:∃R,Uq p ((dl s).drop p)=R:=⟨_,rfl⟩;rw[hR];have HYES:Hid (∀i,i=p+1+A7 false ((dl s).drop (p+1))->∀hi:i<s.size,s[i]=34->R=((i+1:Nat):Int)):=Ax fun i h hi hc=>by rw[←hR];exact lE hp h hi hc
 have HNO:Hid (∀i,i=p+1+A7 false ((dl s).drop (p+1))->((dl s).drop i).head?≠some 34->R= -1):=Ax fun i h hc=>by rw[←hR];exact rE hp h hc
 clear hR;go_enter Tryz.func94,Tryz.ntmps94;go_wp2_with fail
 go_loop [5] (fun v5=>∃i:Nat,v5= .int .i64 (i:Int)/\p+1<=i/\i<=s.size+1/\Hid (i+A7 false ((dl s).drop i)=p+1+A7 false ((dl s).drop (p+1))\/s.size<i/\R= -1)) (fun v5=>s.size+1 - (intOf v5).toNat)
 case atStart=>exact⟨p+1,by go_num,Ak _,by omega,Ax (.inl rfl)⟩
 obtain⟨i,rfl,hpi,his,hq⟩:=hrel;by_cases hgo:i<s.size
 ·have d0:decide (i<s.size)=true:=Am hgo;have q0:(0:Int)<=(i:Int):=by omega
  have q1:(i:Int)<(s.size:Int):=by omega
  have hq:=hq.out.resolve_right tE;have e1:=Kq hgo;have HI:=Ax (And.intro hpi his);clear his;by_cases hlo:s[i].toNat<32
  ·have d1:decide ((s[i].toNat:Int)<32)=true:=Am tE;have HR:=Ax (HNO.out i (by rw[←hq,e1,B6,Ap (by rw[Xr (.inl hlo)];simp)];omega) (by rw[e1];intro e;have:=Option.some.inj e;rw[this] at hlo;revert hlo;decide));clear hq e1;exact zxm
  have d1:decide ((s[i].toNat:Int)<32)=false:=An tE;by_cases hhi:126<s[i].toNat
  ·have d2:decide ((126:Int)<(s[i].toNat:Int))=true:=Am tE;have HR:=Ax (HNO.out i (by rw[←hq,e1,B6,Ap (by rw[Xr (.inr hhi)];simp)];omega) (by rw[e1];intro e;have:=Option.some.inj e;rw[this] at hhi;revert hhi;decide));clear hq e1;exact zxm
  have d2:decide ((126:Int)<(s[i].toNat:Int))=false:=An tE;have hpr:=dT (c:=s[i]) tE tE;by_cases h34:s[i].toNat=34
  ·have d3:((s[i].toNat:Int)==34)=true:=beq_iff_eq.2 tE;have c34:s[i]=34:=Ci h34;have HR:=Ax (HYES.out i (by rw[←hq,e1,B6,Ap (by rw[c34];rfl)];omega) hgo c34);clear hq e1 hpr c34;go_wp2_with fail;go_ret;exact⟨pU HR.out,rfl⟩
  have d3:((s[i].toNat:Int)==34)=false:=Af.2 tE;have c34:(s[i]==34)=false:=Af.2 (fun e=>h34 tU);by_cases h92:s[i].toNat=92
  ·have d4:((s[i].toNat:Int)==92)=true:=beq_iff_eq.2 tE;have c92:s[i]=92:=Ci h92
   have hq2:i+1+A7 true ((dl s).drop (i+1))=p+1+A7 false ((dl s).drop (p+1)):=by
    rw[←hq,e1,B6,Ao (by rw[c34,hpr];simp),c92];show i+1+A7 true _=i+(1+A7 true _);omega
   clear hq e1 hpr c34 c92;by_cases h2:i+1<s.size
   ·have d5:decide ((i:Int)+1<(s.size:Int))=true:=Am tE;have q2:(0:Int)<=(i:Int)+1:=by omega
    have q3:(i:Int)+1<(s.size:Int):=by omega
    have ix:((i:Int)+1).toNat=i+1:=by omega
    have e2:=Kq h2;by_cases hlo2:s[i+1].toNat<32
    ·have d6:decide ((s[i+1].toNat:Int)<32)=true:=Am tE;have HR:=Ax (HNO.out (i+1) (by rw[←hq2,e2,B6,Ap (by rw[Xr (.inl hlo2)];simp)]<;>omega) (by rw[e2];intro e;have:=Option.some.inj e;rw[this] at hlo2;revert hlo2;decide));clear hq2 e2;exact zxm
    have d6:decide ((s[i+1].toNat:Int)<32)=false:=An tE;by_cases hhi2:126<s[i+1].toNat
    ·have d7:decide ((126:Int)<(s[i+1].toNat:Int))=true:=Am tE;have HR:=Ax (HNO.out (i+1) (by rw[←hq2,e2,B6,Ap (by rw[Xr (.inr hhi2)];simp)]<;>omega) (by rw[e2];intro e;have:=Option.some.inj e;rw[this] at hhi2;revert hhi2;decide));clear hq2 e2;exact zxm
    have d7:decide ((126:Int)<(s[i+1].toNat:Int))=false:=An tE
    have HN:=Ax (show i+2+A7 false ((dl s).drop (i+2))=p+1+A7 false ((dl s).drop (p+1)) by
     rw[←hq2,e2,B6,Ao (by rw[dT (c:=s[i+1]) tE tE];simp)];simp only[Bool.not_true,Bool.and_false];rw[show i+2=i+1+1 from rfl]
     omega)
    clear hq2 e2;go_wp2_with fail
    go_round
    case rel=>exact⟨i+2,by go_num,by omega,by omega,Ax (.inl HN.out)⟩
    case measure=>simp [intOf]<;>omega
   have d5:decide ((i:Int)+1<(s.size:Int))=false:=An tE;have HR:=Ax (HNO.out (i+1) (by rw[←hq2,Ie tE];rfl) (by rw[Ie tE];simp));clear hq2;go_wp2_with fail
   go_round
   case rel=>exact⟨i+2,by go_num,by omega,by omega,Ax (.inr ⟨by omega,HR.out⟩)⟩
   case measure=>simp [intOf]<;>omega
  have d4:((s[i].toNat:Int)==92)=false:=Af.2 tE;have c92:(s[i]==92)=false:=Af.2 (fun e=>h92 tU)
  have HN:=Ax (show i+1+A7 false ((dl s).drop (i+1))=p+1+A7 false ((dl s).drop (p+1)) by
   rw[←hq,e1,B6,Ao (by rw[c34,hpr];simp),c92];simp only[Bool.false_and]
   omega)
  clear hq e1 hpr c34 c92;go_wp2_with fail
  go_round
  case rel=>exact⟨i+1,by go_num,by omega,by omega,Ax (.inl HN.out)⟩
  case measure=>simp [intOf]<;>omega
 have d0:decide (i<s.size)=false:=An hgo
 have HR:Hid (R= -1):=Ax (by
  rcases hq.out with h|h
  ·exact HNO.out i (by rw[←h,Ie tE];rfl) (by rw[Ie tE];simp)
  exact h.2)
 clear hq;exact zxm
open Go Go.RowKit Go.Lib
def Kg (l:List UInt8):Nat:=if l.take 2∈Ez then 2 else if l.take 1∈Ng.map (fun c=>[c]) then 1 else 0
theorem Xp (l:List UInt8):Es l=if Kg l=0 then .error 4 else .ok (⟨7,l.take (Kg l),v0⟩,Kg l):=by
 unfold Es Kg;by_cases h:l.take 2∈Ez
 ·rw[Ap h,Ap h];rfl
 rw[Ao h,Ao h];by_cases h1:l.take 1∈Ng.map fun c=>[c]
 ·rw[Ap h1,Ap h1];rfl
 rw[Ao h1,Ao h1];rfl
def C4 (p:Nat)(l:List UInt8):Int:=if Kg l=0 then -1 else((p+Kg l:Nat):Int)
theorem Xo {c:UInt8}{r:List UInt8}:(c::r).take 1∈Ng.map (fun c=>[c])↔c∈Ng:=by
 rw[show(c::r).take 1=[c] from rfl,List.mem_map];constructor
 ·rintro ⟨x,h,e⟩;injection e with e;rw[←e];exact h
 exact fun h=>⟨c,h,rfl⟩
theorem Nt {p:Nat}{l:List UInt8}(h:l.take 2∈Ez):C4 p l=((p+2:Nat):Int):=by unfold C4 Kg;rw[Ap h];rfl
theorem B3 {p:Nat}{c:UInt8}{r:List UInt8}(h:(c::r).take 2∉Ez)(h1:c∈Ng):C4 p (c::r)=((p+1:Nat):Int):=by unfold C4 Kg;rw[Ao h,Ap (Xo.2 h1)];rfl
theorem Yv {p:Nat}{c:UInt8}{r:List UInt8}(h:(c::r).take 2∉Ez)(h1:c∉Ng):C4 p (c::r)= -1:=by unfold C4 Kg;rw[Ao h,Ao (fun q=>h1 (Xo.1 q))];rfl
theorem Yo {l:List UInt8}(h1:l≠[60,61])(h2:l≠[62,61])(h3:l≠[60,62])(h4:l≠[46,46]):l∉Ez:=by
 unfold Ez;simp only[List.mem_cons,List.not_mem_nil,or_false,not_or];exact⟨h1,h2,h3,h4⟩
theorem aQ {l:List UInt8}(h:l.length<2):l∉Ez:=fun q=>by
 unfold Ez at q;simp only[List.mem_cons,List.not_mem_nil,or_false] at q;rcases q with rfl|rfl|rfl|rfl<;>simp at h
theorem Cw {a b:Int}(h:a=b):Ending.returned (.int .i64 b)= .returned (.int .i64 a):=by rw[h]
theorem fW (s:ByteArray)(p:Nat)(w:World)(hs:s.size<=1000000)(hp:p<s.size):Calls Tryz.prog 95 #[.string s,.int .i64 (p:Int)] w fun e w'=>e= .returned (.int .i64 (C4 p ((dl s).drop p)))/\w=w':=by
 have e1:=Kq hp;have q0:(0:Int)<=(p:Int):=by omega
 have q1:(p:Int)<(s.size:Int):=by omega
 go_enter Tryz.func95,Tryz.ntmps95;by_cases h2:p+1<s.size
 ·have d0:decide ((p:Int)+1<(s.size:Int))=true:=Am tE;have hsl:=Dq s (p:Int) ((p:Int)+2) tE tE tE;rw[show((p:Int)).toNat=p by omega,show((p:Int)+2).toNat=p+2 by omega] at hsl;obtain⟨X,hXe⟩:∃X,s.extract p (p+2)=X:=⟨_,rfl⟩;have hX:((dl s).drop p).take 2=dl X:=by rw[←hXe,Fg,Nat.add_sub_cancel_left]
  rw[hXe] at hsl;have hd1:True:=trivial;clear hXe;by_cases w0:dl X=[60,61]
  ·have t0:(X.toList==[60,61])=true:=by rw[Az,w0];rfl
   have HR:=Ax (show C4 p ((dl s).drop p)=((p+2:Nat):Int) from Nt (by rw[hX,w0];decide));clear e1 hX hd1 w0;exact zzp
  have t0:(X.toList==[60,61])=false:=by rw[Az];exact Af.2 w0
  by_cases w1:dl X=[62,61]
  ·have t1:(X.toList==[62,61])=true:=by rw[Az,w1];rfl
   have t0:(X.toList==[60,61])=false:=by rw[Az,w1];rfl
   have HR:=Ax (show C4 p ((dl s).drop p)=((p+2:Nat):Int) from Nt (by rw[hX,w1];decide));clear e1 hX hd1 w0 w1;exact zzp
  have t1:(X.toList==[62,61])=false:=by rw[Az];exact Af.2 w1
  by_cases w2:dl X=[60,62]
  ·have t2:(X.toList==[60,62])=true:=by rw[Az,w2];rfl
   have t0:(X.toList==[60,61])=false:=by rw[Az,w2];rfl
   have t1:(X.toList==[62,61])=false:=by rw[Az,w2];rfl
   have HR:=Ax (show C4 p ((dl s).drop p)=((p+2:Nat):Int) from Nt (by rw[hX,w2];decide));clear e1 hX hd1 w0 w1 w2;exact zzp
  have t2:(X.toList==[60,62])=false:=by rw[Az];exact Af.2 w2
  by_cases w3:dl X=[46,46]
  ·have t3:(X.toList==[46,46])=true:=by rw[Az,w3];rfl
   have t0:(X.toList==[60,61])=false:=by rw[Az,w3];rfl
   have t1:(X.toList==[62,61])=false:=by rw[Az,w3];rfl
   have t2:(X.toList==[60,62])=false:=by rw[Az,w3];rfl
   have HR:=Ax (show C4 p ((dl s).drop p)=((p+2:Nat):Int) from Nt (by rw[hX,w3];decide));clear e1 hX hd1 w0 w1 w2 w3;exact zzp
  have t3:(X.toList==[46,46])=false:=by rw[Az];exact Af.2 w3
  have HT:=Ax (show((dl s).drop p).take 2∉Ez by rw[hX];exact Yo w0 w1 w2 w3);clear hX w0 w1 w2 w3 hd1;exact zz5
 have d0:decide ((p:Int)+1<(s.size:Int))=false:=An tE;have HT:=Ax (show((dl s).drop p).take 2∉Ez from aQ (by rw[List.length_take,List.length_drop,A4];omega));exact zz5
end Go.Proofs.YtmpfilddeglgbaaGreatDoor

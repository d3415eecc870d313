import Derived.Test.YtgfakdobajgnfaaGreatDoorQn16
set_option maxRecDepth 100000
set_option maxHeartbeats 16000000
namespace Go.Proofs.YtgfakdobajgnfaaGreatDoor
open Go Go.RowKit Go.Lib
structure dE (w wr:World)(la lb:List Nat)(i owed:Nat)(v:Value)(o:List Nat):Prop where
 row:wr.ownsRow w.heap.size 3 1 v i (C3 o)
 len:o.length=i
 ok:okD o
 val:nv o+nv (lb.take i)=nv (la.take i)+owed*10000^i
 bel:Below w.heap.size w wr
theorem K9 {O p A B x y d o o':Nat}(h:O+B=A+o*p)(hd:o+d+y=x+10000*o'):O+p*d+(B+p*y)=A+p*x+o'*(p*10000):=by
 have h1:p*(o+d+y)=p*(x+10000*o'):=by rw[hd]
 rw[Nat.mul_add,Nat.mul_add,Nat.mul_add] at h1;have h2:p*(10000*o')=o'*(p*10000):=by rw[←Nat.mul_assoc,Nat.mul_comm]
 have h3:p*o=o*p:=Nat.mul_comm _ _;omega
theorem Vs {w:World}{sa sb:Value}{la lb:List Nat}(ha:Ch w sa la)(hb:Ch w sb lb)(hoa:okD la)(hob:okD lb)(hla:la.length<=100000)(hlb:lb.length<=la.length)(hle:nv lb<=nv la):
 Calls Tryz.prog 231 #[sa,sb] w fun e w'=>(∃v o,e= .returned v/\Ch w' v o/\okD o/\nv o=nv la - nv lb/\o.length<=la.length)/\Below w.heap.size w w':=by
 obtain⟨aa,ca,rfl,_⟩:=ha.slice;obtain⟨ab,cb,rfl,_⟩:=hb.slice;have HA:=Ax ha;have HBb:=Ax hb;have HOA:=Ax hoa;have HOB:=Ax hob;have HLE:=Ax hle;have HU0:Hid (dE w w la lb 0 0 (.slice none 0 0) []):=Ax ⟨World.ownsRow_nil _ _ _ _,rfl,fun _ h=>by(cases h),by simp [nv],Aq _ _⟩;clear ha hb hoa hob hle;go_enter Tryz.func231,Tryz.ntmps231;go_wp2_with fail
 go_loopw [5,6,7] (fun v5 v6 v7 wr=>∃(i owed:Nat) (o:List Nat) (oa:Option Addr) (oc:Nat),owed<=1/\i<=la.length/\v7= .int .i64 i/\v5= .slice oa i oc/\v6= .int .i64 owed/\Hid (dE w wr la lb i owed (.slice oa i oc) o)) (fun _ _ v7 _=>la.length - (intOf v7).toNat)
 case atStart=>exact⟨0,0,[],none,0,by omega,by omega,rfl,rfl,rfl,HU0⟩
 obtain⟨i,owed,o,oa,oc,hm,hi,rfl,rfl,rfl,hq⟩:=hrel;have hU:=hq.out;by_cases hia:i<la.length
 ·obtain⟨ba,fa,rfl,ha⟩:=HA.out.at hia;have ha:=A6 hU.bel ha;have hxl:=HOA.out _ (List.getElem_mem hia);have hta:=Fw la i hia;obtain⟨x,hx⟩:∃x,la[i]=x:=⟨_,rfl⟩;rw[hx] at ha hta hxl;have p1:decide ((i:Int)<(la.length:Int))=true:=Am nU;have p1':(i:Int)<(la.length:Int):=by omega
  have q1:(0:Int)<=(x:Int):=by omega
  have q2:(x:Int)<=9999:=by omega
  by_cases hib:i<lb.length
  ·by_cases hn:x<owed+lb[i]
   ·skip
    obtain⟨bb,fb,rfl,hb⟩:=HBb.out.at hib;have hb:=A6 hU.bel hb;have hyl:=HOB.out _ (List.getElem_mem hib);have htb:=Fw lb i hib;obtain⟨y,hy⟩:∃y,lb[i]=y:=⟨_,rfl⟩;rw[hy] at hb htb hyl;have p2:decide ((i:Int)<(lb.length:Int))=true:=Am nU;have p2':(i:Int)<(lb.length:Int):=by omega
    have q3:(0:Int)<=(y:Int):=by omega
    have q4:(y:Int)<=9999:=by omega
    have q0:(0:Int)<=(i:Int):=by omega
    have q5:(0:Int)<=(owed:Int):=by omega
    have q6:(owed:Int)<=1:=by omega
    have p3:decide ((x:Int) - (owed:Int) - (y:Int)<0)=true:=by simp;omega
    have hz:(((x:Int) - (owed:Int) - (y:Int)+10000):Int)=((x+10000 - owed - y:Nat):Int):=by omega
    have hd9:x+10000 - owed - y<10000:=by omega
    have HVL:=Ax (K9 (O:=nv o) (p:=10000^i) (A:=nv (la.take i)) (B:=nv (lb.take i)) (x:=x) (y:=y) (d:=x+10000 - owed - y) (o:=owed) (o':=1) hU.val nU);have Htb:=Ax htb;have Hta:=Ax hta;have Hrow1:=Ax (hU.row.alloc (.cells #[.int .i64 (((x:Int) - (owed:Int) - (y:Int)+10000))] 3));have HN1:=Ax (A0 wr (.cells #[.int .i64 (((x:Int) - (owed:Int) - (y:Int)+10000))] 3));have HZ:Hid ((wr.alloc (.cells #[.int .i64 (((x:Int) - (owed:Int) - (y:Int)+10000))] 3)).heap.size=wr.heap.size+1):=Ax nW;have hsr:=hU.bel.size;have Hown:=Ax (Cf hU.row);have HU:=Ax hU;have Hzz:=Ax hz;obtain⟨i0,hi0,hz0,hz1,hz2⟩:=Cg;have Hi0:=Ax hi0;have Hy0:=Ax hz0;have Hy1:=Ax hz1;have Hy2:=Ax hz2;clear hq hU hz hi0 hz0 hz1 hz2 htb hta hx hy;go_wp2_with ((refine wpList_append_lies _ rfl (.tmp 35) (.tmp 37) _ rfl w.heap.size 3 i0 (.int .i64 0) 1 8 Tryz.underlying41 Hi0.out Hy0.out Hy1.out Hy2.out rfl nV (.slice oa i oc) i (C3 o) rfl Hrow1.out ⟨wr.heap.size,0,none⟩ 1 1 [.int .i64 (((x:Int) - (owed:Int) - (y:Int)+10000))] rfl rfl (World.news_of_block (cs:= #[.int .i64 (((x:Int) - (owed:Int) - (y:Int)+10000))]) HN1.out) oH nV oF nU oL (wr.heap.size+1) HZ.out ?_;intro g6 cap w6 hown6 hgrow6 hat6 hlt6));have hB6:=Ck (v:= .slice oa i oc) (HU.out.bel.alloc HU.out.bel.size (.cells #[.int .i64 (((x:Int) - (owed:Int) - (y:Int)+10000))] 3)) hgrow6 Hown.out oL;rw[Hzz.out,←C6] at hown6
    have HR6:Hid (dE w w6 la lb (i+1) 1 (.slice (some ⟨g6,0,none⟩) (i+1) cap) (o++[x+10000 - owed - y])):=Ax ⟨hown6,by rw[Ab,HU.out.len];rfl,E0 HU.out.ok hd9,by
     rw[Fx,HU.out.len,Htb.out,Hta.out,Nat.pow_succ]
     exact HVL.out,hB6⟩
    clear hown6 hgrow6 hat6 hlt6 hB6 Hrow1 HN1 HZ hsr Hown HU HVL;go_wp2_with fail;go_roundw
    case rel=>exact⟨i+1,1,o++[x+10000 - owed - y],some ⟨g6,0,none⟩,cap,by omega,by omega,by go_num,rfl,rfl,HR6⟩
    case measure=>simp [intOf];omega
   skip
   obtain⟨bb,fb,rfl,hb⟩:=HBb.out.at hib;have hb:=A6 hU.bel hb;have hyl:=HOB.out _ (List.getElem_mem hib);have htb:=Fw lb i hib;obtain⟨y,hy⟩:∃y,lb[i]=y:=⟨_,rfl⟩;rw[hy] at hb htb hyl;have p2:decide ((i:Int)<(lb.length:Int))=true:=Am nU;have p2':(i:Int)<(lb.length:Int):=by omega
   have q3:(0:Int)<=(y:Int):=by omega
   have q4:(y:Int)<=9999:=by omega
   have q0:(0:Int)<=(i:Int):=by omega
   have q5:(0:Int)<=(owed:Int):=by omega
   have q6:(owed:Int)<=1:=by omega
   have p3:decide ((x:Int) - (owed:Int) - (y:Int)<0)=false:=by simp;omega
   have hz:((x:Int) - (owed:Int) - (y:Int):Int)=((x - owed - y:Nat):Int):=by omega
   have hd9:x - owed - y<10000:=by omega
   have HVL:=Ax (K9 (O:=nv o) (p:=10000^i) (A:=nv (la.take i)) (B:=nv (lb.take i)) (x:=x) (y:=y) (d:=x - owed - y) (o:=owed) (o':=0) hU.val nU);have Htb:=Ax htb;have Hta:=Ax hta;have Hrow1:=Ax (hU.row.alloc (.cells #[.int .i64 ((x:Int) - (owed:Int) - (y:Int))] 3));have HN1:=Ax (A0 wr (.cells #[.int .i64 ((x:Int) - (owed:Int) - (y:Int))] 3));have HZ:Hid ((wr.alloc (.cells #[.int .i64 ((x:Int) - (owed:Int) - (y:Int))] 3)).heap.size=wr.heap.size+1):=Ax nW;have hsr:=hU.bel.size;have Hown:=Ax (Cf hU.row);have HU:=Ax hU;have Hzz:=Ax hz;obtain⟨i0,hi0,hz0,hz1,hz2⟩:=Cg;have Hi0:=Ax hi0;have Hy0:=Ax hz0;have Hy1:=Ax hz1;have Hy2:=Ax hz2;clear hq hU hz hi0 hz0 hz1 hz2 htb hta hx hy;go_wp2_with ((refine wpList_append_lies _ rfl (.tmp 35) (.tmp 37) _ rfl w.heap.size 3 i0 (.int .i64 0) 1 8 Tryz.underlying41 Hi0.out Hy0.out Hy1.out Hy2.out rfl nV (.slice oa i oc) i (C3 o) rfl Hrow1.out ⟨wr.heap.size,0,none⟩ 1 1 [.int .i64 ((x:Int) - (owed:Int) - (y:Int))] rfl rfl (World.news_of_block (cs:= #[.int .i64 ((x:Int) - (owed:Int) - (y:Int))]) HN1.out) oH nV oF nU oL (wr.heap.size+1) HZ.out ?_;intro g6 cap w6 hown6 hgrow6 hat6 hlt6));have hB6:=Ck (v:= .slice oa i oc) (HU.out.bel.alloc HU.out.bel.size (.cells #[.int .i64 ((x:Int) - (owed:Int) - (y:Int))] 3)) hgrow6 Hown.out oL;rw[Hzz.out,←C6] at hown6
   have HR6:Hid (dE w w6 la lb (i+1) 0 (.slice (some ⟨g6,0,none⟩) (i+1) cap) (o++[x - owed - y])):=Ax ⟨hown6,by rw[Ab,HU.out.len];rfl,E0 HU.out.ok hd9,by
    rw[Fx,HU.out.len,Htb.out,Hta.out,Nat.pow_succ]
    exact HVL.out,hB6⟩
   clear hown6 hgrow6 hat6 hlt6 hB6 Hrow1 HN1 HZ hsr Hown HU HVL;go_wp2_with fail;go_roundw
   case rel=>exact⟨i+1,0,o++[x - owed - y],some ⟨g6,0,none⟩,cap,by omega,by omega,by go_num,rfl,rfl,HR6⟩
   case measure=>simp [intOf];omega
  by_cases hn:x<owed
  ·skip
   have htb:nv (lb.take (i+1))=nv (lb.take i)+10000^i*0:=by rw[List.take_of_length_le nU,List.take_of_length_le nU];simp
   have p2:decide ((i:Int)<(lb.length:Int))=false:=An nU;have q0:(0:Int)<=(i:Int):=by omega
   have q5:(0:Int)<=(owed:Int):=by omega
   have q6:(owed:Int)<=1:=by omega
   have p3:decide ((x:Int) - (owed:Int)<0)=true:=by simp;omega
   have hz:(((x:Int) - (owed:Int)+10000):Int)=((x+10000 - owed:Nat):Int):=by omega
   have hd9:x+10000 - owed<10000:=by omega
   have HVL:=Ax (K9 (O:=nv o) (p:=10000^i) (A:=nv (la.take i)) (B:=nv (lb.take i)) (x:=x) (y:=0) (d:=x+10000 - owed) (o:=owed) (o':=1) hU.val nU);have Htb:=Ax htb;have Hta:=Ax hta;have Hrow1:=Ax (hU.row.alloc (.cells #[.int .i64 (((x:Int) - (owed:Int)+10000))] 3));have HN1:=Ax (A0 wr (.cells #[.int .i64 (((x:Int) - (owed:Int)+10000))] 3));have HZ:Hid ((wr.alloc (.cells #[.int .i64 (((x:Int) - (owed:Int)+10000))] 3)).heap.size=wr.heap.size+1):=Ax nW;have hsr:=hU.bel.size;have Hown:=Ax (Cf hU.row);have HU:=Ax hU;have Hzz:=Ax hz;obtain⟨i0,hi0,hz0,hz1,hz2⟩:=Cg;have Hi0:=Ax hi0;have Hy0:=Ax hz0;have Hy1:=Ax hz1;have Hy2:=Ax hz2;clear hq hU hz hi0 hz0 hz1 hz2 htb hta hx;go_wp2_with ((refine wpList_append_lies _ rfl (.tmp 35) (.tmp 37) _ rfl w.heap.size 3 i0 (.int .i64 0) 1 8 Tryz.underlying41 Hi0.out Hy0.out Hy1.out Hy2.out rfl nV (.slice oa i oc) i (C3 o) rfl Hrow1.out ⟨wr.heap.size,0,none⟩ 1 1 [.int .i64 (((x:Int) - (owed:Int)+10000))] rfl rfl (World.news_of_block (cs:= #[.int .i64 (((x:Int) - (owed:Int)+10000))]) HN1.out) oH nV oF nU oL (wr.heap.size+1) HZ.out ?_;intro g6 cap w6 hown6 hgrow6 hat6 hlt6));have hB6:=Ck (v:= .slice oa i oc) (HU.out.bel.alloc HU.out.bel.size (.cells #[.int .i64 (((x:Int) - (owed:Int)+10000))] 3)) hgrow6 Hown.out oL;rw[Hzz.out,←C6] at hown6
   have HR6:Hid (dE w w6 la lb (i+1) 1 (.slice (some ⟨g6,0,none⟩) (i+1) cap) (o++[x+10000 - owed])):=Ax ⟨hown6,by rw[Ab,HU.out.len];rfl,E0 HU.out.ok hd9,by
    rw[Fx,HU.out.len,Htb.out,Hta.out,Nat.pow_succ]
    exact HVL.out,hB6⟩
   clear hown6 hgrow6 hat6 hlt6 hB6 Hrow1 HN1 HZ hsr Hown HU HVL;go_wp2_with fail;go_roundw
   case rel=>exact⟨i+1,1,o++[x+10000 - owed],some ⟨g6,0,none⟩,cap,by omega,by omega,by go_num,rfl,rfl,HR6⟩
   case measure=>simp [intOf];omega
  skip
  have htb:nv (lb.take (i+1))=nv (lb.take i)+10000^i*0:=by rw[List.take_of_length_le nU,List.take_of_length_le nU];simp
  have p2:decide ((i:Int)<(lb.length:Int))=false:=An nU;have q0:(0:Int)<=(i:Int):=by omega
  have q5:(0:Int)<=(owed:Int):=by omega
  have q6:(owed:Int)<=1:=by omega
  have p3:decide ((x:Int) - (owed:Int)<0)=false:=by simp;omega
  have hz:((x:Int) - (owed:Int):Int)=((x - owed:Nat):Int):=by omega
  have hd9:x - owed<10000:=by omega
  have HVL:=Ax (K9 (O:=nv o) (p:=10000^i) (A:=nv (la.take i)) (B:=nv (lb.take i)) (x:=x) (y:=0) (d:=x - owed) (o:=owed) (o':=0) hU.val nU);have Htb:=Ax htb;have Hta:=Ax hta;have Hrow1:=Ax (hU.row.alloc (.cells #[.int .i64 ((x:Int) - (owed:Int))] 3));have HN1:=Ax (A0 wr (.cells #[.int .i64 ((x:Int) - (owed:Int))] 3));have HZ:Hid ((wr.alloc (.cells #[.int .i64 ((x:Int) - (owed:Int))] 3)).heap.size=wr.heap.size+1):=Ax nW;have hsr:=hU.bel.size;have Hown:=Ax (Cf hU.row);have HU:=Ax hU;have Hzz:=Ax hz;obtain⟨i0,hi0,hz0,hz1,hz2⟩:=Cg;have Hi0:=Ax hi0;have Hy0:=Ax hz0;have Hy1:=Ax hz1;have Hy2:=Ax hz2;clear hq hU hz hi0 hz0 hz1 hz2 htb hta hx;go_wp2_with ((refine wpList_append_lies _ rfl (.tmp 35) (.tmp 37) _ rfl w.heap.size 3 i0 (.int .i64 0) 1 8 Tryz.underlying41 Hi0.out Hy0.out Hy1.out Hy2.out rfl nV (.slice oa i oc) i (C3 o) rfl Hrow1.out ⟨wr.heap.size,0,none⟩ 1 1 [.int .i64 ((x:Int) - (owed:Int))] rfl rfl (World.news_of_block (cs:= #[.int .i64 ((x:Int) - (owed:Int))]) HN1.out) oH nV oF nU oL (wr.heap.size+1) HZ.out ?_;intro g6 cap w6 hown6 hgrow6 hat6 hlt6));have hB6:=Ck (v:= .slice oa i oc) (HU.out.bel.alloc HU.out.bel.size (.cells #[.int .i64 ((x:Int) - (owed:Int))] 3)) hgrow6 Hown.out oL;rw[Hzz.out,←C6] at hown6
  have HR6:Hid (dE w w6 la lb (i+1) 0 (.slice (some ⟨g6,0,none⟩) (i+1) cap) (o++[x - owed])):=Ax ⟨hown6,by rw[Ab,HU.out.len];rfl,E0 HU.out.ok hd9,by
   rw[Fx,HU.out.len,Htb.out,Hta.out,Nat.pow_succ]
   exact HVL.out,hB6⟩
  clear hown6 hgrow6 hat6 hlt6 hB6 Hrow1 HN1 HZ hsr Hown HU HVL;go_wp2_with fail;go_roundw
  case rel=>exact⟨i+1,0,o++[x - owed],some ⟨g6,0,none⟩,cap,by omega,by omega,by go_num,rfl,rfl,HR6⟩
  case measure=>simp [intOf];omega
 obtain rfl:i=la.length:=by omega
 have p1:decide ((la.length:Int)<(la.length:Int))=false:=by simp
 have hres:Ch wr (.slice oa la.length oc) o:=Ch.of_row (by rw[hU.len];omega) hU.len.symm hU.row
 have hval:nv o=nv la - nv lb:=by
  have h1:=hU.val;rw[List.take_length,List.take_of_length_le nU] at h1;have h2:=Vf o hU.ok;rw[hU.len] at h2;have h3:=HLE.out
  have:owed=0:=by
   obtain e|e:owed=0\/owed=1:=by omega
   ·exact e
   rw[e] at h1;omega
  rw[this] at h1;omega
 have HR:Hid (∃v o',Ending.returned (.slice oa la.length oc)= .returned v/\Ch wr v o'/\okD o'/\nv o'=nv la - nv lb/\o'.length<=la.length):=Ax ⟨_,o,rfl,hres,hU.ok,hval,by rw[hU.len];omega⟩;have HB:=Ax hU.bel;clear hq hU hres hval hi hm hia;exact zzj
def Xk (n m:Nat)(r:Int):Prop:=(r<0↔n<m)/\(0<r↔m<n)/\ -100000<=r/\r<=100000
theorem mN {w:World}{sa sb:Value}{n m:Nat}(ha:Ch w sa (dg n))(hb:Ch w sb (dg m))(hla:Bo n<=100000)(hlb:Bo m<=100000):
 Calls Tryz.prog 230 #[sa,sb] w fun e w'=>(∃r,e= .returned (.int .i64 r)/\Xk n m r)/\Below w.heap.size w w':=by
 obtain⟨aa,ca,rfl,_⟩:=ha.slice;obtain⟨ab,cb,rfl,_⟩:=hb.slice;have hna:(dg n).length=Bo n:=rfl;have hmb:(dg m).length=Bo m:=rfl;by_cases hl:Bo n=Bo m
 ·obtain⟨la,hla'⟩:∃l,dg n=l:=⟨_,rfl⟩;obtain⟨lb,hlb'⟩:∃l,dg m=l:=⟨_,rfl⟩;have hoa:=Fy n;have hob:=Fy m;have hvn:=Es n;have hvm:=Es m;rw[hla'] at ha hna hoa hvn ⊢;rw[hlb'] at hb hmb hob hvm ⊢;have hll:la.length=lb.length:=by omega
  have h5:la.length<=100000:=by omega
  have HA:=Ax ha;have HBb:=Ax hb;have HOA:=Ax hoa;have HOB:=Ax hob;have HLL:=Ax hll;have HVN:=Ax hvn;have HVM:=Ax hvm;rw[←hll];have HQ:Hid (la.drop la.length=lb.drop la.length):=Ax (by rw[List.drop_length,hll,List.drop_length]);clear ha hb hoa hob hvn hvm hla' hlb' hna hmb hl hll hla hlb;have hne:((la.length:Int) !=(la.length:Int))=false:=by simp
  go_enter Tryz.func230,Tryz.ntmps230;go_wp2_with fail
  go_loopw [5] (fun v5 wr=>∃k:Nat,k<=la.length/\v5= .int .i64 ((k:Int) - 1)/\Hid (la.drop k=lb.drop k)/\Hid (Below w.heap.size w wr)) (fun v5 _=>(intOf v5+1).toNat)
  case atStart=>exact⟨la.length,Ak _,rfl,HQ,Aq _ _⟩
  obtain⟨k,hk,rfl,hq,hB⟩:=hrel;by_cases hk0:k=0
  ·subst hk0;have p1:decide ((0:Int)<=((0:Nat):Int) - 1)=false:=by simp
   have p2:decide ((0:Int)<= -1)=false:=by simp
   have HR:Hid (Xk n m 0):=Ax (by
    have h1:=hq.out;rw[List.drop_zero,List.drop_zero] at h1
    have:n=m:=by rw[←HVN.out,←HVM.out,h1]
    unfold Xk
    omega)
   have HB:=Ax hB.out;clear hq hB HQ;go_wp2_with fail;go_ret;exact⟨⟨0,rfl,HR.out⟩,HB.out⟩
  obtain⟨j,rfl⟩:∃j,k=j+1:=⟨k - 1,by omega⟩;have hja:j<la.length:=by omega
  have hjb:j<lb.length:=by have:=HLL.out;omega
  obtain⟨ba,fa,rfl,hca⟩:=HA.out.at hja;obtain⟨bb,fb,rfl,hcb⟩:=HBb.out.at hjb;have hca:=A6 hB.out hca;have hcb:=A6 hB.out hcb;have hxl:=HOA.out _ (List.getElem_mem hja);have hyl:=HOB.out _ (List.getElem_mem hjb);have hlt:=fR HOA.out HLL.out hja hjb hq.out;have hgt:=fR HOB.out HLL.out.symm hjb hja hq.out.symm;have heq:la[j]=lb[j]->la.drop j=lb.drop j:=fun e=>by rw[List.drop_eq_getElem_cons hja,List.drop_eq_getElem_cons hjb,e,hq.out]
  obtain⟨x,hx⟩:∃x,la[j]=x:=⟨_,rfl⟩;obtain⟨y,hy⟩:∃y,lb[j]=y:=⟨_,rfl⟩;rw[hx] at hca hxl hlt hgt heq;rw[hy] at hcb hyl hlt hgt heq;have j0:((j+1:Nat):Int) - 1=(j:Int):=by omega
  rw[j0];have j1:(0:Int)<=(j:Int):=by omega
  have j2:(j:Int)<(la.length:Int):=by omega
  have p1:decide ((0:Int)<=(j:Int))=true:=Am j1;have q1:(0:Int)<=(x:Int):=by omega
  have q2:(x:Int)<=9999:=by omega
  have q3:(0:Int)<=(y:Int):=by omega
  have q4:(y:Int)<=9999:=by omega
  have HD:=fun nq=>Ax (show Below w.heap.size w (wr.drewN nq) from Bd hB.out nq)
  have HD2:=fun p q=>Ax (show Below w.heap.size w ((wr.drewN p).drewN q) from Bd (Bd hB.out p) q)
  by_cases hxy:x=y
  ·subst hxy;have HQ2:=Ax (heq rfl);have p3:((x:Int) !=(x:Int))=false:=by simp
   clear hq hB HQ hx hy hlt hgt heq j0 hk hk0;go_wp2_with fail;go_quiet (fail);go_wp2_with fail;refine⟨⟨j,by omega,rfl,HQ2,HD _⟩,?_⟩;simp [intOf]
  have p3:((x:Int) !=(y:Int))=true:=by simp;omega
  have HR:Hid (Xk n m ((x:Int) - (y:Int))):=Ax (by
   have h1:=HVN.out;have h2:=HVM.out;unfold Xk;rcases Nat.lt_or_ge x y with h|h
   ·have:=hlt h
    omega
   have:=hgt nU
   omega)
  clear hq hB HQ hx hy hlt hgt heq j0 hk hk0;go_wp2_with fail;go_quiet (fail);go_wp2_with fail;go_quiet (fail);go_wp2_with fail;go_ret;exact⟨⟨_,rfl,HR.out⟩,(HD2 _ _).out⟩
 have h1:((Bo n:Int) !=(Bo m:Int))=true:=by simp;omega
 have HR:Hid (Xk n m ((Bo n:Int) - (Bo m:Int))):=Ax (by
  unfold Xk;rcases Nat.lt_or_ge (Bo n) (Bo m) with h|h
  ·have:=Tr h
   omega
  have:=Tr (show Bo m<Bo n by omega)
  omega)
 rw[hna,hmb];clear ha hb hna hmb hl;go_enter Tryz.func230,Tryz.ntmps230;go_wp2_with fail;go_ret;exact⟨⟨_,rfl,HR.out⟩,Aq _ _⟩
open Go Go.RowKit Go.Lib
def Fd (w:World)(z:Int)(e:Ending)(w':World):Prop:=(∃v,e= .returned v/\Bj w' v z)/\Below w.heap.size w w'
theorem Bj.form {w:World}{v:Value}{z:Int}(h:Bj w v z):∃a c,v= .agg #[.bool (decide (z<0)),.slice a (Bo z.natAbs) c]/\Ch w (.slice a (Bo z.natAbs) c) (dg z.natAbs):=by
 obtain⟨s,h1,h2⟩:=h;obtain⟨a,c,rfl,_⟩:=h2.slice;exact⟨a,c,h1,h2⟩
theorem Gw {w:World}{sl:Value}{l:List Nat}(neg:Bool)(hs:Ch w sl l)(ho:okD l){z:Int}(hz:sgn neg (nv l)=z):Calls Tryz.prog 125 #[.bool neg,sl] w (Fd w z):=by
 rw[←hz];exact gZ neg hs ho
theorem Bj.store {V:World}{r:Nat}{v:Value}{z:Int}{p:Bool}{a:Option Addr}{n c:Nat}{t:TypeId}(h:Bj V v z)(hr:V.heap[r]? =some (.cells #[.bool p,.slice a n c] t (0,0)))(u u':Value):Bj ((V.setCell ⟨r,0,none⟩ u).setCell ⟨r,1,none⟩ u') v z:=by
 obtain⟨s,rfl,h1,a0,c0,rfl,h3,h4⟩:=h;refine⟨_,rfl,h1,a0,c0,rfl,h3,fun i hi=>?_⟩;exact zy0
theorem Mz {w:World}{v:Value}{x:Int}(hx:Bj w v x):Calls Tryz.prog 192 #[v] w (Fd w (-x)):=by
 obtain⟨a,c,rfl,hs⟩:=hx.form;obtain⟨b,hb⟩:∃b,decide (x<0)=b:=⟨_,rfl⟩;rw[hb]
 have hz:sgn (!b) (nv (dg x.natAbs))= -x:=by
  rw[Es,←hb];unfold sgn;by_cases h:x<0
  ·rw[Am h];simp;omega
  rw[An h];simp;omega
 obtain⟨n,hn⟩:∃n,Bo x.natAbs=n:=⟨_,rfl⟩;rw[hn] at hs ⊢;have HT:=fun V (hV:Below w.heap.size w V)=>Ax (Gw (!b) (hs.below hV) (Fy _) hz)
 have hB0:=Ax (((Aq _ w).alloc (Ak _) (.cells #[.bool b,.slice a n c] 79)).alloc nW (.cells #[.bool false,.slice none 0 0] 79));have hP0:=Ax (A0 (w.alloc (.cells #[.bool b,.slice a n c] 79)) (.cells #[.bool false,.slice none 0 0] 79));clear hx hs hz hb hn;go_enter Tryz.func192,Tryz.ntmps192;go_wp2_with fail;refine(HT _ hB0.out).out.mono ?_;rintro e V ⟨⟨v,rfl,hv⟩,hb⟩;obtain⟨a',c',rfl,_⟩:=hv.form;have hp:=(hb.block _ (Ay hP0.out)).trans hP0.out;rw[show(w.alloc (.cells #[.bool b,.slice a n c] 79)).heap.size=w.heap.size+1 by simp] at hp;obtain⟨x0,x1,xf⟩:=A1 hp;have xf0:=xf 0;have xf1:=xf 1;have HB:=Ax (((hB0.out.trans (hb.mono hB0.out.size)).setCell (p:=⟨w.heap.size+1,0,none⟩) nW (.bool (decide (-x<0)))).setCell (p:=⟨w.heap.size+1,1,none⟩) nW (.slice a' (Bo (-x).natAbs) c'));have HV:=Ax (hv.store hp (.bool (decide (-x<0))) (.slice a' (Bo (-x).natAbs) c'));obtain⟨nb,hnb⟩:∃nb,decide (-x<0)=nb:=⟨_,rfl⟩;obtain⟨k,hk⟩:∃k,Bo (-x).natAbs=k:=⟨_,rfl⟩;rw[hnb,hk] at HB HV ⊢;clear hv hb hp xf hB0 hP0 HT hnb hk;go_wp2_with fail;refine Au (v:= .agg #[.bool nb,.slice a' k c']) (by simp [results,Tryz.results192,go_sem, *]) rfl ⟨⟨_,rfl,HV.out⟩,HB.out⟩
theorem Uj (n:Nat):(dg n).length=Bo n:=rfl
theorem Ur {w:World}{vx vy:Value}{x y:Int}(hx:Bj w vx x)(hy:Bj w vy y)(hlx:Bo x.natAbs<=100000)(hly:Bo y.natAbs<=100000):Calls Tryz.prog 191 #[vx,vy] w (Fd w (x+y)):=by
 obtain⟨ax,cx,rfl,hsx⟩:=hx.form;obtain⟨ay,cy,rfl,hsy⟩:=hy.form;obtain⟨bx,hbx⟩:∃b,decide (x<0)=b:=⟨_,rfl⟩;obtain⟨by',hby⟩:∃b,decide (y<0)=b:=⟨_,rfl⟩;obtain⟨nx,hnx⟩:∃n,Bo x.natAbs=n:=⟨_,rfl⟩;obtain⟨ny,hny⟩:∃n,Bo y.natAbs=n:=⟨_,rfl⟩;have hxi:(bx=true↔x<0):=by rw[←hbx];simp
 have hyi:(by'=true↔y<0):=by rw[←hby];simp
 rw[hbx,hnx,hby,hny];rw[hnx] at hsx hlx;rw[hny] at hsy hly;have hb0:Below w.heap.size w (((w.alloc (.cells #[.bool bx,.slice ax nx cx] 79)).alloc (.cells #[.bool by',.slice ay ny cy] 79)).alloc (.cells #[.bool false,.slice none 0 0] 79)):=(((Aq _ w).alloc (Ak _) _).alloc nW _).alloc oB _
 have hpx:(((w.alloc (.cells #[.bool bx,.slice ax nx cx] 79)).alloc (.cells #[.bool by',.slice ay ny cy] 79)).alloc (.cells #[.bool false,.slice none 0 0] 79)).heap[w.heap.size]? =some (.cells #[.bool bx,.slice ax nx cx] 79 (0,0)):=by
  exact zx9
 have hpy:(((w.alloc (.cells #[.bool bx,.slice ax nx cx] 79)).alloc (.cells #[.bool by',.slice ay ny cy] 79)).alloc (.cells #[.bool false,.slice none 0 0] 79)).heap[w.heap.size+1]? =some (.cells #[.bool by',.slice ay ny cy] 79 (0,0)):=by
  exact zyp
 have hpz:(((w.alloc (.cells #[.bool bx,.slice ax nx cx] 79)).alloc (.cells #[.bool by',.slice ay ny cy] 79)).alloc (.cells #[.bool false,.slice none 0 0] 79)).heap[w.heap.size+2]? =some (.cells #[.bool false,.slice none 0 0] 79 (0,0)):=by
  exact zyf
 by_cases hs:bx=by'
 ·subst hs;obtain⟨W0,hW0⟩:∃W0,(((w.alloc (.cells #[.bool bx,.slice ax nx cx] 79)).alloc (.cells #[.bool bx,.slice ay ny cy] 79)).alloc (.cells #[.bool false,.slice none 0 0] 79)).drew=W0:=⟨_,rfl⟩;have hB0':Below w.heap.size w W0:=by rw[←hW0];exact hb0.drew
  have hX0:W0.heap[w.heap.size]? =some (.cells #[.bool bx,.slice ax nx cx] 79 (0,0)):=by rw[←hW0];exact hpx
  have hY0:W0.heap[w.heap.size+1]? =some (.cells #[.bool bx,.slice ay ny cy] 79 (0,0)):=by rw[←hW0];exact hpy
  have hZ0:W0.heap[w.heap.size+2]? =some (.cells #[.bool false,.slice none 0 0] 79 (0,0)):=by rw[←hW0];exact hpz
  have HU:=Ax (fZ (hsx.below hB0') (hsy.below hB0') (Fy _) (Fy _) (by rw[Uj,hnx];exact hlx) (by rw[Uj,hny];exact hly))
  have HZ:Hid (∀n,n=nv (dg x.natAbs)+nv (dg y.natAbs)->sgn bx n=x+y):=Ax (fun n hn=>by
   rw[Es,Es] at hn;unfold sgn
   cases bx<;>simp at hxi hyi ⊢ <;>omega)
  obtain⟨m0,m1,_⟩:=A1 hX0;obtain⟨m2,m3,_⟩:=A1 hY0;have HPX:=Ax hX0;have HPY:=Ax hY0;have HPZ:=Ax hZ0;have HB0:=Ax hB0';have hne1:¬w.heap.size=w.heap.size+1+1:=by omega
  have hne2:¬w.heap.size+1+1=w.heap.size:=by omega
  clear hx hy hsx hsy hbx hby hnx hny hb0 hpx hpy hpz hX0 hY0 hZ0 hB0' hxi hyi;have f1:(bx==bx)=true:=by simp
  go_enter Tryz.func191,Tryz.ntmps191;go_wp2_with fail
  go_region_held3 (fun V=>V.cell? ⟨w.heap.size,0,none⟩=some (.bool bx)/\V.cell? ⟨w.heap.size,1,none⟩=some (.slice ax nx cx)/\V.cell? ⟨w.heap.size+1,0,none⟩=some (.bool bx)/\V.cell? ⟨w.heap.size+1,1,none⟩=some (.slice ay ny cy)) (go_keep)
   (first
    |(go_at_call 190;(with_reducible refine HU.out.mono ?_);rintro e V1 ⟨⟨v1,o,rfl,hd1,ho1,hv1,hl1⟩,hb1⟩;obtain⟨a1,c1,rfl,_⟩:=hd1.slice;obtain⟨k0,k1,_⟩:=A1 ((hb1.block _ (Ay HPX.out)).trans HPX.out);obtain⟨k2,k3,_⟩:=A1 ((hb1.block _ (Ay HPY.out)).trans HPY.out);have HB1:=Ax hb1;have HT:=Ax (Gw bx hd1 ho1 (HZ.out _ hv1));clear hb1 hd1 ho1 hv1)
    |(go_at_call 125;(with_reducible refine HT.out.mono ?_);rintro e V2 ⟨⟨v2,rfl,hv2⟩,hb2⟩;obtain⟨a2,c2,rfl,_⟩:=hv2.form;have hbb:=HB1.out.trans (hb2.mono HB1.out.size);obtain⟨l0,l1,_⟩:=A1 ((hbb.block _ (Ay HPX.out)).trans HPX.out);obtain⟨l2,l3,_⟩:=A1 ((hbb.block _ (Ay HPY.out)).trans HPY.out);have hpr:=((hbb.block _ (Ay HPZ.out)).trans HPZ.out);obtain⟨l4,l5,lf⟩:=A1 hpr;have lf0:=lf 0;have lf1:=lf 1;have HV:=Ax (hv2.store hpr (.bool (decide (x+y<0))) (.slice a2 (Bo (x+y).natAbs) c2));have HB2:=Ax (((HB0.out.trans (hbb.mono HB0.out.size)).setCell (p:=⟨w.heap.size+2,0,none⟩) nW (.bool (decide (x+y<0)))).setCell (p:=⟨w.heap.size+2,1,none⟩) nW (.slice a2 (Bo (x+y).natAbs) c2));clear hv2 hb2 hbb hpr lf))
  all_goals
   exact zy2
 skip
 obtain⟨W0,hW0⟩:∃W0,(((w.alloc (.cells #[.bool bx,.slice ax nx cx] 79)).alloc (.cells #[.bool by',.slice ay ny cy] 79)).alloc (.cells #[.bool false,.slice none 0 0] 79)).drew=W0:=⟨_,rfl⟩;have hB0':Below w.heap.size w W0:=by rw[←hW0];exact hb0.drew
 have hX0:W0.heap[w.heap.size]? =some (.cells #[.bool bx,.slice ax nx cx] 79 (0,0)):=by rw[←hW0];exact hpx
 have hY0:W0.heap[w.heap.size+1]? =some (.cells #[.bool by',.slice ay ny cy] 79 (0,0)):=by rw[←hW0];exact hpy
 have hZ0:W0.heap[w.heap.size+2]? =some (.cells #[.bool false,.slice none 0 0] 79 (0,0)):=by rw[←hW0];exact hpz
 have f1:(bx==by')=false:=by cases bx<;>cases by'<;>simp at hs ⊢
 have HY:=Ax (mN (hsx.below hb0) (hsy.below hb0) nU nU);by_cases hle:y.natAbs<=x.natAbs
 ·skip
  have hll:Bo y.natAbs<=Bo x.natAbs:=Ez hle;have HUV:=fun V (hV:Below w.heap.size w V)=>Ax (Vs (hsx.below hV) (hsy.below hV) (Fy _) (Fy _) (by rw[Uj,hnx];exact hlx) (by rw[Uj,Uj];exact hll) (by rw[Es,Es];exact hle))
  have HZ:Hid (∀n,n=nv (dg x.natAbs) - nv (dg y.natAbs)->sgn bx n=x+y):=Ax (fun n hn=>by
   rw[Es,Es] at hn;unfold sgn
   cases bx<;>cases by'<;>simp at hs hxi hyi ⊢ <;>omega)
  have HLE:=Ax hle;have HPX0:=Ax hpx;have HPY0:=Ax hpy;have HPZ0:=Ax hpz;have HB00:=Ax hb0;clear hx hy hsx hsy hbx hby hnx hny hb0 hpx hpy hpz hX0 hY0 hZ0 hB0' hxi hyi hs hll hle hW0;go_enter Tryz.func191,Tryz.ntmps191;go_wp2_with fail;refine HY.out.mono ?_;rintro e VY ⟨⟨r,rfl,hr⟩,hbY⟩;obtain⟨r1,r2,r3,r4⟩:=hr;have f2:decide ((0:Int)<=r)=true:=by simp;have:=HLE.out;omega
  obtain⟨W9,hW9⟩:∃W9,VY.drew=W9:=⟨_,rfl⟩;have hb9:Below (((w.alloc (.cells #[.bool bx,.slice ax nx cx] 79)).alloc (.cells #[.bool by',.slice ay ny cy] 79)).alloc (.cells #[.bool false,.slice none 0 0] 79)).heap.size (((w.alloc (.cells #[.bool bx,.slice ax nx cx] 79)).alloc (.cells #[.bool by',.slice ay ny cy] 79)).alloc (.cells #[.bool false,.slice none 0 0] 79)) W9:=by rw[←hW9];exact hbY.drew
  have hX0:=(hb9.block _ (Ay HPX0.out)).trans HPX0.out;have hY0:=(hb9.block _ (Ay HPY0.out)).trans HPY0.out;have hZ0:=(hb9.block _ (Ay HPZ0.out)).trans HPZ0.out;have hXY:=(hbY.block _ (Ay HPX0.out)).trans HPX0.out;have hYY:=(hbY.block _ (Ay HPY0.out)).trans HPY0.out;have hB0':=HB00.out.trans (hb9.mono HB00.out.size);have HU:=HUV _ hB0';obtain⟨g0,g1,_⟩:=A1 hXY;obtain⟨g2,g3,_⟩:=A1 hYY;obtain⟨m0,m1,_⟩:=A1 hX0;obtain⟨m2,m3,_⟩:=A1 hY0;have HPX:=Ax hX0;have HPY:=Ax hY0;have HPZ:=Ax hZ0;have HB0:=Ax hB0';have hne1:¬w.heap.size=w.heap.size+1+1:=by omega
  have hne2:¬w.heap.size+1+1=w.heap.size:=by omega
  clear hbY hb9 hX0 hY0 hZ0 hXY hYY hB0' HUV HY r1 r2 HPX0 HPY0 HPZ0 HB00;go_wp2_with fail
  go_region_held3 (fun V=>V.cell? ⟨w.heap.size,0,none⟩=some (.bool bx)/\V.cell? ⟨w.heap.size,1,none⟩=some (.slice ax nx cx)/\V.cell? ⟨w.heap.size+1,0,none⟩=some (.bool by')/\V.cell? ⟨w.heap.size+1,1,none⟩=some (.slice ay ny cy)) (go_keep)
   (first
    |(go_at_call 231;(with_reducible refine HU.out.mono ?_);rintro e V1 ⟨⟨v1,o,rfl,hd1,ho1,hv1,hl1⟩,hb1⟩;obtain⟨a1,c1,rfl,_⟩:=hd1.slice;obtain⟨k0,k1,_⟩:=A1 ((hb1.block _ (Ay HPX.out)).trans HPX.out);obtain⟨k2,k3,_⟩:=A1 ((hb1.block _ (Ay HPY.out)).trans HPY.out);have HB1:=Ax hb1;have HT:=Ax (Gw bx hd1 ho1 (HZ.out _ hv1));clear hb1 hd1 ho1 hv1)
    |(go_at_call 125;(with_reducible refine HT.out.mono ?_);rintro e V2 ⟨⟨v2,rfl,hv2⟩,hb2⟩;obtain⟨a2,c2,rfl,_⟩:=hv2.form;have hbb:=HB1.out.trans (hb2.mono HB1.out.size);obtain⟨l0,l1,_⟩:=A1 ((hbb.block _ (Ay HPX.out)).trans HPX.out);obtain⟨l2,l3,_⟩:=A1 ((hbb.block _ (Ay HPY.out)).trans HPY.out);have hpr:=((hbb.block _ (Ay HPZ.out)).trans HPZ.out);obtain⟨l4,l5,lf⟩:=A1 hpr;have lf0:=lf 0;have lf1:=lf 1;have HV:=Ax (hv2.store hpr (.bool (decide (x+y<0))) (.slice a2 (Bo (x+y).natAbs) c2));have HB2:=Ax (((HB0.out.trans (hbb.mono HB0.out.size)).setCell (p:=⟨w.heap.size+2,0,none⟩) nW (.bool (decide (x+y<0)))).setCell (p:=⟨w.heap.size+2,1,none⟩) nW (.slice a2 (Bo (x+y).natAbs) c2));clear hv2 hb2 hbb hpr lf))
  all_goals
   exact zy2
 have hll:Bo x.natAbs<=Bo y.natAbs:=Ez nU;have HUV:=fun V (hV:Below w.heap.size w V)=>Ax (Vs (hsy.below hV) (hsx.below hV) (Fy _) (Fy _) (by rw[Uj,hny];exact hly) (by rw[Uj,Uj];exact hll) (by rw[Es,Es];omega))
 have HZ:Hid (∀n,n=nv (dg y.natAbs) - nv (dg x.natAbs)->sgn by' n=x+y):=Ax (fun n hn=>by
  rw[Es,Es] at hn;unfold sgn
  cases bx<;>cases by'<;>simp at hs hxi hyi ⊢ <;>omega)
 have HLE:=Ax hle;have HPX0:=Ax hpx;have HPY0:=Ax hpy;have HPZ0:=Ax hpz;have HB00:=Ax hb0;clear hx hy hsx hsy hbx hby hnx hny hb0 hpx hpy hpz hX0 hY0 hZ0 hB0' hxi hyi hs hll hle hW0;go_enter Tryz.func191,Tryz.ntmps191;go_wp2_with fail;refine HY.out.mono ?_;rintro e VY ⟨⟨r,rfl,hr⟩,hbY⟩;obtain⟨r1,r2,r3,r4⟩:=hr;have f2:decide ((0:Int)<=r)=false:=by simp;have:=HLE.out;omega
 obtain⟨W9,hW9⟩:∃W9,VY.drew=W9:=⟨_,rfl⟩;have hb9:Below (((w.alloc (.cells #[.bool bx,.slice ax nx cx] 79)).alloc (.cells #[.bool by',.slice ay ny cy] 79)).alloc (.cells #[.bool false,.slice none 0 0] 79)).heap.size (((w.alloc (.cells #[.bool bx,.slice ax nx cx] 79)).alloc (.cells #[.bool by',.slice ay ny cy] 79)).alloc (.cells #[.bool false,.slice none 0 0] 79)) W9:=by rw[←hW9];exact hbY.drew
 have hX0:=(hb9.block _ (Ay HPX0.out)).trans HPX0.out;have hY0:=(hb9.block _ (Ay HPY0.out)).trans HPY0.out;have hZ0:=(hb9.block _ (Ay HPZ0.out)).trans HPZ0.out;have hXY:=(hbY.block _ (Ay HPX0.out)).trans HPX0.out;have hYY:=(hbY.block _ (Ay HPY0.out)).trans HPY0.out;have hB0':=HB00.out.trans (hb9.mono HB00.out.size);have HU:=HUV _ hB0';obtain⟨g0,g1,_⟩:=A1 hXY;obtain⟨g2,g3,_⟩:=A1 hYY;obtain⟨m0,m1,_⟩:=A1 hX0;obtain⟨m2,m3,_⟩:=A1 hY0;have HPX:=Ax hX0;have HPY:=Ax hY0;have HPZ:=Ax hZ0;have HB0:=Ax hB0';have hne1:¬w.heap.size=w.heap.size+1+1:=by omega
 have hne2:¬w.heap.size+1+1=w.heap.size:=by omega
 clear hbY hb9 hX0 hY0 hZ0 hXY hYY hB0' HUV HY r1 r2 HPX0 HPY0 HPZ0 HB00;go_wp2_with fail
 go_region_held3 (fun V=>V.cell? ⟨w.heap.size,0,none⟩=some (.bool bx)/\V.cell? ⟨w.heap.size,1,none⟩=some (.slice ax nx cx)/\V.cell? ⟨w.heap.size+1,0,none⟩=some (.bool by')/\V.cell? ⟨w.heap.size+1,1,none⟩=some (.slice ay ny cy)) (go_keep)
  (first
   |(go_at_call 231;(with_reducible refine HU.out.mono ?_);rintro e V1 ⟨⟨v1,o,rfl,hd1,ho1,hv1,hl1⟩,hb1⟩;obtain⟨a1,c1,rfl,_⟩:=hd1.slice;obtain⟨k0,k1,_⟩:=A1 ((hb1.block _ (Ay HPX.out)).trans HPX.out);obtain⟨k2,k3,_⟩:=A1 ((hb1.block _ (Ay HPY.out)).trans HPY.out);have HB1:=Ax hb1;have HT:=Ax (Gw by' hd1 ho1 (HZ.out _ hv1));clear hb1 hd1 ho1 hv1)
   |(go_at_call 125;(with_reducible refine HT.out.mono ?_);rintro e V2 ⟨⟨v2,rfl,hv2⟩,hb2⟩;obtain⟨a2,c2,rfl,_⟩:=hv2.form;have hbb:=HB1.out.trans (hb2.mono HB1.out.size);obtain⟨l0,l1,_⟩:=A1 ((hbb.block _ (Ay HPX.out)).trans HPX.out);obtain⟨l2,l3,_⟩:=A1 ((hbb.block _ (Ay HPY.out)).trans HPY.out);have hpr:=((hbb.block _ (Ay HPZ.out)).trans HPZ.out);obtain⟨l4,l5,lf⟩:=A1 hpr;have lf0:=lf 0;have lf1:=lf 1;have HV:=Ax (hv2.store hpr (.bool (decide (x+y<0))) (.slice a2 (Bo (x+y).natAbs) c2));have HB2:=Ax (((HB0.out.trans (hbb.mono HB0.out.size)).setCell (p:=⟨w.heap.size+2,0,none⟩) nW (.bool (decide (x+y<0)))).setCell (p:=⟨w.heap.size+2,1,none⟩) nW (.slice a2 (Bo (x+y).natAbs) c2));clear hv2 hb2 hbb hpr lf))
 all_goals
  exact zy2
theorem aD {w:World}{vx vy:Value}{x y:Int}(hx:Bj w vx x)(hy:Bj w vy y)(hlx:Bo x.natAbs<=100000)(hly:Bo y.natAbs<=100000):Calls Tryz.prog 128 #[vx,vy] w (Fd w (x - y)):=by
 have HXN:=Ax hx;have HYN:=Ax hy;obtain⟨ax,cx,rfl,hsx⟩:=hx.form;obtain⟨ay,cy,rfl,hsy⟩:=hy.form;obtain⟨bx,hbx⟩:∃b,decide (x<0)=b:=⟨_,rfl⟩;obtain⟨by',hby⟩:∃b,decide (y<0)=b:=⟨_,rfl⟩;obtain⟨nx,hnx⟩:∃n,Bo x.natAbs=n:=⟨_,rfl⟩;obtain⟨ny,hny⟩:∃n,Bo y.natAbs=n:=⟨_,rfl⟩;have hxi:(bx=true↔x<0):=by rw[←hbx];simp
 have hyi:(by'=true↔y<0):=by rw[←hby];simp
 rw[hbx,hnx,hby,hny];rw[hnx] at hsx hlx;rw[hny] at hsy hly;have hb0:Below w.heap.size w (((w.alloc (.cells #[.bool bx,.slice ax nx cx] 79)).alloc (.cells #[.bool by',.slice ay ny cy] 79)).alloc (.cells #[.bool false,.slice none 0 0] 79)):=(((Aq _ w).alloc (Ak _) _).alloc nW _).alloc oB _
 have hpx:(((w.alloc (.cells #[.bool bx,.slice ax nx cx] 79)).alloc (.cells #[.bool by',.slice ay ny cy] 79)).alloc (.cells #[.bool false,.slice none 0 0] 79)).heap[w.heap.size]? =some (.cells #[.bool bx,.slice ax nx cx] 79 (0,0)):=by
  exact zx9
 have hpy:(((w.alloc (.cells #[.bool bx,.slice ax nx cx] 79)).alloc (.cells #[.bool by',.slice ay ny cy] 79)).alloc (.cells #[.bool false,.slice none 0 0] 79)).heap[w.heap.size+1]? =some (.cells #[.bool by',.slice ay ny cy] 79 (0,0)):=by
  exact zyp
 have hpz:(((w.alloc (.cells #[.bool bx,.slice ax nx cx] 79)).alloc (.cells #[.bool by',.slice ay ny cy] 79)).alloc (.cells #[.bool false,.slice none 0 0] 79)).heap[w.heap.size+2]? =some (.cells #[.bool false,.slice none 0 0] 79 (0,0)):=by
  exact zyf
 obtain⟨W0,hW0⟩:∃W0,(((w.alloc (.cells #[.bool bx,.slice ax nx cx] 79)).alloc (.cells #[.bool by',.slice ay ny cy] 79)).alloc (.cells #[.bool false,.slice none 0 0] 79)).drew=W0:=⟨_,rfl⟩;have hB0':Below w.heap.size w W0:=by rw[←hW0];exact hb0.drew
 have hX0:W0.heap[w.heap.size]? =some (.cells #[.bool bx,.slice ax nx cx] 79 (0,0)):=by rw[←hW0];exact hpx
 have hY0:W0.heap[w.heap.size+1]? =some (.cells #[.bool by',.slice ay ny cy] 79 (0,0)):=by rw[←hW0];exact hpy
 have hZ0:W0.heap[w.heap.size+2]? =some (.cells #[.bool false,.slice none 0 0] 79 (0,0)):=by rw[←hW0];exact hpz
 have HXV:=Ax (HXN.out.below hB0');have HYV:=Ax (HYN.out.below hB0');rw[show x.natAbs=x.natAbs from rfl] at HXV;obtain⟨_,_,eX,_⟩:=HXN.out.form;have hXV:Bj W0 (.agg #[.bool bx,.slice ax nx cx]) x:=by have:=HXV.out;rw[hbx,hnx] at this;exact this
 have hYV:Bj W0 (.agg #[.bool by',.slice ay ny cy]) y:=by have:=HYV.out;rw[hby,hny] at this;exact this
 obtain⟨my,hmy⟩:∃m,-y=m:=⟨_,rfl⟩;have hng:=Mz hYV;rw[hmy] at hng;have HNG:=Ax hng;have HMY:Hid (x+my=x - y):=Ax nU;have HXW:=Ax hXV;have hlx':Bo x.natAbs<=100000:=by rw[hnx];exact hlx
 have hly':Bo my.natAbs<=100000:=by rw[←hmy,Int.natAbs_neg,hny];exact hly
 have HL:=Ax (And.intro hlx' hly');obtain⟨m0,m1,_⟩:=A1 hX0;obtain⟨m2,m3,_⟩:=A1 hY0;have HPX:=Ax hX0;have HPY:=Ax hY0;have HPZ:=Ax hZ0;have HB0:=Ax hB0';have hne1:¬w.heap.size=w.heap.size+1+1:=by omega
 have hne2:¬w.heap.size+1+1=w.heap.size:=by omega
 clear hx hy hsx hsy hbx hby hnx hny hb0 hpx hpy hpz hX0 hY0 hZ0 hB0' hxi hyi hXV hYV HXV HYV HXN HYN eX hlx' hly' hng hmy;go_enter Tryz.func128,Tryz.ntmps128;go_wp2_with fail
 go_region_held3 (fun V=>V.cell? ⟨w.heap.size,0,none⟩=some (.bool bx)/\V.cell? ⟨w.heap.size,1,none⟩=some (.slice ax nx cx)/\V.cell? ⟨w.heap.size+1,0,none⟩=some (.bool by')/\V.cell? ⟨w.heap.size+1,1,none⟩=some (.slice ay ny cy)) (go_keep)
  (first
   |(go_at_call 192;(with_reducible refine HNG.out.mono ?_);rintro e V1 ⟨⟨v1,rfl,hv1⟩,hb1⟩;obtain⟨k0,k1,_⟩:=A1 ((hb1.block _ (Ay HPX.out)).trans HPX.out);obtain⟨k2,k3,_⟩:=A1 ((hb1.block _ (Ay HPY.out)).trans HPY.out);have HB1:=Ax hb1;have HT:=Ax (Ur (HXW.out.below hb1) hv1 HL.out.1 HL.out.2);obtain⟨a1,c1,rfl,_⟩:=hv1.form;clear hb1 hv1)
   |(go_at_call 191;(with_reducible refine HT.out.mono ?_);rintro e V2 ⟨⟨v2,rfl,hv2⟩,hb2⟩;rw[HMY.out] at hv2;obtain⟨a2,c2,rfl,_⟩:=hv2.form;have hbb:=HB1.out.trans (hb2.mono HB1.out.size);obtain⟨l0,l1,_⟩:=A1 ((hbb.block _ (Ay HPX.out)).trans HPX.out);obtain⟨l2,l3,_⟩:=A1 ((hbb.block _ (Ay HPY.out)).trans HPY.out);have hpr:=((hbb.block _ (Ay HPZ.out)).trans HPZ.out);obtain⟨l4,l5,lf⟩:=A1 hpr;have lf0:=lf 0;have lf1:=lf 1;have HV:=Ax (hv2.store hpr (.bool (decide (x - y<0))) (.slice a2 (Bo (x - y).natAbs) c2));have HB2:=Ax (((HB0.out.trans (hbb.mono HB0.out.size)).setCell (p:=⟨w.heap.size+2,0,none⟩) nW (.bool (decide (x - y<0)))).setCell (p:=⟨w.heap.size+2,1,none⟩) nW (.slice a2 (Bo (x - y).natAbs) c2));clear hv2 hb2 hbb hpr lf))
 all_goals
  obtain⟨nb,hnb⟩:∃nb,decide (x - y<0)=nb:=⟨_,rfl⟩;obtain⟨kk,hkk⟩:∃k,Bo (x - y).natAbs=k:=⟨_,rfl⟩;rw[hnb,hkk] at HB2 HV ⊢;clear hnb hkk;go_wp2_with fail;refine Au (v:= .agg #[.bool nb,.slice a2 kk c2]) (by simp [results,Tryz.results128,go_sem, *]) rfl ⟨⟨_,rfl,HV.out⟩,HB2.out⟩
def Jb (x y:Int):Int:=if x<y then -1 else if x=y then 0 else 1
theorem Ru {w:World}{vx vy:Value}{x y:Int}(hx:Bj w vx x)(hy:Bj w vy y)(hlx:Bo x.natAbs<=100000)(hly:Bo y.natAbs<=100000):Calls Tryz.prog 126 #[vx,vy] w fun e w'=>e= .returned (.int .i64 (Jb x y))/\Below w.heap.size w w':=by
 have HXN:=Ax hx;have HYN:=Ax hy;obtain⟨ax,cx,rfl,hsx⟩:=hx.form;obtain⟨ay,cy,rfl,hsy⟩:=hy.form;obtain⟨bx,hbx⟩:∃b,decide (x<0)=b:=⟨_,rfl⟩;obtain⟨by',hby⟩:∃b,decide (y<0)=b:=⟨_,rfl⟩;obtain⟨nx,hnx⟩:∃n,Bo x.natAbs=n:=⟨_,rfl⟩;obtain⟨ny,hny⟩:∃n,Bo y.natAbs=n:=⟨_,rfl⟩;have hxi:(bx=true↔x<0):=by rw[←hbx];simp
 have hyi:(by'=true↔y<0):=by rw[←hby];simp
 rw[hbx,hnx,hby,hny];rw[hnx] at hsx hlx;rw[hny] at hsy hly;have hb0:Below w.heap.size w ((w.alloc (.cells #[.bool bx,.slice ax nx cx] 79)).alloc (.cells #[.bool by',.slice ay ny cy] 79)):=((Aq _ w).alloc (Ak _) _).alloc nW _;have hXV:Bj ((w.alloc (.cells #[.bool bx,.slice ax nx cx] 79)).alloc (.cells #[.bool by',.slice ay ny cy] 79)) (.agg #[.bool bx,.slice ax nx cx]) x:=by have:=HXN.out.below hb0;rw[hbx,hnx] at this;exact this
 have hYV:Bj ((w.alloc (.cells #[.bool bx,.slice ax nx cx] 79)).alloc (.cells #[.bool by',.slice ay ny cy] 79)) (.agg #[.bool by',.slice ay ny cy]) y:=by have:=HYN.out.below hb0;rw[hby,hny] at this;exact this
 have HS:=Ax (aD hXV hYV (by rw[hnx];exact hlx) (by rw[hny];exact hly));have HB0:=Ax hb0;clear hx hy hsx hsy hbx hby hnx hny hb0 hxi hyi hXV hYV HXN HYN hlx hly;go_enter Tryz.func126,Tryz.ntmps126;go_wp2_with fail;refine HS.out.mono ?_;rintro e V ⟨⟨v,rfl,hv⟩,hb⟩;obtain⟨a,c,rfl,_⟩:=hv.form;have HB:=Ax (HB0.out.trans (hb.mono HB0.out.size));clear hv hb HS HB0;by_cases h1:x<y
 ·have hz:Jb x y= -1:=by unfold Jb;rw[Ap h1]
  rw[show decide (x - y<0)=true by simp;omega];have Hz:=Ax hz;clear h1 hz;exact zw7
 rw[show decide (x - y<0)=false by simp;omega];by_cases h2:x=y
 ·have hz:Jb x y=0:=by unfold Jb;rw[Ao h1,Ap h2]
  have hl:Bo (x - y).natAbs=0:=by rw[show x - y=0 by omega];unfold Bo;rw[show(0:Int).natAbs=0 from rfl,Dr];rfl
  rw[hl];have Hz:=Ax hz;clear h1 h2 hz hl;exact zw7
 have hz:Jb x y=1:=by unfold Jb;rw[Ao h1,Ao h2]
 have hl:0<Bo (x - y).natAbs:=by unfold Bo;rw[Jf nU];simp
 obtain⟨n,hn⟩:∃n,Bo (x - y).natAbs=n:=⟨_,rfl⟩;rw[hn] at hl ⊢;have Hz:=Ax hz;have f1:decide ((0:Int)<(n:Int))=true:=Am nU;clear h1 h2 hz hn;exact zw7
open Go Go.RowKit Go.Lib
structure Tz (w wr:World)(n:Int)(i:Nat)(m:Int)(v:Value)(o:List Nat):Prop where
 row:wr.ownsRow (w.heap.size+1) 3 1 v i (C3 o)
 len:o.length=i
 ok:okD o
 val:dg n.natAbs=o++dg m.natAbs
 on:Below (w.heap.size+1) (w.alloc (.cells #[.bool false,.slice none 0 0] 79)) wr
theorem Tz.bel {w wr:World}{n:Int}{i:Nat}{m:Int}{v:Value}{o:List Nat}(h:Tz w wr n i m v o):Below w.heap.size w wr:=
 ((Aq _ w).alloc (Ak _) _).trans (h.on.mono nU)
theorem Tz.box {w wr:World}{n:Int}{i:Nat}{m:Int}{v:Value}{o:List Nat}(h:Tz w wr n i m v o):wr.heap[w.heap.size]? =some (.cells #[.bool false,.slice none 0 0] 79 (0,0)):=
 (h.on.block _ nU).trans (A0 w _)
theorem Kx {n:Nat}(h:n<=9223372036854775808):(dg n).length<=5:=by
 have:n<10000^5:=by omega
 exact G2 this
theorem Jd {w:World}(n:Int)(h0: -9223372036854775808<=n)(h1:n<=9223372036854775807):Calls Tryz.prog 47 #[.int .i64 n] w (Fd w n):=by
 have hlen:=Kx (n:=n.natAbs) nU;have HS:Hid (Tz w (w.alloc (.cells #[.bool false,.slice none 0 0] 79)) n 0 n (.slice none 0 0) []):=Ax ⟨World.ownsRow_nil _ _ _ _,rfl,fun _ h=>by(cases h),rfl,Aq _ _⟩;have HN:=Ax (And.intro h0 h1);have HLN:=Ax hlen;obtain⟨ng,hng⟩:∃b,decide (n<0)=b:=⟨_,rfl⟩;have Hng:=Ax hng;clear h0 h1 hlen;go_enter Tryz.func47,Tryz.ntmps47;go_wp2_with fail;clear hng
 go_loopw [0,4] (fun v0 v4 wr=>∃(i:Nat) (m:Int) (o:List Nat) (oa:Option Addr) (oc:Nat),i<=5/\v0= .int .i64 m/\v4= .slice oa i oc/\Hid (Tz w wr n i m (.slice oa i oc) o/\m.natAbs<=n.natAbs/\ -9223372036854775808<=m/\m<=9223372036854775807)) (fun v0 _ _=>(intOf v0).natAbs)
 case atStart=>exact⟨0,n,[],none,0,by omega,rfl,rfl,Ax ⟨HS.out,Ak _,HN.out.1,HN.out.2⟩⟩
 obtain⟨i,m,o,oa,oc,hi,rfl,rfl,hq⟩:=hrel;obtain⟨hU,hm1,hm2,hm3⟩:=hq.out;by_cases hm0:m=0
 ·subst hm0;have hv:o=dg n.natAbs:=by rw[hU.val];simp [Dr]
  have hd:Ch wr (.slice oa i oc) (dg n.natAbs):=by
   have:=HLN.out
   rw[←hv] at this ⊢;exact Ch.of_row nU hU.len.symm hU.row
  have hN:Bj wr (.agg #[.bool ng,.slice oa i oc]) n:=⟨_,by rw[Hng.out],hd⟩;obtain⟨x0,x1,xf⟩:=A1 hU.box;have xf0:=xf 0;have xf1:=xf 1;have HV:=Ax (hN.store hU.box (.bool ng) (.slice oa i oc));have HB:=Ax ((hU.bel.setCell (p:=⟨w.heap.size,0,none⟩) (Ak _) (.bool ng)).setCell (p:=⟨w.heap.size,1,none⟩) (Ak _) (.slice oa i oc));clear hq hU hv hd hN xf HS hm1 hm2 hm3;go_wp2_with fail;refine Au (v:= .agg #[.bool ng,.slice oa i oc]) (by simp [results,Tryz.results47,go_sem, *]) rfl ⟨⟨_,rfl,HV.out⟩,HB.out⟩
 have p1:(m !=0)=true:=by simpa using hm0
 have hi5:i+1<=5:=by
  have h2:=HLN.out;rw[hU.val,Ab,hU.len,Jf nU] at h2;simp only[Aa] at h2;omega
 rcases Int.lt_or_le m 0 with hneg|hneg
 ·obtain⟨k,rfl⟩:∃k:Nat,m= -(k:Int):=⟨m.natAbs,by omega⟩;rcases Nat.eq_zero_or_pos (k % 10000) with hxx|hxx
  ·have hk0:k≠0:=by omega
   have hdg:=Jf hk0;obtain⟨x,hx⟩:∃x,k % 10000=x:=⟨_,rfl⟩;obtain⟨y,hy⟩:∃y,k/10000=y:=⟨_,rfl⟩;have hxl:x<10000:=by omega
   have hyk:y<k:=by omega
   rw[hx,hy] at hdg;have hz:(-(k:Int)).tmod 10000= -(x:Int):=by rw[Int.neg_tmod,Int.tmod_eq_emod_of_nonneg nU];omega
   have hd:(-(k:Int)).tdiv 10000= -(y:Int):=by rw[Int.neg_tdiv,Int.tdiv_eq_ediv_of_nonneg nU];omega
   have hx0:x=0:=by omega
   subst hx0;have p2:decide (-((0:Nat):Int)<0)=false:=by decide
   have p3:decide ((0:Int)<0)=false:=by decide
   skip
   skip
   have Hrow1:=Ax (hU.row.alloc (.cells #[.int .i64 0] 3));have HN1:=Ax (A0 wr (.cells #[.int .i64 0] 3));have HZ:Hid ((wr.alloc (.cells #[.int .i64 0] 3)).heap.size=wr.heap.size+1):=Ax nW;have hsr:=hU.bel.size;have Hown:=Ax (Cf hU.row);have hB0:=hU.box;have hV:=hU.val;have ho1:okD (o++[0]):=E0 hU.ok nU;have hV2:dg n.natAbs=(o++[0])++dg (-(y:Int)).natAbs:=by rw[hV,show(-(k:Int)).natAbs=k by omega,hdg,show(-(y:Int)).natAbs=y by omega];simp
   have HV2:=Ax hV2;have Ho1:=Ax ho1;have HU:=Ax hU;have hle:(-(y:Int)).natAbs<=n.natAbs:=by omega
   have HLE:=Ax hle;obtain⟨i0,hi0,hz0,hz1,hz2⟩:=Cg;have Hi0:=Ax hi0;have Hy0:=Ax hz0;have Hy1:=Ax hz1;have Hy2:=Ax hz2;have HYK:=Ax hyk;clear hq hU hi0 hz0 hz1 hz2 hdg hx hy hV hV2 ho1 hle HS hB0 HYK;go_wp2_with ((refine wpList_append_lies _ rfl (.tmp 16) (.tmp 18) _ rfl (w.heap.size+1) 3 i0 (.int .i64 0) 1 8 Tryz.underlying41 Hi0.out Hy0.out Hy1.out Hy2.out rfl nV (.slice oa i oc) i (C3 o) rfl Hrow1.out ⟨wr.heap.size,0,none⟩ 1 1 [.int .i64 0] rfl rfl (World.news_of_block (cs:= #[.int .i64 0]) HN1.out) oH nV oF nU oL (wr.heap.size+1) HZ.out ?_;intro g6 cap w6 hown6 hgrow6 hat6 hlt6));have hB6:=Ck (v:= .slice oa i oc) (HU.out.on.alloc qR (.cells #[.int .i64 0] 3)) hgrow6 Hown.out pW;rw[show(0:Int)=((0:Nat):Int) from rfl,←C6] at hown6;have HR6:Hid (Tz w w6 n (i+1) (-(y:Int)) (.slice (some ⟨g6,0,none⟩) (i+1) cap) (o++[0])):=Ax ⟨hown6,by rw[Ab,HU.out.len];rfl,Ho1.out,HV2.out,hB6⟩;clear hown6 hgrow6 hat6 hlt6 hB6 Hrow1 HN1 HZ hsr Hown HU;go_wp2_with fail;go_roundw
   case rel=>exact⟨i+1,-(y:Int),o++[0],some ⟨g6,0,none⟩,cap,hi5,rfl,by go_num,Ax ⟨HR6.out,HLE.out,by omega,by omega⟩⟩
   case measure=>simp [intOf];omega
  have hk0:k≠0:=by omega
  have hdg:=Jf hk0;obtain⟨x,hx⟩:∃x,k % 10000=x:=⟨_,rfl⟩;obtain⟨y,hy⟩:∃y,k/10000=y:=⟨_,rfl⟩;have hxl:x<10000:=by omega
  have hyk:y<k:=by omega
  rw[hx,hy] at hdg;have hz:(-(k:Int)).tmod 10000= -(x:Int):=by rw[Int.neg_tmod,Int.tmod_eq_emod_of_nonneg nU];omega
  have hd:(-(k:Int)).tdiv 10000= -(y:Int):=by rw[Int.neg_tdiv,Int.tdiv_eq_ediv_of_nonneg nU];omega
  have hx0:0<x:=by omega
  have p2:decide (-(x:Int)<0)=true:=Am nU;have q0: -(9223372036854775807:Int)<=(x:Int):=by omega
  have hr1:(-9223372036854775808:Int)<=(x:Int):=by omega
  have hr2:(x:Int)<=9223372036854775807:=by omega
  have Hrow1:=Ax (hU.row.alloc (.cells #[.int .i64 (x:Int)] 3));have HN1:=Ax (A0 wr (.cells #[.int .i64 (x:Int)] 3));have HZ:Hid ((wr.alloc (.cells #[.int .i64 (x:Int)] 3)).heap.size=wr.heap.size+1):=Ax nW;have hsr:=hU.bel.size;have Hown:=Ax (Cf hU.row);have hB0:=hU.box;have hV:=hU.val;have ho1:okD (o++[x]):=E0 hU.ok nU;have hV2:dg n.natAbs=(o++[x])++dg (-(y:Int)).natAbs:=by rw[hV,show(-(k:Int)).natAbs=k by omega,hdg,show(-(y:Int)).natAbs=y by omega];simp
  have HV2:=Ax hV2;have Ho1:=Ax ho1;have HU:=Ax hU;have hle:(-(y:Int)).natAbs<=n.natAbs:=by omega
  have HLE:=Ax hle;obtain⟨i0,hi0,hz0,hz1,hz2⟩:=Cg;have Hi0:=Ax hi0;have Hy0:=Ax hz0;have Hy1:=Ax hz1;have Hy2:=Ax hz2;have HYK:=Ax hyk;clear hq hU hi0 hz0 hz1 hz2 hdg hx hy hV hV2 ho1 hle HS hB0 HYK;go_wp2_with ((refine wpList_append_lies _ rfl (.tmp 16) (.tmp 18) _ rfl (w.heap.size+1) 3 i0 (.int .i64 0) 1 8 Tryz.underlying41 Hi0.out Hy0.out Hy1.out Hy2.out rfl nV (.slice oa i oc) i (C3 o) rfl Hrow1.out ⟨wr.heap.size,0,none⟩ 1 1 [.int .i64 (x:Int)] rfl rfl (World.news_of_block (cs:= #[.int .i64 (x:Int)]) HN1.out) oH nV oF nU oL (wr.heap.size+1) HZ.out ?_;intro g6 cap w6 hown6 hgrow6 hat6 hlt6));have hB6:=Ck (v:= .slice oa i oc) (HU.out.on.alloc qR (.cells #[.int .i64 (x:Int)] 3)) hgrow6 Hown.out pW;rw[←C6] at hown6;have HR6:Hid (Tz w w6 n (i+1) (-(y:Int)) (.slice (some ⟨g6,0,none⟩) (i+1) cap) (o++[x])):=Ax ⟨hown6,by rw[Ab,HU.out.len];rfl,Ho1.out,HV2.out,hB6⟩;clear hown6 hgrow6 hat6 hlt6 hB6 Hrow1 HN1 HZ hsr Hown HU;go_wp2_with fail;go_roundw
  case rel=>exact⟨i+1,-(y:Int),o++[x],some ⟨g6,0,none⟩,cap,hi5,rfl,by go_num,Ax ⟨HR6.out,HLE.out,by omega,by omega⟩⟩
  case measure=>simp [intOf];omega
 obtain⟨k,rfl⟩:∃k:Nat,m=(k:Int):=⟨m.toNat,by omega⟩;have hk0:k≠0:=by omega
 have hdg:=Jf hk0;obtain⟨x,hx⟩:∃x,k % 10000=x:=⟨_,rfl⟩;obtain⟨y,hy⟩:∃y,k/10000=y:=⟨_,rfl⟩;have hxl:x<10000:=by omega
 have hyk:y<k:=by omega
 rw[hx,hy] at hdg;have hz:(k:Int) % 10000=(x:Int):=by omega
 have hd:(k:Int)/10000=(y:Int):=by omega
 have p2:decide ((x:Int)<0)=false:=by simp
 have hr1:(-9223372036854775808:Int)<=(x:Int):=by omega
 have hr2:(x:Int)<=9223372036854775807:=by omega
 have Hrow1:=Ax (hU.row.alloc (.cells #[.int .i64 (x:Int)] 3));have HN1:=Ax (A0 wr (.cells #[.int .i64 (x:Int)] 3));have HZ:Hid ((wr.alloc (.cells #[.int .i64 (x:Int)] 3)).heap.size=wr.heap.size+1):=Ax nW;have hsr:=hU.bel.size;have Hown:=Ax (Cf hU.row);have hB0:=hU.box;have hV:=hU.val;have ho1:okD (o++[x]):=E0 hU.ok nU;have hV2:dg n.natAbs=(o++[x])++dg ((y:Int)).natAbs:=by rw[hV,show((k:Int)).natAbs=k by omega,hdg,show((y:Int)).natAbs=y by omega];simp
 have HV2:=Ax hV2;have Ho1:=Ax ho1;have HU:=Ax hU;have hle:((y:Int)).natAbs<=n.natAbs:=by omega
 have HLE:=Ax hle;obtain⟨i0,hi0,hz0,hz1,hz2⟩:=Cg;have Hi0:=Ax hi0;have Hy0:=Ax hz0;have Hy1:=Ax hz1;have Hy2:=Ax hz2;have HYK:=Ax hyk;clear hq hU hi0 hz0 hz1 hz2 hdg hx hy hV hV2 ho1 hle HS hB0 HYK;go_wp2_with ((refine wpList_append_lies _ rfl (.tmp 16) (.tmp 18) _ rfl (w.heap.size+1) 3 i0 (.int .i64 0) 1 8 Tryz.underlying41 Hi0.out Hy0.out Hy1.out Hy2.out rfl nV (.slice oa i oc) i (C3 o) rfl Hrow1.out ⟨wr.heap.size,0,none⟩ 1 1 [.int .i64 (x:Int)] rfl rfl (World.news_of_block (cs:= #[.int .i64 (x:Int)]) HN1.out) oH nV oF nU oL (wr.heap.size+1) HZ.out ?_;intro g6 cap w6 hown6 hgrow6 hat6 hlt6));have hB6:=Ck (v:= .slice oa i oc) (HU.out.on.alloc qR (.cells #[.int .i64 (x:Int)] 3)) hgrow6 Hown.out pW;rw[←C6] at hown6;have HR6:Hid (Tz w w6 n (i+1) ((y:Int)) (.slice (some ⟨g6,0,none⟩) (i+1) cap) (o++[x])):=Ax ⟨hown6,by rw[Ab,HU.out.len];rfl,Ho1.out,HV2.out,hB6⟩;clear hown6 hgrow6 hat6 hlt6 hB6 Hrow1 HN1 HZ hsr Hown HU;go_wp2_with fail;go_roundw
 case rel=>exact⟨i+1,(y:Int),o++[x],some ⟨g6,0,none⟩,cap,hi5,rfl,by go_num,Ax ⟨HR6.out,HLE.out,by omega,by omega⟩⟩
 case measure=>simp [intOf];omega
end Go.Proofs.YtgfakdobajgnfaaGreatDoor

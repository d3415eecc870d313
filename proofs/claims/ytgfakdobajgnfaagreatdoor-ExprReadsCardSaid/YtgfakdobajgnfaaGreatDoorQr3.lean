import Derived.Deep.RegionHeld3
import Derived.Test.YtgfakdobajgnfaaGreatDoorQr2
namespace Go.Proofs.YtgfakdobajgnfaaGreatDoor
open Go Go.RowKit Go.Lib
structure DnAt (w wr:World)(la lb:List Nat)(i owed:Nat)(v:Value)(o:List Nat):Prop where
 row:wr.ownsRow w.heap.size 3 1 v i (dnums o)
 len:o.length=i
 ok:okD o
 val:nv o+nv (lb.take i)=nv (la.take i)+owed*10000^i
 bel:Below w.heap.size w wr
theorem down_step {O p A B x y d o o':Nat}(h:O+B=A+o*p)(hd:o+d+y=x+10000*o'):O+p*d+(B+p*y)=A+p*x+o'*(p*10000):=by
 have h1:p*(o+d+y)=p*(x+10000*o'):=by rw[hd]
 rw[Nat.mul_add,Nat.mul_add,Nat.mul_add] at h1
 have h2:p*(10000*o')=o'*(p*10000):=by rw[←Nat.mul_assoc,Nat.mul_comm]
 have h3:p*o=o*p:=Nat.mul_comm _ _
 omega
set_option maxRecDepth 100000 in
set_option maxHeartbeats 8000000 in
theorem down_any {w:World}{sa sb:Value}{la lb:List Nat}(ha:DgRd w sa la)(hb:DgRd w sb lb)(hoa:okD la)(hob:okD lb)(hla:la.length≤100000)(hlb:lb.length≤la.length)(hle:nv lb≤nv la):
 Calls Tryz.prog 231 #[sa,sb] w fun e w'=>(∃v o,e= .returned v∧DgRd w' v o∧okD o∧nv o=nv la - nv lb∧o.length≤la.length)∧Below w.heap.size w w':=by
 obtain⟨aa,ca,rfl,_⟩:=ha.slice
 obtain⟨ab,cb,rfl,_⟩:=hb.slice
 have HA:=hide ha
 have HBb:=hide hb
 have HOA:=hide hoa
 have HOB:=hide hob
 have HLE:=hide hle
 have HU0:Hid (DnAt w w la lb 0 0 (.slice none 0 0) []):=hide ⟨World.ownsRow_nil _ _ _ _,rfl,fun _ h=>by(cases h),by simp [nv],Below.refl _ _⟩
 clear ha hb hoa hob hle
 go_enter Tryz.func231,Tryz.ntmps231
 go_wp2_with fail
 go_loopw [5,6,7] (fun v5 v6 v7 wr=>∃(i owed:Nat) (o:List Nat) (oa:Option Addr) (oc:Nat),owed≤1∧i≤la.length∧v7= .int .i64 i∧v5= .slice oa i oc∧v6= .int .i64 owed∧Hid (DnAt w wr la lb i owed (.slice oa i oc) o)) (fun _ _ v7 _=>la.length - (intOf v7).toNat)
 case atStart=>exact⟨0,0,[],none,0,by omega,by omega,rfl,rfl,rfl,HU0⟩
 case round=>
  obtain⟨i,owed,o,oa,oc,hm,hi,rfl,rfl,rfl,hq⟩:=hrel
  have hU:=hq.out
  by_cases hia:i<la.length
  ·obtain⟨ba,fa,rfl,ha⟩:=HA.out.at hia
   have ha:=bcell hU.bel ha
   have hxl:=HOA.out _ (List.getElem_mem hia)
   have hta:=nv_take_succ la i hia
   obtain⟨x,hx⟩:∃x,la[i]=x:=⟨_,rfl⟩
   rw[hx] at ha hta hxl
   have p1:decide ((i:Int)<(la.length:Int))=true:=decide_eq_true (by omega)
   have p1':(i:Int)<(la.length:Int):=by omega
   have q1:(0:Int)≤(x:Int):=by omega
   have q2:(x:Int)≤9999:=by omega
   by_cases hib:i<lb.length
   ·by_cases hn:x<owed+lb[i]
    ·skip
     obtain⟨bb,fb,rfl,hb⟩:=HBb.out.at hib
     have hb:=bcell hU.bel hb
     have hyl:=HOB.out _ (List.getElem_mem hib)
     have htb:=nv_take_succ lb i hib
     obtain⟨y,hy⟩:∃y,lb[i]=y:=⟨_,rfl⟩
     rw[hy] at hb htb hyl
     have p2:decide ((i:Int)<(lb.length:Int))=true:=decide_eq_true (by omega)
     have p2':(i:Int)<(lb.length:Int):=by omega
     have q3:(0:Int)≤(y:Int):=by omega
     have q4:(y:Int)≤9999:=by omega
     have q0:(0:Int)≤(i:Int):=by omega
     have q5:(0:Int)≤(owed:Int):=by omega
     have q6:(owed:Int)≤1:=by omega
     have p3:decide ((x:Int) - (owed:Int) - (y:Int)<0)=true:=by simp;omega
     have hz:(((x:Int) - (owed:Int) - (y:Int)+10000):Int)=((x+10000 - owed - y:Nat):Int):=by omega
     have hd9:x+10000 - owed - y<10000:=by omega
     have HVL:=hide (down_step (O:=nv o) (p:=10000^i) (A:=nv (la.take i)) (B:=nv (lb.take i)) (x:=x) (y:=y) (d:=x+10000 - owed - y) (o:=owed) (o':=1) hU.val (by omega))
     have Htb:=hide htb
     have Hta:=hide hta
     have Hrow1:=hide (hU.row.alloc (.cells #[.int .i64 (((x:Int) - (owed:Int) - (y:Int)+10000))] 3))
     have HN1:=hide (heap_alloc0 wr (.cells #[.int .i64 (((x:Int) - (owed:Int) - (y:Int)+10000))] 3))
     have HZ:Hid ((wr.alloc (.cells #[.int .i64 (((x:Int) - (owed:Int) - (y:Int)+10000))] 3)).heap.size=wr.heap.size+1):=hide (by simp)
     have hsr:=hU.bel.size
     have Hown:=hide (row_own hU.row)
     have HU:=hide hU
     have Hzz:=hide hz
     obtain⟨i0,hi0,hz0,hz1,hz2⟩:=dinfo_parts
     have Hi0:=hide hi0
     have Hy0:=hide hz0
     have Hy1:=hide hz1
     have Hy2:=hide hz2
     clear hq hU hz hi0 hz0 hz1 hz2 htb hta hx hy
     go_wp2_with ((refine wpList_append_lies _ rfl (.tmp 35) (.tmp 37) _ rfl w.heap.size 3 i0 (.int .i64 0) 1 8 Tryz.underlying41 Hi0.out Hy0.out Hy1.out Hy2.out rfl (by decide) (.slice oa i oc) i (dnums o) rfl Hrow1.out ⟨wr.heap.size,0,none⟩ 1 1 [.int .i64 (((x:Int) - (owed:Int) - (y:Int)+10000))] rfl rfl (World.news_of_block (cs:= #[.int .i64 (((x:Int) - (owed:Int) - (y:Int)+10000))]) HN1.out) (by simp [Value.oneCell']) (by decide) (by unfold maxLen;omega) (by omega) (by rw[HZ.out];omega) (wr.heap.size+1) HZ.out ?_;intro g6 cap w6 hown6 hgrow6 hat6 hlt6))
     have hB6:=below_grown' (v:= .slice oa i oc) (HU.out.bel.alloc HU.out.bel.size (.cells #[.int .i64 (((x:Int) - (owed:Int) - (y:Int)+10000))] 3)) hgrow6 Hown.out (by rw[HZ.out];omega)
     rw[Hzz.out,←dnums_snoc] at hown6
     have HR6:Hid (DnAt w w6 la lb (i+1) 1 (.slice (some ⟨g6,0,none⟩) (i+1) cap) (o++[x+10000 - owed - y])):=hide ⟨hown6,by rw[List.length_append,HU.out.len];rfl,ok_snoc HU.out.ok hd9,by
      rw[nv_snoc,HU.out.len,Htb.out,Hta.out,Nat.pow_succ]
      exact HVL.out,hB6⟩
     clear hown6 hgrow6 hat6 hlt6 hB6 Hrow1 HN1 HZ hsr Hown HU HVL
     go_wp2_with fail
     go_roundw
     case rel=>exact⟨i+1,1,o++[x+10000 - owed - y],some ⟨g6,0,none⟩,cap,by omega,by omega,by go_num,rfl,rfl,HR6⟩
     case measure=>simp [intOf];omega
    ·skip
     obtain⟨bb,fb,rfl,hb⟩:=HBb.out.at hib
     have hb:=bcell hU.bel hb
     have hyl:=HOB.out _ (List.getElem_mem hib)
     have htb:=nv_take_succ lb i hib
     obtain⟨y,hy⟩:∃y,lb[i]=y:=⟨_,rfl⟩
     rw[hy] at hb htb hyl
     have p2:decide ((i:Int)<(lb.length:Int))=true:=decide_eq_true (by omega)
     have p2':(i:Int)<(lb.length:Int):=by omega
     have q3:(0:Int)≤(y:Int):=by omega
     have q4:(y:Int)≤9999:=by omega
     have q0:(0:Int)≤(i:Int):=by omega
     have q5:(0:Int)≤(owed:Int):=by omega
     have q6:(owed:Int)≤1:=by omega
     have p3:decide ((x:Int) - (owed:Int) - (y:Int)<0)=false:=by simp;omega
     have hz:((x:Int) - (owed:Int) - (y:Int):Int)=((x - owed - y:Nat):Int):=by omega
     have hd9:x - owed - y<10000:=by omega
     have HVL:=hide (down_step (O:=nv o) (p:=10000^i) (A:=nv (la.take i)) (B:=nv (lb.take i)) (x:=x) (y:=y) (d:=x - owed - y) (o:=owed) (o':=0) hU.val (by omega))
     have Htb:=hide htb
     have Hta:=hide hta
     have Hrow1:=hide (hU.row.alloc (.cells #[.int .i64 ((x:Int) - (owed:Int) - (y:Int))] 3))
     have HN1:=hide (heap_alloc0 wr (.cells #[.int .i64 ((x:Int) - (owed:Int) - (y:Int))] 3))
     have HZ:Hid ((wr.alloc (.cells #[.int .i64 ((x:Int) - (owed:Int) - (y:Int))] 3)).heap.size=wr.heap.size+1):=hide (by simp)
     have hsr:=hU.bel.size
     have Hown:=hide (row_own hU.row)
     have HU:=hide hU
     have Hzz:=hide hz
     obtain⟨i0,hi0,hz0,hz1,hz2⟩:=dinfo_parts
     have Hi0:=hide hi0
     have Hy0:=hide hz0
     have Hy1:=hide hz1
     have Hy2:=hide hz2
     clear hq hU hz hi0 hz0 hz1 hz2 htb hta hx hy
     go_wp2_with ((refine wpList_append_lies _ rfl (.tmp 35) (.tmp 37) _ rfl w.heap.size 3 i0 (.int .i64 0) 1 8 Tryz.underlying41 Hi0.out Hy0.out Hy1.out Hy2.out rfl (by decide) (.slice oa i oc) i (dnums o) rfl Hrow1.out ⟨wr.heap.size,0,none⟩ 1 1 [.int .i64 ((x:Int) - (owed:Int) - (y:Int))] rfl rfl (World.news_of_block (cs:= #[.int .i64 ((x:Int) - (owed:Int) - (y:Int))]) HN1.out) (by simp [Value.oneCell']) (by decide) (by unfold maxLen;omega) (by omega) (by rw[HZ.out];omega) (wr.heap.size+1) HZ.out ?_;intro g6 cap w6 hown6 hgrow6 hat6 hlt6))
     have hB6:=below_grown' (v:= .slice oa i oc) (HU.out.bel.alloc HU.out.bel.size (.cells #[.int .i64 ((x:Int) - (owed:Int) - (y:Int))] 3)) hgrow6 Hown.out (by rw[HZ.out];omega)
     rw[Hzz.out,←dnums_snoc] at hown6
     have HR6:Hid (DnAt w w6 la lb (i+1) 0 (.slice (some ⟨g6,0,none⟩) (i+1) cap) (o++[x - owed - y])):=hide ⟨hown6,by rw[List.length_append,HU.out.len];rfl,ok_snoc HU.out.ok hd9,by
      rw[nv_snoc,HU.out.len,Htb.out,Hta.out,Nat.pow_succ]
      exact HVL.out,hB6⟩
     clear hown6 hgrow6 hat6 hlt6 hB6 Hrow1 HN1 HZ hsr Hown HU HVL
     go_wp2_with fail
     go_roundw
     case rel=>exact⟨i+1,0,o++[x - owed - y],some ⟨g6,0,none⟩,cap,by omega,by omega,by go_num,rfl,rfl,HR6⟩
     case measure=>simp [intOf];omega
   ·by_cases hn:x<owed
    ·skip
     have htb:nv (lb.take (i+1))=nv (lb.take i)+10000^i*0:=by rw[List.take_of_length_le (by omega),List.take_of_length_le (by omega)];simp
     have p2:decide ((i:Int)<(lb.length:Int))=false:=decide_eq_false (by omega)
     have q0:(0:Int)≤(i:Int):=by omega
     have q5:(0:Int)≤(owed:Int):=by omega
     have q6:(owed:Int)≤1:=by omega
     have p3:decide ((x:Int) - (owed:Int)<0)=true:=by simp;omega
     have hz:(((x:Int) - (owed:Int)+10000):Int)=((x+10000 - owed:Nat):Int):=by omega
     have hd9:x+10000 - owed<10000:=by omega
     have HVL:=hide (down_step (O:=nv o) (p:=10000^i) (A:=nv (la.take i)) (B:=nv (lb.take i)) (x:=x) (y:=0) (d:=x+10000 - owed) (o:=owed) (o':=1) hU.val (by omega))
     have Htb:=hide htb
     have Hta:=hide hta
     have Hrow1:=hide (hU.row.alloc (.cells #[.int .i64 (((x:Int) - (owed:Int)+10000))] 3))
     have HN1:=hide (heap_alloc0 wr (.cells #[.int .i64 (((x:Int) - (owed:Int)+10000))] 3))
     have HZ:Hid ((wr.alloc (.cells #[.int .i64 (((x:Int) - (owed:Int)+10000))] 3)).heap.size=wr.heap.size+1):=hide (by simp)
     have hsr:=hU.bel.size
     have Hown:=hide (row_own hU.row)
     have HU:=hide hU
     have Hzz:=hide hz
     obtain⟨i0,hi0,hz0,hz1,hz2⟩:=dinfo_parts
     have Hi0:=hide hi0
     have Hy0:=hide hz0
     have Hy1:=hide hz1
     have Hy2:=hide hz2
     clear hq hU hz hi0 hz0 hz1 hz2 htb hta hx
     go_wp2_with ((refine wpList_append_lies _ rfl (.tmp 35) (.tmp 37) _ rfl w.heap.size 3 i0 (.int .i64 0) 1 8 Tryz.underlying41 Hi0.out Hy0.out Hy1.out Hy2.out rfl (by decide) (.slice oa i oc) i (dnums o) rfl Hrow1.out ⟨wr.heap.size,0,none⟩ 1 1 [.int .i64 (((x:Int) - (owed:Int)+10000))] rfl rfl (World.news_of_block (cs:= #[.int .i64 (((x:Int) - (owed:Int)+10000))]) HN1.out) (by simp [Value.oneCell']) (by decide) (by unfold maxLen;omega) (by omega) (by rw[HZ.out];omega) (wr.heap.size+1) HZ.out ?_;intro g6 cap w6 hown6 hgrow6 hat6 hlt6))
     have hB6:=below_grown' (v:= .slice oa i oc) (HU.out.bel.alloc HU.out.bel.size (.cells #[.int .i64 (((x:Int) - (owed:Int)+10000))] 3)) hgrow6 Hown.out (by rw[HZ.out];omega)
     rw[Hzz.out,←dnums_snoc] at hown6
     have HR6:Hid (DnAt w w6 la lb (i+1) 1 (.slice (some ⟨g6,0,none⟩) (i+1) cap) (o++[x+10000 - owed])):=hide ⟨hown6,by rw[List.length_append,HU.out.len];rfl,ok_snoc HU.out.ok hd9,by
      rw[nv_snoc,HU.out.len,Htb.out,Hta.out,Nat.pow_succ]
      exact HVL.out,hB6⟩
     clear hown6 hgrow6 hat6 hlt6 hB6 Hrow1 HN1 HZ hsr Hown HU HVL
     go_wp2_with fail
     go_roundw
     case rel=>exact⟨i+1,1,o++[x+10000 - owed],some ⟨g6,0,none⟩,cap,by omega,by omega,by go_num,rfl,rfl,HR6⟩
     case measure=>simp [intOf];omega
    ·skip
     have htb:nv (lb.take (i+1))=nv (lb.take i)+10000^i*0:=by rw[List.take_of_length_le (by omega),List.take_of_length_le (by omega)];simp
     have p2:decide ((i:Int)<(lb.length:Int))=false:=decide_eq_false (by omega)
     have q0:(0:Int)≤(i:Int):=by omega
     have q5:(0:Int)≤(owed:Int):=by omega
     have q6:(owed:Int)≤1:=by omega
     have p3:decide ((x:Int) - (owed:Int)<0)=false:=by simp;omega
     have hz:((x:Int) - (owed:Int):Int)=((x - owed:Nat):Int):=by omega
     have hd9:x - owed<10000:=by omega
     have HVL:=hide (down_step (O:=nv o) (p:=10000^i) (A:=nv (la.take i)) (B:=nv (lb.take i)) (x:=x) (y:=0) (d:=x - owed) (o:=owed) (o':=0) hU.val (by omega))
     have Htb:=hide htb
     have Hta:=hide hta
     have Hrow1:=hide (hU.row.alloc (.cells #[.int .i64 ((x:Int) - (owed:Int))] 3))
     have HN1:=hide (heap_alloc0 wr (.cells #[.int .i64 ((x:Int) - (owed:Int))] 3))
     have HZ:Hid ((wr.alloc (.cells #[.int .i64 ((x:Int) - (owed:Int))] 3)).heap.size=wr.heap.size+1):=hide (by simp)
     have hsr:=hU.bel.size
     have Hown:=hide (row_own hU.row)
     have HU:=hide hU
     have Hzz:=hide hz
     obtain⟨i0,hi0,hz0,hz1,hz2⟩:=dinfo_parts
     have Hi0:=hide hi0
     have Hy0:=hide hz0
     have Hy1:=hide hz1
     have Hy2:=hide hz2
     clear hq hU hz hi0 hz0 hz1 hz2 htb hta hx
     go_wp2_with ((refine wpList_append_lies _ rfl (.tmp 35) (.tmp 37) _ rfl w.heap.size 3 i0 (.int .i64 0) 1 8 Tryz.underlying41 Hi0.out Hy0.out Hy1.out Hy2.out rfl (by decide) (.slice oa i oc) i (dnums o) rfl Hrow1.out ⟨wr.heap.size,0,none⟩ 1 1 [.int .i64 ((x:Int) - (owed:Int))] rfl rfl (World.news_of_block (cs:= #[.int .i64 ((x:Int) - (owed:Int))]) HN1.out) (by simp [Value.oneCell']) (by decide) (by unfold maxLen;omega) (by omega) (by rw[HZ.out];omega) (wr.heap.size+1) HZ.out ?_;intro g6 cap w6 hown6 hgrow6 hat6 hlt6))
     have hB6:=below_grown' (v:= .slice oa i oc) (HU.out.bel.alloc HU.out.bel.size (.cells #[.int .i64 ((x:Int) - (owed:Int))] 3)) hgrow6 Hown.out (by rw[HZ.out];omega)
     rw[Hzz.out,←dnums_snoc] at hown6
     have HR6:Hid (DnAt w w6 la lb (i+1) 0 (.slice (some ⟨g6,0,none⟩) (i+1) cap) (o++[x - owed])):=hide ⟨hown6,by rw[List.length_append,HU.out.len];rfl,ok_snoc HU.out.ok hd9,by
      rw[nv_snoc,HU.out.len,Htb.out,Hta.out,Nat.pow_succ]
      exact HVL.out,hB6⟩
     clear hown6 hgrow6 hat6 hlt6 hB6 Hrow1 HN1 HZ hsr Hown HU HVL
     go_wp2_with fail
     go_roundw
     case rel=>exact⟨i+1,0,o++[x - owed],some ⟨g6,0,none⟩,cap,by omega,by omega,by go_num,rfl,rfl,HR6⟩
     case measure=>simp [intOf];omega
  ·obtain rfl:i=la.length:=by omega
   have p1:decide ((la.length:Int)<(la.length:Int))=false:=by simp
   have hres:DgRd wr (.slice oa la.length oc) o:=DgRd.of_row (by rw[hU.len];omega) hU.len.symm hU.row
   have hval:nv o=nv la - nv lb:=by
    have h1:=hU.val
    rw[List.take_length,List.take_of_length_le (by omega)] at h1
    have h2:=nv_lt o hU.ok
    rw[hU.len] at h2
    have h3:=HLE.out
    have:owed=0:=by
     obtain e|e:owed=0∨owed=1:=by omega
     ·exact e
     ·rw[e] at h1
      omega
    rw[this] at h1
    omega
   have HR:Hid (∃v o',Ending.returned (.slice oa la.length oc)= .returned v∧DgRd wr v o'∧okD o'∧nv o'=nv la - nv lb∧o'.length≤la.length):=hide ⟨_,o,rfl,hres,hU.ok,hval,by rw[hU.len];omega⟩
   have HB:=hide hU.bel
   clear hq hU hres hval hi hm hia
   go_wp2_with fail
   go_ret
   exact⟨HR.out,HB.out⟩
def ByIs (n m:Nat)(r:Int):Prop:=(r<0↔n<m)∧(0<r↔m<n)∧ -100000≤r∧r≤100000
set_option maxRecDepth 100000 in
set_option maxHeartbeats 8000000 in
theorem by_any {w:World}{sa sb:Value}{n m:Nat}(ha:DgRd w sa (dg n))(hb:DgRd w sb (dg m))(hla:lenD n≤100000)(hlb:lenD m≤100000):
 Calls Tryz.prog 230 #[sa,sb] w fun e w'=>(∃r,e= .returned (.int .i64 r)∧ByIs n m r)∧Below w.heap.size w w':=by
 obtain⟨aa,ca,rfl,_⟩:=ha.slice
 obtain⟨ab,cb,rfl,_⟩:=hb.slice
 have hna:(dg n).length=lenD n:=rfl
 have hmb:(dg m).length=lenD m:=rfl
 by_cases hl:lenD n=lenD m
 ·obtain⟨la,hla'⟩:∃l,dg n=l:=⟨_,rfl⟩
  obtain⟨lb,hlb'⟩:∃l,dg m=l:=⟨_,rfl⟩
  have hoa:=ok_dg n
  have hob:=ok_dg m
  have hvn:=nv_dg n
  have hvm:=nv_dg m
  rw[hla'] at ha hna hoa hvn ⊢
  rw[hlb'] at hb hmb hob hvm ⊢
  have hll:la.length=lb.length:=by omega
  have h5:la.length≤100000:=by omega
  have HA:=hide ha
  have HBb:=hide hb
  have HOA:=hide hoa
  have HOB:=hide hob
  have HLL:=hide hll
  have HVN:=hide hvn
  have HVM:=hide hvm
  rw[←hll]
  have HQ:Hid (la.drop la.length=lb.drop la.length):=hide (by rw[List.drop_length,hll,List.drop_length])
  clear ha hb hoa hob hvn hvm hla' hlb' hna hmb hl hll hla hlb
  have hne:((la.length:Int) !=(la.length:Int))=false:=by simp
  go_enter Tryz.func230,Tryz.ntmps230
  go_wp2_with fail
  go_loopw [5] (fun v5 wr=>∃k:Nat,k≤la.length∧v5= .int .i64 ((k:Int) - 1)∧Hid (la.drop k=lb.drop k)∧Hid (Below w.heap.size w wr)) (fun v5 _=>(intOf v5+1).toNat)
  case atStart=>exact⟨la.length,Nat.le_refl _,rfl,HQ,Below.refl _ _⟩
  case round=>
   obtain⟨k,hk,rfl,hq,hB⟩:=hrel
   by_cases hk0:k=0
   ·subst hk0
    have p1:decide ((0:Int)≤((0:Nat):Int) - 1)=false:=by simp
    have p2:decide ((0:Int)≤ -1)=false:=by simp
    have HR:Hid (ByIs n m 0):=hide (by
     have h1:=hq.out
     rw[List.drop_zero,List.drop_zero] at h1
     have:n=m:=by rw[←HVN.out,←HVM.out,h1]
     unfold ByIs
     omega)
    have HB:=hide hB.out
    clear hq hB HQ
    go_wp2_with fail
    go_ret
    exact⟨⟨0,rfl,HR.out⟩,HB.out⟩
   ·obtain⟨j,rfl⟩:∃j,k=j+1:=⟨k - 1,by omega⟩
    have hja:j<la.length:=by omega
    have hjb:j<lb.length:=by have:=HLL.out;omega
    obtain⟨ba,fa,rfl,hca⟩:=HA.out.at hja
    obtain⟨bb,fb,rfl,hcb⟩:=HBb.out.at hjb
    have hca:=bcell hB.out hca
    have hcb:=bcell hB.out hcb
    have hxl:=HOA.out _ (List.getElem_mem hja)
    have hyl:=HOB.out _ (List.getElem_mem hjb)
    have hlt:=cmp_at HOA.out HLL.out hja hjb hq.out
    have hgt:=cmp_at HOB.out HLL.out.symm hjb hja hq.out.symm
    have heq:la[j]=lb[j]→la.drop j=lb.drop j:=fun e=>by rw[List.drop_eq_getElem_cons hja,List.drop_eq_getElem_cons hjb,e,hq.out]
    obtain⟨x,hx⟩:∃x,la[j]=x:=⟨_,rfl⟩
    obtain⟨y,hy⟩:∃y,lb[j]=y:=⟨_,rfl⟩
    rw[hx] at hca hxl hlt hgt heq
    rw[hy] at hcb hyl hlt hgt heq
    have j0:((j+1:Nat):Int) - 1=(j:Int):=by omega
    rw[j0]
    have j1:(0:Int)≤(j:Int):=by omega
    have j2:(j:Int)<(la.length:Int):=by omega
    have p1:decide ((0:Int)≤(j:Int))=true:=decide_eq_true j1
    have q1:(0:Int)≤(x:Int):=by omega
    have q2:(x:Int)≤9999:=by omega
    have q3:(0:Int)≤(y:Int):=by omega
    have q4:(y:Int)≤9999:=by omega
    have HD:=fun nq=>hide (show Below w.heap.size w (wr.drewN nq) from below_drewN hB.out nq)
    have HD2:=fun p q=>hide (show Below w.heap.size w ((wr.drewN p).drewN q) from below_drewN (below_drewN hB.out p) q)
    by_cases hxy:x=y
    ·subst hxy
     have HQ2:=hide (heq rfl)
     have p3:((x:Int) !=(x:Int))=false:=by simp
     clear hq hB HQ hx hy hlt hgt heq j0 hk hk0
     go_wp2_with fail
     go_quiet (fail)
     go_wp2_with fail
     refine⟨⟨j,by omega,rfl,HQ2,HD _⟩,?_⟩
     simp [intOf]
    ·have p3:((x:Int) !=(y:Int))=true:=by simp;omega
     have HR:Hid (ByIs n m ((x:Int) - (y:Int))):=hide (by
      have h1:=HVN.out
      have h2:=HVM.out
      unfold ByIs
      rcases Nat.lt_or_ge x y with h|h
      ·have:=hlt h
       omega
      ·have:=hgt (by omega)
       omega)
     clear hq hB HQ hx hy hlt hgt heq j0 hk hk0
     go_wp2_with fail
     go_quiet (fail)
     go_wp2_with fail
     go_quiet (fail)
     go_wp2_with fail
     go_ret
     exact⟨⟨_,rfl,HR.out⟩,(HD2 _ _).out⟩
 ·have h1:((lenD n:Int) !=(lenD m:Int))=true:=by simp;omega
  have HR:Hid (ByIs n m ((lenD n:Int) - (lenD m:Int))):=hide (by
   unfold ByIs
   rcases Nat.lt_or_ge (lenD n) (lenD m) with h|h
   ·have:=lt_of_len h
    omega
   ·have:=lt_of_len (show lenD m<lenD n by omega)
    omega)
  rw[hna,hmb]
  clear ha hb hna hmb hl
  go_enter Tryz.func230,Tryz.ntmps230
  go_wp2_with fail
  go_ret
  exact⟨⟨_,rfl,HR.out⟩,Below.refl _ _⟩
open Go Go.RowKit Go.Lib
def NmPost (w:World)(z:Int)(e:Ending)(w':World):Prop:=(∃v,e= .returned v∧NumIs w' v z)∧Below w.heap.size w w'
theorem NumIs.form {w:World}{v:Value}{z:Int}(h:NumIs w v z):∃a c,v= .agg #[.bool (decide (z<0)),.slice a (lenD z.natAbs) c]∧DgRd w (.slice a (lenD z.natAbs) c) (dg z.natAbs):=by
 obtain⟨s,h1,h2⟩:=h
 obtain⟨a,c,rfl,_⟩:=h2.slice
 exact⟨a,c,h1,h2⟩
theorem trim_num {w:World}{sl:Value}{l:List Nat}(neg:Bool)(hs:DgRd w sl l)(ho:okD l){z:Int}(hz:sgn neg (nv l)=z):Calls Tryz.prog 125 #[.bool neg,sl] w (NmPost w z):=by
 rw[←hz]
 exact trim_any neg hs ho
theorem NumIs.store {V:World}{r:Nat}{v:Value}{z:Int}{p:Bool}{a:Option Addr}{n c:Nat}{t:TypeId}(h:NumIs V v z)(hr:V.heap[r]? =some (.cells #[.bool p,.slice a n c] t (0,0)))(u u':Value):NumIs ((V.setCell ⟨r,0,none⟩ u).setCell ⟨r,1,none⟩ u') v z:=by
 obtain⟨s,rfl,h1,a0,c0,rfl,h3,h4⟩:=h
 refine⟨_,rfl,h1,a0,c0,rfl,h3,fun i hi=>?_⟩
 obtain⟨b,off,e,hc⟩:=h4 i hi
 refine⟨b,off,e,?_⟩
 have hne:b≠r:=by
  rintro rfl
  simp only[World.cell?,hr] at hc
  obtain h0|h0|h0:off+i=0∨off+i=1∨2≤off+i:=by omega
  ·rw[h0] at hc;simp at hc
  ·rw[h0] at hc;simp at hc
  ·rw[Array.getElem?_eq_none (by simpa using h0)] at hc;simp at hc
 rw[←hc]
 refine World.cell?_of_block ?_
 show((V.setCell ⟨r,0,none⟩ u).setCell ⟨r,1,none⟩ u').heap[b]? =V.heap[b]?
 rw[Below.heap_setCell _ _ _ _ (by exact hne),Below.heap_setCell _ _ _ _ (by exact hne)]
set_option maxRecDepth 100000 in
set_option maxHeartbeats 4000000 in
theorem neg_any {w:World}{v:Value}{x:Int}(hx:NumIs w v x):Calls Tryz.prog 192 #[v] w (NmPost w (-x)):=by
 obtain⟨a,c,rfl,hs⟩:=hx.form
 obtain⟨b,hb⟩:∃b,decide (x<0)=b:=⟨_,rfl⟩
 rw[hb]
 have hz:sgn (!b) (nv (dg x.natAbs))= -x:=by
  rw[nv_dg,←hb]
  unfold sgn
  by_cases h:x<0
  ·rw[decide_eq_true h];simp;omega
  ·rw[decide_eq_false h];simp;omega
 obtain⟨n,hn⟩:∃n,lenD x.natAbs=n:=⟨_,rfl⟩
 rw[hn] at hs ⊢
 have HT:=fun V (hV:Below w.heap.size w V)=>hide (trim_num (!b) (hs.below hV) (ok_dg _) hz)
 have hB0:=hide (((Below.refl _ w).alloc (Nat.le_refl _) (.cells #[.bool b,.slice a n c] 79)).alloc (by simp) (.cells #[.bool false,.slice none 0 0] 79))
 have hP0:=hide (heap_alloc0 (w.alloc (.cells #[.bool b,.slice a n c] 79)) (.cells #[.bool false,.slice none 0 0] 79))
 clear hx hs hz hb hn
 go_enter Tryz.func192,Tryz.ntmps192
 go_wp2_with fail
 (with_reducible refine(HT _ hB0.out).out.mono ?_)
 rintro e V ⟨⟨v,rfl,hv⟩,hb⟩
 obtain⟨a',c',rfl,_⟩:=hv.form
 have hp:=(hb.block _ (lt_of_heap hP0.out)).trans hP0.out
 rw[show(w.alloc (.cells #[.bool b,.slice a n c] 79)).heap.size=w.heap.size+1 by simp] at hp
 obtain⟨x0,x1,xf⟩:=two_cells' hp
 have xf0:=xf 0
 have xf1:=xf 1
 have HB:=hide (((hB0.out.trans (hb.mono hB0.out.size)).setCell (p:=⟨w.heap.size+1,0,none⟩) (by simp) (.bool (decide (-x<0)))).setCell (p:=⟨w.heap.size+1,1,none⟩) (by simp) (.slice a' (lenD (-x).natAbs) c'))
 have HV:=hide (hv.store hp (.bool (decide (-x<0))) (.slice a' (lenD (-x).natAbs) c'))
 obtain⟨nb,hnb⟩:∃nb,decide (-x<0)=nb:=⟨_,rfl⟩
 obtain⟨k,hk⟩:∃k,lenD (-x).natAbs=k:=⟨_,rfl⟩
 rw[hnb,hk] at HB HV ⊢
 clear hv hb hp xf hB0 hP0 HT hnb hk
 go_wp2_with fail
 refine bodyPost_ret (v:= .agg #[.bool nb,.slice a' k c']) (by simp [results,Tryz.results192,go_sem, *]) rfl ⟨⟨_,rfl,HV.out⟩,HB.out⟩
theorem lens (n:Nat):(dg n).length=lenD n:=rfl
set_option maxRecDepth 100000 in
set_option maxHeartbeats 16000000 in
theorem add_any {w:World}{vx vy:Value}{x y:Int}(hx:NumIs w vx x)(hy:NumIs w vy y)(hlx:lenD x.natAbs≤100000)(hly:lenD y.natAbs≤100000):Calls Tryz.prog 191 #[vx,vy] w (NmPost w (x+y)):=by
 obtain⟨ax,cx,rfl,hsx⟩:=hx.form
 obtain⟨ay,cy,rfl,hsy⟩:=hy.form
 obtain⟨bx,hbx⟩:∃b,decide (x<0)=b:=⟨_,rfl⟩
 obtain⟨by',hby⟩:∃b,decide (y<0)=b:=⟨_,rfl⟩
 obtain⟨nx,hnx⟩:∃n,lenD x.natAbs=n:=⟨_,rfl⟩
 obtain⟨ny,hny⟩:∃n,lenD y.natAbs=n:=⟨_,rfl⟩
 have hxi:(bx=true↔x<0):=by rw[←hbx];simp
 have hyi:(by'=true↔y<0):=by rw[←hby];simp
 rw[hbx,hnx,hby,hny]
 rw[hnx] at hsx hlx
 rw[hny] at hsy hly
 have hb0:Below w.heap.size w (((w.alloc (.cells #[.bool bx,.slice ax nx cx] 79)).alloc (.cells #[.bool by',.slice ay ny cy] 79)).alloc (.cells #[.bool false,.slice none 0 0] 79)):=(((Below.refl _ w).alloc (Nat.le_refl _) _).alloc (by simp) _).alloc (by simp;omega) _
 have hpx:(((w.alloc (.cells #[.bool bx,.slice ax nx cx] 79)).alloc (.cells #[.bool by',.slice ay ny cy] 79)).alloc (.cells #[.bool false,.slice none 0 0] 79)).heap[w.heap.size]? =some (.cells #[.bool bx,.slice ax nx cx] 79 (0,0)):=by
  have h1:=heap_alloc0 w (.cells #[.bool bx,.slice ax nx cx] 79)
  have h2:=((Below.refl _ (w.alloc (.cells #[.bool bx,.slice ax nx cx] 79))).alloc (Nat.le_refl _) (.cells #[.bool by',.slice ay ny cy] 79)).alloc (by simp) (.cells #[.bool false,.slice none 0 0] 79)
  exact(h2.block _ (lt_of_heap h1)).trans h1
 have hpy:(((w.alloc (.cells #[.bool bx,.slice ax nx cx] 79)).alloc (.cells #[.bool by',.slice ay ny cy] 79)).alloc (.cells #[.bool false,.slice none 0 0] 79)).heap[w.heap.size+1]? =some (.cells #[.bool by',.slice ay ny cy] 79 (0,0)):=by
  have h1:=heap_alloc0 (w.alloc (.cells #[.bool bx,.slice ax nx cx] 79)) (.cells #[.bool by',.slice ay ny cy] 79)
  rw[show(w.alloc (.cells #[.bool bx,.slice ax nx cx] 79)).heap.size=w.heap.size+1 by simp] at h1
  have h2:=(Below.refl _ ((w.alloc (.cells #[.bool bx,.slice ax nx cx] 79)).alloc (.cells #[.bool by',.slice ay ny cy] 79))).alloc (Nat.le_refl _) (.cells #[.bool false,.slice none 0 0] 79)
  exact(h2.block _ (lt_of_heap h1)).trans h1
 have hpz:(((w.alloc (.cells #[.bool bx,.slice ax nx cx] 79)).alloc (.cells #[.bool by',.slice ay ny cy] 79)).alloc (.cells #[.bool false,.slice none 0 0] 79)).heap[w.heap.size+2]? =some (.cells #[.bool false,.slice none 0 0] 79 (0,0)):=by
  have h1:=heap_alloc0 ((w.alloc (.cells #[.bool bx,.slice ax nx cx] 79)).alloc (.cells #[.bool by',.slice ay ny cy] 79)) (.cells #[.bool false,.slice none 0 0] 79)
  rw[show((w.alloc (.cells #[.bool bx,.slice ax nx cx] 79)).alloc (.cells #[.bool by',.slice ay ny cy] 79)).heap.size=w.heap.size+2 by simp] at h1
  exact h1
 by_cases hs:bx=by'
 ·subst hs
  obtain⟨W0,hW0⟩:∃W0,(((w.alloc (.cells #[.bool bx,.slice ax nx cx] 79)).alloc (.cells #[.bool bx,.slice ay ny cy] 79)).alloc (.cells #[.bool false,.slice none 0 0] 79)).drew=W0:=⟨_,rfl⟩
  have hB0':Below w.heap.size w W0:=by rw[←hW0];exact hb0.drew
  have hX0:W0.heap[w.heap.size]? =some (.cells #[.bool bx,.slice ax nx cx] 79 (0,0)):=by rw[←hW0];exact hpx
  have hY0:W0.heap[w.heap.size+1]? =some (.cells #[.bool bx,.slice ay ny cy] 79 (0,0)):=by rw[←hW0];exact hpy
  have hZ0:W0.heap[w.heap.size+2]? =some (.cells #[.bool false,.slice none 0 0] 79 (0,0)):=by rw[←hW0];exact hpz
  have HU:=hide (up_any (hsx.below hB0') (hsy.below hB0') (ok_dg _) (ok_dg _) (by rw[lens,hnx];exact hlx) (by rw[lens,hny];exact hly))
  have HZ:Hid (∀n,n=nv (dg x.natAbs)+nv (dg y.natAbs)→sgn bx n=x+y):=hide (fun n hn=>by
   rw[nv_dg,nv_dg] at hn
   unfold sgn
   cases bx<;>simp at hxi hyi ⊢ <;>omega)
  obtain⟨m0,m1,_⟩:=two_cells' hX0
  obtain⟨m2,m3,_⟩:=two_cells' hY0
  have HPX:=hide hX0
  have HPY:=hide hY0
  have HPZ:=hide hZ0
  have HB0:=hide hB0'
  have hne1:¬w.heap.size=w.heap.size+1+1:=by omega
  have hne2:¬w.heap.size+1+1=w.heap.size:=by omega
  clear hx hy hsx hsy hbx hby hnx hny hb0 hpx hpy hpz hX0 hY0 hZ0 hB0' hxi hyi
  have f1:(bx==bx)=true:=by simp
  go_enter Tryz.func191,Tryz.ntmps191
  go_wp2_with fail
  go_region_held3 (fun V=>V.cell? ⟨w.heap.size,0,none⟩=some (.bool bx)∧V.cell? ⟨w.heap.size,1,none⟩=some (.slice ax nx cx)∧V.cell? ⟨w.heap.size+1,0,none⟩=some (.bool bx)∧V.cell? ⟨w.heap.size+1,1,none⟩=some (.slice ay ny cy)) (go_keep)
   (first
    |(go_at_call 190;(with_reducible refine HU.out.mono ?_);rintro e V1 ⟨⟨v1,o,rfl,hd1,ho1,hv1,hl1⟩,hb1⟩;obtain⟨a1,c1,rfl,_⟩:=hd1.slice;obtain⟨k0,k1,_⟩:=two_cells' ((hb1.block _ (lt_of_heap HPX.out)).trans HPX.out);obtain⟨k2,k3,_⟩:=two_cells' ((hb1.block _ (lt_of_heap HPY.out)).trans HPY.out);have HB1:=hide hb1;have HT:=hide (trim_num bx hd1 ho1 (HZ.out _ hv1));clear hb1 hd1 ho1 hv1)
    |(go_at_call 125;(with_reducible refine HT.out.mono ?_);rintro e V2 ⟨⟨v2,rfl,hv2⟩,hb2⟩;obtain⟨a2,c2,rfl,_⟩:=hv2.form;have hbb:=HB1.out.trans (hb2.mono HB1.out.size);obtain⟨l0,l1,_⟩:=two_cells' ((hbb.block _ (lt_of_heap HPX.out)).trans HPX.out);obtain⟨l2,l3,_⟩:=two_cells' ((hbb.block _ (lt_of_heap HPY.out)).trans HPY.out);have hpr:=((hbb.block _ (lt_of_heap HPZ.out)).trans HPZ.out);obtain⟨l4,l5,lf⟩:=two_cells' hpr;have lf0:=lf 0;have lf1:=lf 1;have HV:=hide (hv2.store hpr (.bool (decide (x+y<0))) (.slice a2 (lenD (x+y).natAbs) c2));have HB2:=hide (((HB0.out.trans (hbb.mono HB0.out.size)).setCell (p:=⟨w.heap.size+2,0,none⟩) (by simp) (.bool (decide (x+y<0)))).setCell (p:=⟨w.heap.size+2,1,none⟩) (by simp) (.slice a2 (lenD (x+y).natAbs) c2));clear hv2 hb2 hbb hpr lf))
  all_goals
   obtain⟨nb,hnb⟩:∃nb,decide (x+y<0)=nb:=⟨_,rfl⟩
   obtain⟨kk,hkk⟩:∃k,lenD (x+y).natAbs=k:=⟨_,rfl⟩
   rw[hnb,hkk] at HB2 HV ⊢
   clear hnb hkk
   go_wp2_with fail
   refine bodyPost_ret (v:= .agg #[.bool nb,.slice a2 kk c2]) (by simp [results,Tryz.results191,go_sem, *]) rfl ⟨⟨_,rfl,HV.out⟩,HB2.out⟩
 ·skip
  obtain⟨W0,hW0⟩:∃W0,(((w.alloc (.cells #[.bool bx,.slice ax nx cx] 79)).alloc (.cells #[.bool by',.slice ay ny cy] 79)).alloc (.cells #[.bool false,.slice none 0 0] 79)).drew=W0:=⟨_,rfl⟩
  have hB0':Below w.heap.size w W0:=by rw[←hW0];exact hb0.drew
  have hX0:W0.heap[w.heap.size]? =some (.cells #[.bool bx,.slice ax nx cx] 79 (0,0)):=by rw[←hW0];exact hpx
  have hY0:W0.heap[w.heap.size+1]? =some (.cells #[.bool by',.slice ay ny cy] 79 (0,0)):=by rw[←hW0];exact hpy
  have hZ0:W0.heap[w.heap.size+2]? =some (.cells #[.bool false,.slice none 0 0] 79 (0,0)):=by rw[←hW0];exact hpz
  have f1:(bx==by')=false:=by cases bx<;>cases by'<;>simp at hs ⊢
  have HY:=hide (by_any (hsx.below hb0) (hsy.below hb0) (by omega) (by omega))
  by_cases hle:y.natAbs≤x.natAbs
  ·skip
   have hll:lenD y.natAbs≤lenD x.natAbs:=lenD_mono hle
   have HUV:=fun V (hV:Below w.heap.size w V)=>hide (down_any (hsx.below hV) (hsy.below hV) (ok_dg _) (ok_dg _) (by rw[lens,hnx];exact hlx) (by rw[lens,lens];exact hll) (by rw[nv_dg,nv_dg];exact hle))
   have HZ:Hid (∀n,n=nv (dg x.natAbs) - nv (dg y.natAbs)→sgn bx n=x+y):=hide (fun n hn=>by
    rw[nv_dg,nv_dg] at hn
    unfold sgn
    cases bx<;>cases by'<;>simp at hs hxi hyi ⊢ <;>omega)
   have HLE:=hide hle
   have HPX0:=hide hpx
   have HPY0:=hide hpy
   have HPZ0:=hide hpz
   have HB00:=hide hb0
   clear hx hy hsx hsy hbx hby hnx hny hb0 hpx hpy hpz hX0 hY0 hZ0 hB0' hxi hyi hs hll hle hW0
   go_enter Tryz.func191,Tryz.ntmps191
   go_wp2_with fail
   (with_reducible refine HY.out.mono ?_)
   rintro e VY ⟨⟨r,rfl,hr⟩,hbY⟩
   obtain⟨r1,r2,r3,r4⟩:=hr
   have f2:decide ((0:Int)≤r)=true:=by simp;have:=HLE.out;omega
   obtain⟨W9,hW9⟩:∃W9,VY.drew=W9:=⟨_,rfl⟩
   have hb9:Below (((w.alloc (.cells #[.bool bx,.slice ax nx cx] 79)).alloc (.cells #[.bool by',.slice ay ny cy] 79)).alloc (.cells #[.bool false,.slice none 0 0] 79)).heap.size (((w.alloc (.cells #[.bool bx,.slice ax nx cx] 79)).alloc (.cells #[.bool by',.slice ay ny cy] 79)).alloc (.cells #[.bool false,.slice none 0 0] 79)) W9:=by rw[←hW9];exact hbY.drew
   have hX0:=(hb9.block _ (lt_of_heap HPX0.out)).trans HPX0.out
   have hY0:=(hb9.block _ (lt_of_heap HPY0.out)).trans HPY0.out
   have hZ0:=(hb9.block _ (lt_of_heap HPZ0.out)).trans HPZ0.out
   have hXY:=(hbY.block _ (lt_of_heap HPX0.out)).trans HPX0.out
   have hYY:=(hbY.block _ (lt_of_heap HPY0.out)).trans HPY0.out
   have hB0':=HB00.out.trans (hb9.mono HB00.out.size)
   have HU:=HUV _ hB0'
   obtain⟨g0,g1,_⟩:=two_cells' hXY
   obtain⟨g2,g3,_⟩:=two_cells' hYY
   obtain⟨m0,m1,_⟩:=two_cells' hX0
   obtain⟨m2,m3,_⟩:=two_cells' hY0
   have HPX:=hide hX0
   have HPY:=hide hY0
   have HPZ:=hide hZ0
   have HB0:=hide hB0'
   have hne1:¬w.heap.size=w.heap.size+1+1:=by omega
   have hne2:¬w.heap.size+1+1=w.heap.size:=by omega
   clear hbY hb9 hX0 hY0 hZ0 hXY hYY hB0' HUV HY r1 r2 HPX0 HPY0 HPZ0 HB00
   go_wp2_with fail
   go_region_held3 (fun V=>V.cell? ⟨w.heap.size,0,none⟩=some (.bool bx)∧V.cell? ⟨w.heap.size,1,none⟩=some (.slice ax nx cx)∧V.cell? ⟨w.heap.size+1,0,none⟩=some (.bool by')∧V.cell? ⟨w.heap.size+1,1,none⟩=some (.slice ay ny cy)) (go_keep)
    (first
     |(go_at_call 231;(with_reducible refine HU.out.mono ?_);rintro e V1 ⟨⟨v1,o,rfl,hd1,ho1,hv1,hl1⟩,hb1⟩;obtain⟨a1,c1,rfl,_⟩:=hd1.slice;obtain⟨k0,k1,_⟩:=two_cells' ((hb1.block _ (lt_of_heap HPX.out)).trans HPX.out);obtain⟨k2,k3,_⟩:=two_cells' ((hb1.block _ (lt_of_heap HPY.out)).trans HPY.out);have HB1:=hide hb1;have HT:=hide (trim_num bx hd1 ho1 (HZ.out _ hv1));clear hb1 hd1 ho1 hv1)
     |(go_at_call 125;(with_reducible refine HT.out.mono ?_);rintro e V2 ⟨⟨v2,rfl,hv2⟩,hb2⟩;obtain⟨a2,c2,rfl,_⟩:=hv2.form;have hbb:=HB1.out.trans (hb2.mono HB1.out.size);obtain⟨l0,l1,_⟩:=two_cells' ((hbb.block _ (lt_of_heap HPX.out)).trans HPX.out);obtain⟨l2,l3,_⟩:=two_cells' ((hbb.block _ (lt_of_heap HPY.out)).trans HPY.out);have hpr:=((hbb.block _ (lt_of_heap HPZ.out)).trans HPZ.out);obtain⟨l4,l5,lf⟩:=two_cells' hpr;have lf0:=lf 0;have lf1:=lf 1;have HV:=hide (hv2.store hpr (.bool (decide (x+y<0))) (.slice a2 (lenD (x+y).natAbs) c2));have HB2:=hide (((HB0.out.trans (hbb.mono HB0.out.size)).setCell (p:=⟨w.heap.size+2,0,none⟩) (by simp) (.bool (decide (x+y<0)))).setCell (p:=⟨w.heap.size+2,1,none⟩) (by simp) (.slice a2 (lenD (x+y).natAbs) c2));clear hv2 hb2 hbb hpr lf))
   all_goals
    obtain⟨nb,hnb⟩:∃nb,decide (x+y<0)=nb:=⟨_,rfl⟩
    obtain⟨kk,hkk⟩:∃k,lenD (x+y).natAbs=k:=⟨_,rfl⟩
    rw[hnb,hkk] at HB2 HV ⊢
    clear hnb hkk
    go_wp2_with fail
    refine bodyPost_ret (v:= .agg #[.bool nb,.slice a2 kk c2]) (by simp [results,Tryz.results191,go_sem, *]) rfl ⟨⟨_,rfl,HV.out⟩,HB2.out⟩
  ·have hll:lenD x.natAbs≤lenD y.natAbs:=lenD_mono (by omega)
   have HUV:=fun V (hV:Below w.heap.size w V)=>hide (down_any (hsy.below hV) (hsx.below hV) (ok_dg _) (ok_dg _) (by rw[lens,hny];exact hly) (by rw[lens,lens];exact hll) (by rw[nv_dg,nv_dg];omega))
   have HZ:Hid (∀n,n=nv (dg y.natAbs) - nv (dg x.natAbs)→sgn by' n=x+y):=hide (fun n hn=>by
    rw[nv_dg,nv_dg] at hn
    unfold sgn
    cases bx<;>cases by'<;>simp at hs hxi hyi ⊢ <;>omega)
   have HLE:=hide hle
   have HPX0:=hide hpx
   have HPY0:=hide hpy
   have HPZ0:=hide hpz
   have HB00:=hide hb0
   clear hx hy hsx hsy hbx hby hnx hny hb0 hpx hpy hpz hX0 hY0 hZ0 hB0' hxi hyi hs hll hle hW0
   go_enter Tryz.func191,Tryz.ntmps191
   go_wp2_with fail
   (with_reducible refine HY.out.mono ?_)
   rintro e VY ⟨⟨r,rfl,hr⟩,hbY⟩
   obtain⟨r1,r2,r3,r4⟩:=hr
   have f2:decide ((0:Int)≤r)=false:=by simp;have:=HLE.out;omega
   obtain⟨W9,hW9⟩:∃W9,VY.drew=W9:=⟨_,rfl⟩
   have hb9:Below (((w.alloc (.cells #[.bool bx,.slice ax nx cx] 79)).alloc (.cells #[.bool by',.slice ay ny cy] 79)).alloc (.cells #[.bool false,.slice none 0 0] 79)).heap.size (((w.alloc (.cells #[.bool bx,.slice ax nx cx] 79)).alloc (.cells #[.bool by',.slice ay ny cy] 79)).alloc (.cells #[.bool false,.slice none 0 0] 79)) W9:=by rw[←hW9];exact hbY.drew
   have hX0:=(hb9.block _ (lt_of_heap HPX0.out)).trans HPX0.out
   have hY0:=(hb9.block _ (lt_of_heap HPY0.out)).trans HPY0.out
   have hZ0:=(hb9.block _ (lt_of_heap HPZ0.out)).trans HPZ0.out
   have hXY:=(hbY.block _ (lt_of_heap HPX0.out)).trans HPX0.out
   have hYY:=(hbY.block _ (lt_of_heap HPY0.out)).trans HPY0.out
   have hB0':=HB00.out.trans (hb9.mono HB00.out.size)
   have HU:=HUV _ hB0'
   obtain⟨g0,g1,_⟩:=two_cells' hXY
   obtain⟨g2,g3,_⟩:=two_cells' hYY
   obtain⟨m0,m1,_⟩:=two_cells' hX0
   obtain⟨m2,m3,_⟩:=two_cells' hY0
   have HPX:=hide hX0
   have HPY:=hide hY0
   have HPZ:=hide hZ0
   have HB0:=hide hB0'
   have hne1:¬w.heap.size=w.heap.size+1+1:=by omega
   have hne2:¬w.heap.size+1+1=w.heap.size:=by omega
   clear hbY hb9 hX0 hY0 hZ0 hXY hYY hB0' HUV HY r1 r2 HPX0 HPY0 HPZ0 HB00
   go_wp2_with fail
   go_region_held3 (fun V=>V.cell? ⟨w.heap.size,0,none⟩=some (.bool bx)∧V.cell? ⟨w.heap.size,1,none⟩=some (.slice ax nx cx)∧V.cell? ⟨w.heap.size+1,0,none⟩=some (.bool by')∧V.cell? ⟨w.heap.size+1,1,none⟩=some (.slice ay ny cy)) (go_keep)
    (first
     |(go_at_call 231;(with_reducible refine HU.out.mono ?_);rintro e V1 ⟨⟨v1,o,rfl,hd1,ho1,hv1,hl1⟩,hb1⟩;obtain⟨a1,c1,rfl,_⟩:=hd1.slice;obtain⟨k0,k1,_⟩:=two_cells' ((hb1.block _ (lt_of_heap HPX.out)).trans HPX.out);obtain⟨k2,k3,_⟩:=two_cells' ((hb1.block _ (lt_of_heap HPY.out)).trans HPY.out);have HB1:=hide hb1;have HT:=hide (trim_num by' hd1 ho1 (HZ.out _ hv1));clear hb1 hd1 ho1 hv1)
     |(go_at_call 125;(with_reducible refine HT.out.mono ?_);rintro e V2 ⟨⟨v2,rfl,hv2⟩,hb2⟩;obtain⟨a2,c2,rfl,_⟩:=hv2.form;have hbb:=HB1.out.trans (hb2.mono HB1.out.size);obtain⟨l0,l1,_⟩:=two_cells' ((hbb.block _ (lt_of_heap HPX.out)).trans HPX.out);obtain⟨l2,l3,_⟩:=two_cells' ((hbb.block _ (lt_of_heap HPY.out)).trans HPY.out);have hpr:=((hbb.block _ (lt_of_heap HPZ.out)).trans HPZ.out);obtain⟨l4,l5,lf⟩:=two_cells' hpr;have lf0:=lf 0;have lf1:=lf 1;have HV:=hide (hv2.store hpr (.bool (decide (x+y<0))) (.slice a2 (lenD (x+y).natAbs) c2));have HB2:=hide (((HB0.out.trans (hbb.mono HB0.out.size)).setCell (p:=⟨w.heap.size+2,0,none⟩) (by simp) (.bool (decide (x+y<0)))).setCell (p:=⟨w.heap.size+2,1,none⟩) (by simp) (.slice a2 (lenD (x+y).natAbs) c2));clear hv2 hb2 hbb hpr lf))
   all_goals
    obtain⟨nb,hnb⟩:∃nb,decide (x+y<0)=nb:=⟨_,rfl⟩
    obtain⟨kk,hkk⟩:∃k,lenD (x+y).natAbs=k:=⟨_,rfl⟩
    rw[hnb,hkk] at HB2 HV ⊢
    clear hnb hkk
    go_wp2_with fail
    refine bodyPost_ret (v:= .agg #[.bool nb,.slice a2 kk c2]) (by simp [results,Tryz.results191,go_sem, *]) rfl ⟨⟨_,rfl,HV.out⟩,HB2.out⟩
set_option maxRecDepth 100000 in
set_option maxHeartbeats 16000000 in
theorem sub_any {w:World}{vx vy:Value}{x y:Int}(hx:NumIs w vx x)(hy:NumIs w vy y)(hlx:lenD x.natAbs≤100000)(hly:lenD y.natAbs≤100000):Calls Tryz.prog 128 #[vx,vy] w (NmPost w (x - y)):=by
 have HXN:=hide hx
 have HYN:=hide hy
 obtain⟨ax,cx,rfl,hsx⟩:=hx.form
 obtain⟨ay,cy,rfl,hsy⟩:=hy.form
 obtain⟨bx,hbx⟩:∃b,decide (x<0)=b:=⟨_,rfl⟩
 obtain⟨by',hby⟩:∃b,decide (y<0)=b:=⟨_,rfl⟩
 obtain⟨nx,hnx⟩:∃n,lenD x.natAbs=n:=⟨_,rfl⟩
 obtain⟨ny,hny⟩:∃n,lenD y.natAbs=n:=⟨_,rfl⟩
 have hxi:(bx=true↔x<0):=by rw[←hbx];simp
 have hyi:(by'=true↔y<0):=by rw[←hby];simp
 rw[hbx,hnx,hby,hny]
 rw[hnx] at hsx hlx
 rw[hny] at hsy hly
 have hb0:Below w.heap.size w (((w.alloc (.cells #[.bool bx,.slice ax nx cx] 79)).alloc (.cells #[.bool by',.slice ay ny cy] 79)).alloc (.cells #[.bool false,.slice none 0 0] 79)):=(((Below.refl _ w).alloc (Nat.le_refl _) _).alloc (by simp) _).alloc (by simp;omega) _
 have hpx:(((w.alloc (.cells #[.bool bx,.slice ax nx cx] 79)).alloc (.cells #[.bool by',.slice ay ny cy] 79)).alloc (.cells #[.bool false,.slice none 0 0] 79)).heap[w.heap.size]? =some (.cells #[.bool bx,.slice ax nx cx] 79 (0,0)):=by
  have h1:=heap_alloc0 w (.cells #[.bool bx,.slice ax nx cx] 79)
  have h2:=((Below.refl _ (w.alloc (.cells #[.bool bx,.slice ax nx cx] 79))).alloc (Nat.le_refl _) (.cells #[.bool by',.slice ay ny cy] 79)).alloc (by simp) (.cells #[.bool false,.slice none 0 0] 79)
  exact(h2.block _ (lt_of_heap h1)).trans h1
 have hpy:(((w.alloc (.cells #[.bool bx,.slice ax nx cx] 79)).alloc (.cells #[.bool by',.slice ay ny cy] 79)).alloc (.cells #[.bool false,.slice none 0 0] 79)).heap[w.heap.size+1]? =some (.cells #[.bool by',.slice ay ny cy] 79 (0,0)):=by
  have h1:=heap_alloc0 (w.alloc (.cells #[.bool bx,.slice ax nx cx] 79)) (.cells #[.bool by',.slice ay ny cy] 79)
  rw[show(w.alloc (.cells #[.bool bx,.slice ax nx cx] 79)).heap.size=w.heap.size+1 by simp] at h1
  have h2:=(Below.refl _ ((w.alloc (.cells #[.bool bx,.slice ax nx cx] 79)).alloc (.cells #[.bool by',.slice ay ny cy] 79))).alloc (Nat.le_refl _) (.cells #[.bool false,.slice none 0 0] 79)
  exact(h2.block _ (lt_of_heap h1)).trans h1
 have hpz:(((w.alloc (.cells #[.bool bx,.slice ax nx cx] 79)).alloc (.cells #[.bool by',.slice ay ny cy] 79)).alloc (.cells #[.bool false,.slice none 0 0] 79)).heap[w.heap.size+2]? =some (.cells #[.bool false,.slice none 0 0] 79 (0,0)):=by
  have h1:=heap_alloc0 ((w.alloc (.cells #[.bool bx,.slice ax nx cx] 79)).alloc (.cells #[.bool by',.slice ay ny cy] 79)) (.cells #[.bool false,.slice none 0 0] 79)
  rw[show((w.alloc (.cells #[.bool bx,.slice ax nx cx] 79)).alloc (.cells #[.bool by',.slice ay ny cy] 79)).heap.size=w.heap.size+2 by simp] at h1
  exact h1
 obtain⟨W0,hW0⟩:∃W0,(((w.alloc (.cells #[.bool bx,.slice ax nx cx] 79)).alloc (.cells #[.bool by',.slice ay ny cy] 79)).alloc (.cells #[.bool false,.slice none 0 0] 79)).drew=W0:=⟨_,rfl⟩
 have hB0':Below w.heap.size w W0:=by rw[←hW0];exact hb0.drew
 have hX0:W0.heap[w.heap.size]? =some (.cells #[.bool bx,.slice ax nx cx] 79 (0,0)):=by rw[←hW0];exact hpx
 have hY0:W0.heap[w.heap.size+1]? =some (.cells #[.bool by',.slice ay ny cy] 79 (0,0)):=by rw[←hW0];exact hpy
 have hZ0:W0.heap[w.heap.size+2]? =some (.cells #[.bool false,.slice none 0 0] 79 (0,0)):=by rw[←hW0];exact hpz
 have HXV:=hide (HXN.out.below hB0')
 have HYV:=hide (HYN.out.below hB0')
 rw[show x.natAbs=x.natAbs from rfl] at HXV
 obtain⟨_,_,eX,_⟩:=HXN.out.form
 have hXV:NumIs W0 (.agg #[.bool bx,.slice ax nx cx]) x:=by have:=HXV.out;rw[hbx,hnx] at this;exact this
 have hYV:NumIs W0 (.agg #[.bool by',.slice ay ny cy]) y:=by have:=HYV.out;rw[hby,hny] at this;exact this
 obtain⟨my,hmy⟩:∃m,-y=m:=⟨_,rfl⟩
 have hng:=neg_any hYV
 rw[hmy] at hng
 have HNG:=hide hng
 have HMY:Hid (x+my=x - y):=hide (by omega)
 have HXW:=hide hXV
 have hlx':lenD x.natAbs≤100000:=by rw[hnx];exact hlx
 have hly':lenD my.natAbs≤100000:=by rw[←hmy,Int.natAbs_neg,hny];exact hly
 have HL:=hide (And.intro hlx' hly')
 obtain⟨m0,m1,_⟩:=two_cells' hX0
 obtain⟨m2,m3,_⟩:=two_cells' hY0
 have HPX:=hide hX0
 have HPY:=hide hY0
 have HPZ:=hide hZ0
 have HB0:=hide hB0'
 have hne1:¬w.heap.size=w.heap.size+1+1:=by omega
 have hne2:¬w.heap.size+1+1=w.heap.size:=by omega
 clear hx hy hsx hsy hbx hby hnx hny hb0 hpx hpy hpz hX0 hY0 hZ0 hB0' hxi hyi hXV hYV HXV HYV HXN HYN eX hlx' hly' hng hmy
 go_enter Tryz.func128,Tryz.ntmps128
 go_wp2_with fail
 go_region_held3 (fun V=>V.cell? ⟨w.heap.size,0,none⟩=some (.bool bx)∧V.cell? ⟨w.heap.size,1,none⟩=some (.slice ax nx cx)∧V.cell? ⟨w.heap.size+1,0,none⟩=some (.bool by')∧V.cell? ⟨w.heap.size+1,1,none⟩=some (.slice ay ny cy)) (go_keep)
  (first
   |(go_at_call 192;(with_reducible refine HNG.out.mono ?_);rintro e V1 ⟨⟨v1,rfl,hv1⟩,hb1⟩;obtain⟨k0,k1,_⟩:=two_cells' ((hb1.block _ (lt_of_heap HPX.out)).trans HPX.out);obtain⟨k2,k3,_⟩:=two_cells' ((hb1.block _ (lt_of_heap HPY.out)).trans HPY.out);have HB1:=hide hb1;have HT:=hide (add_any (HXW.out.below hb1) hv1 HL.out.1 HL.out.2);obtain⟨a1,c1,rfl,_⟩:=hv1.form;clear hb1 hv1)
   |(go_at_call 191;(with_reducible refine HT.out.mono ?_);rintro e V2 ⟨⟨v2,rfl,hv2⟩,hb2⟩;rw[HMY.out] at hv2;obtain⟨a2,c2,rfl,_⟩:=hv2.form;have hbb:=HB1.out.trans (hb2.mono HB1.out.size);obtain⟨l0,l1,_⟩:=two_cells' ((hbb.block _ (lt_of_heap HPX.out)).trans HPX.out);obtain⟨l2,l3,_⟩:=two_cells' ((hbb.block _ (lt_of_heap HPY.out)).trans HPY.out);have hpr:=((hbb.block _ (lt_of_heap HPZ.out)).trans HPZ.out);obtain⟨l4,l5,lf⟩:=two_cells' hpr;have lf0:=lf 0;have lf1:=lf 1;have HV:=hide (hv2.store hpr (.bool (decide (x - y<0))) (.slice a2 (lenD (x - y).natAbs) c2));have HB2:=hide (((HB0.out.trans (hbb.mono HB0.out.size)).setCell (p:=⟨w.heap.size+2,0,none⟩) (by simp) (.bool (decide (x - y<0)))).setCell (p:=⟨w.heap.size+2,1,none⟩) (by simp) (.slice a2 (lenD (x - y).natAbs) c2));clear hv2 hb2 hbb hpr lf))
 all_goals
  obtain⟨nb,hnb⟩:∃nb,decide (x - y<0)=nb:=⟨_,rfl⟩
  obtain⟨kk,hkk⟩:∃k,lenD (x - y).natAbs=k:=⟨_,rfl⟩
  rw[hnb,hkk] at HB2 HV ⊢
  clear hnb hkk
  go_wp2_with fail
  refine bodyPost_ret (v:= .agg #[.bool nb,.slice a2 kk c2]) (by simp [results,Tryz.results128,go_sem, *]) rfl ⟨⟨_,rfl,HV.out⟩,HB2.out⟩
def cmpZ (x y:Int):Int:=if x<y then -1 else if x=y then 0 else 1
set_option maxRecDepth 100000 in
set_option maxHeartbeats 16000000 in
theorem zcmp_any {w:World}{vx vy:Value}{x y:Int}(hx:NumIs w vx x)(hy:NumIs w vy y)(hlx:lenD x.natAbs≤100000)(hly:lenD y.natAbs≤100000):Calls Tryz.prog 126 #[vx,vy] w fun e w'=>e= .returned (.int .i64 (cmpZ x y))∧Below w.heap.size w w':=by
 have HXN:=hide hx
 have HYN:=hide hy
 obtain⟨ax,cx,rfl,hsx⟩:=hx.form
 obtain⟨ay,cy,rfl,hsy⟩:=hy.form
 obtain⟨bx,hbx⟩:∃b,decide (x<0)=b:=⟨_,rfl⟩
 obtain⟨by',hby⟩:∃b,decide (y<0)=b:=⟨_,rfl⟩
 obtain⟨nx,hnx⟩:∃n,lenD x.natAbs=n:=⟨_,rfl⟩
 obtain⟨ny,hny⟩:∃n,lenD y.natAbs=n:=⟨_,rfl⟩
 have hxi:(bx=true↔x<0):=by rw[←hbx];simp
 have hyi:(by'=true↔y<0):=by rw[←hby];simp
 rw[hbx,hnx,hby,hny]
 rw[hnx] at hsx hlx
 rw[hny] at hsy hly
 have hb0:Below w.heap.size w ((w.alloc (.cells #[.bool bx,.slice ax nx cx] 79)).alloc (.cells #[.bool by',.slice ay ny cy] 79)):=((Below.refl _ w).alloc (Nat.le_refl _) _).alloc (by simp) _
 have hXV:NumIs ((w.alloc (.cells #[.bool bx,.slice ax nx cx] 79)).alloc (.cells #[.bool by',.slice ay ny cy] 79)) (.agg #[.bool bx,.slice ax nx cx]) x:=by have:=HXN.out.below hb0;rw[hbx,hnx] at this;exact this
 have hYV:NumIs ((w.alloc (.cells #[.bool bx,.slice ax nx cx] 79)).alloc (.cells #[.bool by',.slice ay ny cy] 79)) (.agg #[.bool by',.slice ay ny cy]) y:=by have:=HYN.out.below hb0;rw[hby,hny] at this;exact this
 have HS:=hide (sub_any hXV hYV (by rw[hnx];exact hlx) (by rw[hny];exact hly))
 have HB0:=hide hb0
 clear hx hy hsx hsy hbx hby hnx hny hb0 hxi hyi hXV hYV HXN HYN hlx hly
 go_enter Tryz.func126,Tryz.ntmps126
 go_wp2_with fail
 (with_reducible refine HS.out.mono ?_)
 rintro e V ⟨⟨v,rfl,hv⟩,hb⟩
 obtain⟨a,c,rfl,_⟩:=hv.form
 have HB:=hide (HB0.out.trans (hb.mono HB0.out.size))
 clear hv hb HS HB0
 by_cases h1:x<y
 ·have hz:cmpZ x y= -1:=by unfold cmpZ;rw[if_pos h1]
  rw[show decide (x - y<0)=true by simp;omega]
  have Hz:=hide hz
  clear h1 hz
  go_wp2_with fail
  go_ret
  exact⟨by rw[Hz.out];rfl,HB.out.alloc HB.out.size _⟩
 ·rw[show decide (x - y<0)=false by simp;omega]
  by_cases h2:x=y
  ·have hz:cmpZ x y=0:=by unfold cmpZ;rw[if_neg h1,if_pos h2]
   have hl:lenD (x - y).natAbs=0:=by rw[show x - y=0 by omega];unfold lenD;rw[show(0:Int).natAbs=0 from rfl,dg_zero];rfl
   rw[hl]
   have Hz:=hide hz
   clear h1 h2 hz hl
   go_wp2_with fail
   go_ret
   exact⟨by rw[Hz.out];rfl,HB.out.alloc HB.out.size _⟩
  ·have hz:cmpZ x y=1:=by unfold cmpZ;rw[if_neg h1,if_neg h2]
   have hl:0<lenD (x - y).natAbs:=by unfold lenD;rw[dg_pos (by omega)];simp
   obtain⟨n,hn⟩:∃n,lenD (x - y).natAbs=n:=⟨_,rfl⟩
   rw[hn] at hl ⊢
   have Hz:=hide hz
   have f1:decide ((0:Int)<(n:Int))=true:=decide_eq_true (by omega)
   clear h1 h2 hz hn
   go_wp2_with fail
   go_ret
   exact⟨by rw[Hz.out];rfl,HB.out.alloc HB.out.size _⟩
open Go Go.RowKit Go.Lib
structure OfAt (w wr:World)(n:Int)(i:Nat)(m:Int)(v:Value)(o:List Nat):Prop where
 row:wr.ownsRow (w.heap.size+1) 3 1 v i (dnums o)
 len:o.length=i
 ok:okD o
 val:dg n.natAbs=o++dg m.natAbs
 on:Below (w.heap.size+1) (w.alloc (.cells #[.bool false,.slice none 0 0] 79)) wr
theorem OfAt.bel {w wr:World}{n:Int}{i:Nat}{m:Int}{v:Value}{o:List Nat}(h:OfAt w wr n i m v o):Below w.heap.size w wr:=
 ((Below.refl _ w).alloc (Nat.le_refl _) _).trans (h.on.mono (by omega))
theorem OfAt.box {w wr:World}{n:Int}{i:Nat}{m:Int}{v:Value}{o:List Nat}(h:OfAt w wr n i m v o):wr.heap[w.heap.size]? =some (.cells #[.bool false,.slice none 0 0] 79 (0,0)):=
 (h.on.block _ (by omega)).trans (heap_alloc0 w _)
theorem dg_len20 {n:Nat}(h:n≤9223372036854775808):(dg n).length≤5:=by
 have:n<10000^5:=by omega
 exact lenD_le this
set_option maxRecDepth 100000 in
set_option maxHeartbeats 8000000 in
theorem of_num {w:World}(n:Int)(h0: -9223372036854775808≤n)(h1:n≤9223372036854775807):Calls Tryz.prog 47 #[.int .i64 n] w (NmPost w n):=by
 have hlen:=dg_len20 (n:=n.natAbs) (by omega)
 have HS:Hid (OfAt w (w.alloc (.cells #[.bool false,.slice none 0 0] 79)) n 0 n (.slice none 0 0) []):=hide ⟨World.ownsRow_nil _ _ _ _,rfl,fun _ h=>by(cases h),rfl,Below.refl _ _⟩
 have HN:=hide (And.intro h0 h1)
 have HLN:=hide hlen
 obtain⟨ng,hng⟩:∃b,decide (n<0)=b:=⟨_,rfl⟩
 have Hng:=hide hng
 clear h0 h1 hlen
 go_enter Tryz.func47,Tryz.ntmps47
 go_wp2_with fail
 clear hng
 go_loopw [0,4] (fun v0 v4 wr=>∃(i:Nat) (m:Int) (o:List Nat) (oa:Option Addr) (oc:Nat),i≤5∧v0= .int .i64 m∧v4= .slice oa i oc∧Hid (OfAt w wr n i m (.slice oa i oc) o∧m.natAbs≤n.natAbs∧ -9223372036854775808≤m∧m≤9223372036854775807)) (fun v0 _ _=>(intOf v0).natAbs)
 case atStart=>exact⟨0,n,[],none,0,by omega,rfl,rfl,hide ⟨HS.out,Nat.le_refl _,HN.out.1,HN.out.2⟩⟩
 case round=>
  obtain⟨i,m,o,oa,oc,hi,rfl,rfl,hq⟩:=hrel
  obtain⟨hU,hm1,hm2,hm3⟩:=hq.out
  by_cases hm0:m=0
  ·subst hm0
   have hv:o=dg n.natAbs:=by rw[hU.val];simp [dg_zero]
   have hd:DgRd wr (.slice oa i oc) (dg n.natAbs):=by
    have:=HLN.out
    rw[←hv] at this ⊢
    exact DgRd.of_row (by omega) hU.len.symm hU.row
   have hN:NumIs wr (.agg #[.bool ng,.slice oa i oc]) n:=⟨_,by rw[Hng.out],hd⟩
   obtain⟨x0,x1,xf⟩:=two_cells' hU.box
   have xf0:=xf 0
   have xf1:=xf 1
   have HV:=hide (hN.store hU.box (.bool ng) (.slice oa i oc))
   have HB:=hide ((hU.bel.setCell (p:=⟨w.heap.size,0,none⟩) (Nat.le_refl _) (.bool ng)).setCell (p:=⟨w.heap.size,1,none⟩) (Nat.le_refl _) (.slice oa i oc))
   clear hq hU hv hd hN xf HS hm1 hm2 hm3
   go_wp2_with fail
   refine bodyPost_ret (v:= .agg #[.bool ng,.slice oa i oc]) (by simp [results,Tryz.results47,go_sem, *]) rfl ⟨⟨_,rfl,HV.out⟩,HB.out⟩
  ·have p1:(m !=0)=true:=by simpa using hm0
   have hi5:i+1≤5:=by
    have h2:=HLN.out
    rw[hU.val,List.length_append,hU.len,dg_pos (by omega)] at h2
    simp only[List.length_cons] at h2
    omega
   rcases Int.lt_or_le m 0 with hneg|hneg
   ·obtain⟨k,rfl⟩:∃k:Nat,m= -(k:Int):=⟨m.natAbs,by omega⟩
    rcases Nat.eq_zero_or_pos (k % 10000) with hxx|hxx
    ·have hk0:k≠0:=by omega
     have hdg:=dg_pos hk0
     obtain⟨x,hx⟩:∃x,k % 10000=x:=⟨_,rfl⟩
     obtain⟨y,hy⟩:∃y,k/10000=y:=⟨_,rfl⟩
     have hxl:x<10000:=by omega
     have hyk:y<k:=by omega
     rw[hx,hy] at hdg
     have hz:(-(k:Int)).tmod 10000= -(x:Int):=by rw[Int.neg_tmod,Int.tmod_eq_emod_of_nonneg (by omega)];omega
     have hd:(-(k:Int)).tdiv 10000= -(y:Int):=by rw[Int.neg_tdiv,Int.tdiv_eq_ediv_of_nonneg (by omega)];omega
     have hx0:x=0:=by omega
     subst hx0
     have p2:decide (-((0:Nat):Int)<0)=false:=by decide
     have p3:decide ((0:Int)<0)=false:=by decide
     skip
     skip
     have Hrow1:=hide (hU.row.alloc (.cells #[.int .i64 0] 3))
     have HN1:=hide (heap_alloc0 wr (.cells #[.int .i64 0] 3))
     have HZ:Hid ((wr.alloc (.cells #[.int .i64 0] 3)).heap.size=wr.heap.size+1):=hide (by simp)
     have hsr:=hU.bel.size
     have Hown:=hide (row_own hU.row)
     have hB0:=hU.box
     have hV:=hU.val
     have ho1:okD (o++[0]):=ok_snoc hU.ok (by omega)
     have hV2:dg n.natAbs=(o++[0])++dg (-(y:Int)).natAbs:=by rw[hV,show(-(k:Int)).natAbs=k by omega,hdg,show(-(y:Int)).natAbs=y by omega];simp
     have HV2:=hide hV2
     have Ho1:=hide ho1
     have HU:=hide hU
     have hle:(-(y:Int)).natAbs≤n.natAbs:=by omega
     have HLE:=hide hle
     obtain⟨i0,hi0,hz0,hz1,hz2⟩:=dinfo_parts
     have Hi0:=hide hi0
     have Hy0:=hide hz0
     have Hy1:=hide hz1
     have Hy2:=hide hz2
     have HYK:=hide hyk
     clear hq hU hi0 hz0 hz1 hz2 hdg hx hy hV hV2 ho1 hle HS hB0 HYK
     go_wp2_with ((refine wpList_append_lies _ rfl (.tmp 16) (.tmp 18) _ rfl (w.heap.size+1) 3 i0 (.int .i64 0) 1 8 Tryz.underlying41 Hi0.out Hy0.out Hy1.out Hy2.out rfl (by decide) (.slice oa i oc) i (dnums o) rfl Hrow1.out ⟨wr.heap.size,0,none⟩ 1 1 [.int .i64 0] rfl rfl (World.news_of_block (cs:= #[.int .i64 0]) HN1.out) (by simp [Value.oneCell']) (by decide) (by unfold maxLen;omega) (by omega) (by rw[HZ.out];omega) (wr.heap.size+1) HZ.out ?_;intro g6 cap w6 hown6 hgrow6 hat6 hlt6))
     have hB6:=below_grown' (v:= .slice oa i oc) (HU.out.on.alloc (by have:=HU.out.on.size;simpa using this) (.cells #[.int .i64 0] 3)) hgrow6 Hown.out (by rw[HZ.out];have:=HU.out.on.size;simp at this;omega)
     rw[show(0:Int)=((0:Nat):Int) from rfl,←dnums_snoc] at hown6
     have HR6:Hid (OfAt w w6 n (i+1) (-(y:Int)) (.slice (some ⟨g6,0,none⟩) (i+1) cap) (o++[0])):=hide ⟨hown6,by rw[List.length_append,HU.out.len];rfl,Ho1.out,HV2.out,hB6⟩
     clear hown6 hgrow6 hat6 hlt6 hB6 Hrow1 HN1 HZ hsr Hown HU
     go_wp2_with fail
     go_roundw
     case rel=>exact⟨i+1,-(y:Int),o++[0],some ⟨g6,0,none⟩,cap,hi5,rfl,by go_num,hide ⟨HR6.out,HLE.out,by omega,by omega⟩⟩
     case measure=>simp [intOf];omega
    ·have hk0:k≠0:=by omega
     have hdg:=dg_pos hk0
     obtain⟨x,hx⟩:∃x,k % 10000=x:=⟨_,rfl⟩
     obtain⟨y,hy⟩:∃y,k/10000=y:=⟨_,rfl⟩
     have hxl:x<10000:=by omega
     have hyk:y<k:=by omega
     rw[hx,hy] at hdg
     have hz:(-(k:Int)).tmod 10000= -(x:Int):=by rw[Int.neg_tmod,Int.tmod_eq_emod_of_nonneg (by omega)];omega
     have hd:(-(k:Int)).tdiv 10000= -(y:Int):=by rw[Int.neg_tdiv,Int.tdiv_eq_ediv_of_nonneg (by omega)];omega
     have hx0:0<x:=by omega
     have p2:decide (-(x:Int)<0)=true:=decide_eq_true (by omega)
     have q0: -(9223372036854775807:Int)≤(x:Int):=by omega
     have hr1:(-9223372036854775808:Int)≤(x:Int):=by omega
     have hr2:(x:Int)≤9223372036854775807:=by omega
     have Hrow1:=hide (hU.row.alloc (.cells #[.int .i64 (x:Int)] 3))
     have HN1:=hide (heap_alloc0 wr (.cells #[.int .i64 (x:Int)] 3))
     have HZ:Hid ((wr.alloc (.cells #[.int .i64 (x:Int)] 3)).heap.size=wr.heap.size+1):=hide (by simp)
     have hsr:=hU.bel.size
     have Hown:=hide (row_own hU.row)
     have hB0:=hU.box
     have hV:=hU.val
     have ho1:okD (o++[x]):=ok_snoc hU.ok (by omega)
     have hV2:dg n.natAbs=(o++[x])++dg (-(y:Int)).natAbs:=by rw[hV,show(-(k:Int)).natAbs=k by omega,hdg,show(-(y:Int)).natAbs=y by omega];simp
     have HV2:=hide hV2
     have Ho1:=hide ho1
     have HU:=hide hU
     have hle:(-(y:Int)).natAbs≤n.natAbs:=by omega
     have HLE:=hide hle
     obtain⟨i0,hi0,hz0,hz1,hz2⟩:=dinfo_parts
     have Hi0:=hide hi0
     have Hy0:=hide hz0
     have Hy1:=hide hz1
     have Hy2:=hide hz2
     have HYK:=hide hyk
     clear hq hU hi0 hz0 hz1 hz2 hdg hx hy hV hV2 ho1 hle HS hB0 HYK
     go_wp2_with ((refine wpList_append_lies _ rfl (.tmp 16) (.tmp 18) _ rfl (w.heap.size+1) 3 i0 (.int .i64 0) 1 8 Tryz.underlying41 Hi0.out Hy0.out Hy1.out Hy2.out rfl (by decide) (.slice oa i oc) i (dnums o) rfl Hrow1.out ⟨wr.heap.size,0,none⟩ 1 1 [.int .i64 (x:Int)] rfl rfl (World.news_of_block (cs:= #[.int .i64 (x:Int)]) HN1.out) (by simp [Value.oneCell']) (by decide) (by unfold maxLen;omega) (by omega) (by rw[HZ.out];omega) (wr.heap.size+1) HZ.out ?_;intro g6 cap w6 hown6 hgrow6 hat6 hlt6))
     have hB6:=below_grown' (v:= .slice oa i oc) (HU.out.on.alloc (by have:=HU.out.on.size;simpa using this) (.cells #[.int .i64 (x:Int)] 3)) hgrow6 Hown.out (by rw[HZ.out];have:=HU.out.on.size;simp at this;omega)
     rw[←dnums_snoc] at hown6
     have HR6:Hid (OfAt w w6 n (i+1) (-(y:Int)) (.slice (some ⟨g6,0,none⟩) (i+1) cap) (o++[x])):=hide ⟨hown6,by rw[List.length_append,HU.out.len];rfl,Ho1.out,HV2.out,hB6⟩
     clear hown6 hgrow6 hat6 hlt6 hB6 Hrow1 HN1 HZ hsr Hown HU
     go_wp2_with fail
     go_roundw
     case rel=>exact⟨i+1,-(y:Int),o++[x],some ⟨g6,0,none⟩,cap,hi5,rfl,by go_num,hide ⟨HR6.out,HLE.out,by omega,by omega⟩⟩
     case measure=>simp [intOf];omega
   ·obtain⟨k,rfl⟩:∃k:Nat,m=(k:Int):=⟨m.toNat,by omega⟩
    have hk0:k≠0:=by omega
    have hdg:=dg_pos hk0
    obtain⟨x,hx⟩:∃x,k % 10000=x:=⟨_,rfl⟩
    obtain⟨y,hy⟩:∃y,k/10000=y:=⟨_,rfl⟩
    have hxl:x<10000:=by omega
    have hyk:y<k:=by omega
    rw[hx,hy] at hdg
    have hz:(k:Int) % 10000=(x:Int):=by omega
    have hd:(k:Int)/10000=(y:Int):=by omega
    have p2:decide ((x:Int)<0)=false:=by simp
    have hr1:(-9223372036854775808:Int)≤(x:Int):=by omega
    have hr2:(x:Int)≤9223372036854775807:=by omega
    have Hrow1:=hide (hU.row.alloc (.cells #[.int .i64 (x:Int)] 3))
    have HN1:=hide (heap_alloc0 wr (.cells #[.int .i64 (x:Int)] 3))
    have HZ:Hid ((wr.alloc (.cells #[.int .i64 (x:Int)] 3)).heap.size=wr.heap.size+1):=hide (by simp)
    have hsr:=hU.bel.size
    have Hown:=hide (row_own hU.row)
    have hB0:=hU.box
    have hV:=hU.val
    have ho1:okD (o++[x]):=ok_snoc hU.ok (by omega)
    have hV2:dg n.natAbs=(o++[x])++dg ((y:Int)).natAbs:=by rw[hV,show((k:Int)).natAbs=k by omega,hdg,show((y:Int)).natAbs=y by omega];simp
    have HV2:=hide hV2
    have Ho1:=hide ho1
    have HU:=hide hU
    have hle:((y:Int)).natAbs≤n.natAbs:=by omega
    have HLE:=hide hle
    obtain⟨i0,hi0,hz0,hz1,hz2⟩:=dinfo_parts
    have Hi0:=hide hi0
    have Hy0:=hide hz0
    have Hy1:=hide hz1
    have Hy2:=hide hz2
    have HYK:=hide hyk
    clear hq hU hi0 hz0 hz1 hz2 hdg hx hy hV hV2 ho1 hle HS hB0 HYK
    go_wp2_with ((refine wpList_append_lies _ rfl (.tmp 16) (.tmp 18) _ rfl (w.heap.size+1) 3 i0 (.int .i64 0) 1 8 Tryz.underlying41 Hi0.out Hy0.out Hy1.out Hy2.out rfl (by decide) (.slice oa i oc) i (dnums o) rfl Hrow1.out ⟨wr.heap.size,0,none⟩ 1 1 [.int .i64 (x:Int)] rfl rfl (World.news_of_block (cs:= #[.int .i64 (x:Int)]) HN1.out) (by simp [Value.oneCell']) (by decide) (by unfold maxLen;omega) (by omega) (by rw[HZ.out];omega) (wr.heap.size+1) HZ.out ?_;intro g6 cap w6 hown6 hgrow6 hat6 hlt6))
    have hB6:=below_grown' (v:= .slice oa i oc) (HU.out.on.alloc (by have:=HU.out.on.size;simpa using this) (.cells #[.int .i64 (x:Int)] 3)) hgrow6 Hown.out (by rw[HZ.out];have:=HU.out.on.size;simp at this;omega)
    rw[←dnums_snoc] at hown6
    have HR6:Hid (OfAt w w6 n (i+1) ((y:Int)) (.slice (some ⟨g6,0,none⟩) (i+1) cap) (o++[x])):=hide ⟨hown6,by rw[List.length_append,HU.out.len];rfl,Ho1.out,HV2.out,hB6⟩
    clear hown6 hgrow6 hat6 hlt6 hB6 Hrow1 HN1 HZ hsr Hown HU
    go_wp2_with fail
    go_roundw
    case rel=>exact⟨i+1,(y:Int),o++[x],some ⟨g6,0,none⟩,cap,hi5,rfl,by go_num,hide ⟨HR6.out,HLE.out,by omega,by omega⟩⟩
    case measure=>simp [intOf];omega
end Go.Proofs.YtgfakdobajgnfaaGreatDoor

/-
  Programs with other names, walked.
  The law's calls: a definition with a body, and arguments made of numbers.
  The definitions that types reach: met one by one, or in rounds.
  The law TraceChanges, walked.
-/
import Derived.Test.YthglhccibdlccaaGreatDoorX40
import Derived.Test.YthglhccibdlccaaGreatDoorX41
import Derived.Test.YthglhccibdlccaaGreatDoorX34
import Derived.Test.YthglhccibdlccaaGreatDoorX28
set_option linter.unusedVariables false
set_option linter.unusedSimpArgs false
namespace Go.Proofs.YthglhccibdlccaaGreatDoor
open Go.Abs
def zZK:K:=(K.ops [D 117 5 1,L 118 117 1,J 119 9 31,kd 120 39 31 1 kz0 [(0,31,(kt 119))],kP 121 39 31 352 118 120,D 122 5 1,S 122 121 1])
def zUt:K:=(Z (G [D 123 5 1,L 124 123 1,kN 125 124,kBi 126 125 1 .sub,M 11 126] (K.block 6 (K.loop (Z (G [M 127 11,kBi 128 127 0 .geq,M 129 128,T 129 true (D 130 5 0),T 129 true (L 131 130 1),T 129 true (kN 132 131),T 129 true (kBi 133 132 0 .gtr),kPf 134 129 133] (Y 134 ks (K.exit 6))) (Z (K.block 7 (K.dops [(0,1,D 137 5 0),(1,1,L 138 137 1),(2,0,D 139 5 0),(3,0,L 140 139 1),(4,0,kXi 141 140 6 0),(5,0,D 142 141 5),(6,0,L 143 142 1),(7,0,D 144 5 1),(8,0,L 145 144 1),(9,0,M 146 11),(10,0,kX 147 145 146 31),(11,0,D 148 147 0),(12,0,J 149 148 3),(13,0,kd 150 29 3 1 [ki,ki,ki] [(0,3,(kt 149))]),(14,0,kP 151 29 3 24 143 150),(15,0,kXi 152 138 6 0),(16,0,D 153 152 5),(17,0,S 153 151 1)])) (K.ops [M 135 11,kBi 136 135 1 .sub,M 11 136])))))) (G [J 154 5 2,S 4 154 2] kr))
def qGs:K:=G [kO 2 0,kZ 4 [kl,kl]] (G [kb 12 [kl,kl] [],kZ 5 [kl,kl],S 5 12 2] (Z (G [kMi 6 0] (K.block 0 (K.loop (Z (G [M 13 6,D 14 2 0,L 15 14 1,kN 16 15,kB 17 13 16 .lss] (Y 17 ks (K.exit 0))) (Z (K.block 1 (G [D 20 2 0,L 21 20 1,M 22 6,kX 23 21 22 6,J 24 23 6,kZ 7 kz9,S 7 24 6] (G [⟨none,.bslice (some 25) 9 1 4 [(.string ⟨#[]⟩),(.string ⟨#[]⟩),(.string ⟨#[]⟩),(.string ⟨#[]⟩)] [(0,1,(.const (.string ⟨#[108,101,102,116]⟩))),(1,1,(.const (.string ⟨#[114,105,103,104,116]⟩))),(2,1,(.const (.string ⟨#[110,111,114,116,104]⟩))),(3,1,(.const (.string ⟨#[115,111,117,116,104]⟩)))]⟩,M 26 6,M 27 1,kB 28 26 27 .add,kBi 29 28 4 .rem,kX 30 25 29 1,L 31 30 1,D 32 7 3,S 32 31 1] (G [D 33 7 5,⟨none,.st none (kt 33) (.const kl) 1⟩] (K.ops [D 34 5 0,L 35 34 1,J 36 7 6,kd 37 84 6 1 kz9 [(0,6,(kt 36))],kP 38 84 6 88 35 37,D 39 5 0,S 39 38 1]))))) (K.ops [M 18 6,kBi 19 18 1 .add,M 6 19])))))) (Z (G [kMi 8 0] (K.block 2 (K.loop (Z (G [M 40 8,D 41 2 1,L 42 41 1,kN 43 42,kB 44 40 43 .lss] (Y 44 ks (K.exit 2))) (Z (K.block 3 (G [D 47 2 1,L 48 47 1,M 49 8,kX 50 48 49 31,J 51 50 31,kZ 9 kz0,S 9 51 31] (G [M 52 8,M 53 1,kB 54 52 53 .add,kBi 55 54 26 .rem,⟨none,.bin (some 56) .add (kc 97) (kt 55)⟩,⟨none,.mop (some 57) (.cvt .u8) [(kt 56)]⟩,kd 58 5 1 1 [(.int .u8 0)] [(0,1,(kt 57))],⟨none,.mop (some 59) .str [(kt 58)]⟩,⟨none,.bin (some 60) .add (.const (.string ⟨#[122]⟩)) (kt 59)⟩,D 61 9 7,S 61 60 1] (G [D 62 2 1,L 63 62 1,kN 64 63,M 65 8,kB 66 64 65 .sub,D 67 9 29,
 S 67 66 1] (G [⟨none,.bslice (some 68) 9 1 1 [(.string ⟨#[]⟩)] [(0,1,(.const (.string ⟨#[35,32,120,10]⟩)))]⟩,D 69 9 30,S 69 68 1] (Z (G [D 70 5 0,L 71 70 1,kN 72 71,kBi 73 72 0 .gtr] (Y 73 (K.ops [D 74 5 0,L 75 74 1,kXi 76 75 6 0,D 77 76 0,J 78 77 3,D 79 9 4,S 79 78 3]) ks)) (G [D 80 9 14,J 81 80 15,M 82 1,kBi 83 82 26 .rem,⟨none,.bin (some 84) .add (kc 97) (kt 83)⟩,⟨none,.mop (some 85) (.cvt .u8) [(kt 84)]⟩,kd 86 5 1 1 [(.int .u8 0)] [(0,1,(kt 85))],⟨none,.mop (some 87) .str [(kt 86)]⟩,⟨none,.bin (some 88) .add (.const (.string ⟨#[118]⟩)) (kt 87)⟩,kC 89 54 [(kt 81),(kt 88)],D 90 9 14,S 90 89 15] (G [kd 91 90 11 0 [] [],D 92 9 8,L 93 92 1,kP 94 90 11 112 91 93,D 95 9 8,S 95 94 1] (Z (G [kMi 10 0] (K.block 4 (K.loop (Z (G [M 96 10,D 97 9 8,L 98 97 1,kN 99 98,kB 100 96 99 .lss] (Y 100 ks (K.exit 4))) (Z (K.block 5 (K.ops [D 103 9 8,L 104 103 1,M 105 10,M 106 10,M 107 1,kB 108 106 107 .add,kBi 109 108 26 .rem,⟨none,.bin (some 110) .add (kc 97) (kt 109)⟩,⟨none,.mop (some 111) (.cvt .u8) [(kt 110)]⟩,kd 112 5 1 1 [(.int .u8 0)] [(0,1,(kt 111))],⟨none,.mop (some 113) .str [(kt 112)]⟩,⟨none,.bin (some 114) .add (.const (.string ⟨#[115]⟩)) (kt 113)⟩,kX 115 104 105 11,D 116 115 3,S 116 114 1])) (K.ops [M 101 10,kBi 102 101 1 .add,M 10 102])))))) (K.wk zZK)))))))))) (K.ops [M 45 8,kBi 46 45 1 .add,M 8 46])))))) (K.wk zUt))))
theorem qMM:zK Tryz.prog Tryz.f19.ntmps (Tryz.f19.body.getD .skip)=some qGs.erase:=by kernel_rfl
@[simp] theorem qNU:zA Tryz.prog 19=true:=by kernel_rfl
def txt (c:UInt8)(x:Int):ByteArray:=⟨#[c]⟩++strOfNums [IntKind.u8.wrap (IntKind.i64.wrap (97+x.tmod 26))]
@[simp] theorem qEs {x:Int}:zFt [.lit (.int .u8 x)]=some [x]:=rfl
theorem zKV (c:UInt8)(x:Int):(⟨#[c]⟩:ByteArray).size+(strOfNums [x]).size≤1000000:=by have h1:(⟨#[c]⟩:ByteArray).size=1:=rfl;have h2:(strOfNums [x]).size=1:=rfl;omega
def zSQ (x:Int):ByteArray:=[(⟨#[108,101,102,116]⟩:ByteArray),⟨#[114,105,103,104,116]⟩,⟨#[110,111,114,116,104]⟩,⟨#[115,111,117,116,104]⟩].getD (x.tmod 4).toNat ⟨#[]⟩
def zDg (m:Md):List A:=[.lit (.int .i64 m.id.a),.lit (.int .i64 m.id.b),.lit (.int .i64 m.id.c),.lit (.string m.name),.sl m.uses.length (zY m.uses),.nil]
def zAM (l:List Md):List A:=l.flatMap zDg
theorem zHJ {l:List Md}{i:Nat}(h:i<l.length):zAM (l.take (i+1))=zAM (l.take i)++zDg l[i]:=by rw[List.take_succ_eq_append_getElem h];simp only[zAM,List.flatMap_append,List.flatMap_cons,List.flatMap_nil,List.append_nil]
@[simp] theorem qBW (l:List Md):(zAM l).length=l.length*6:=by rw[zAM,zBr (k:=6) (fun _=>rfl)]
@[simp] theorem qFj {rf g}(l:List Md):vwL rf g (zAM l)=zAM l:=by
 induction l with
 | nil=>rfl
 | cons m l ih =>
  have e:zAM (m::l)=zDg m++zAM l:=rfl;rw[e,zLa,ih];simp[zDg]
theorem zDi (a b:List A):qU (a++b)=qU a++qU b:=by
 induction a with
 | nil=>simp
 | cons x a ih=>simp[ih]
theorem zON (l:List Md):qU (zAM l)=jB (l.map fun m=>{m with defs:=[]}):=by
 induction l with
 | nil=>rfl
 | cons m l ih =>
  have e:zAM (m::l)=zDg m++zAM l:=rfl;rw[e,zDi,ih];simp[zDg,zBi,zCT]
def zCy (n:Int)(l:List Md):List Md:=l.mapIdx fun j m=>⟨m.id,zSQ (IntKind.i64.wrap (j+n)),m.uses,[]⟩
def qDd (n:Int)(k:Nat)(s:Slt):Slt:={s with name:=txt 115 (IntKind.i64.wrap (k+n))}
def slN (n:Int)(l:List Slt)(j:Nat):List Slt:=l.mapIdx fun k s=>if k<j then qDd n k s else s
theorem zWF (n:Int)(l:List Slt):slN n l 0=l:=by
 apply List.ext_getElem
 ·simp[slN]
 ·intro i h1 h2; simp[slN]
@[simp] theorem zSb (n:Int)(l:List Slt)(j:Nat):(slN n l j).length=l.length:=by simp[slN]
theorem zWE (n:Int)(l:List Slt){j:Nat}(h:j<l.length):slN n l (j+1)=(slN n l j).set j (qDd n j ((slN n l j)[j]'(by simpa using h))):=by
 apply List.ext_getElem
 ·simp
 ·intro i h1 h2;rw[List.getElem_set];split
  ·rename_i e;subst e;simp[slN]
  ·rename_i e;simp only[slN,List.getElem_mapIdx];by_cases hi:i<j
   ·rw[if_pos hi,if_pos (by omega)]
   ·rw[if_neg hi,if_neg (by omega)]
def zH2 (n:Int)(len:Nat)(md:Id)(i:Nat)(d:Dfn):Dfn :=
 ⟨d.id,d.kind,md,txt 122 (IntKind.i64.wrap (i+n)),slN n d.slots d.slots.length,d.res,zA4 (txt 118 n) d.body,IntKind.i64.wrap (len-i),[⟨#[35,32,120,10]⟩]⟩
def zCs (n:Int)(md:Id)(ds:List Dfn):List Dfn:=ds.mapIdx fun i d=>zH2 n ds.length md i d
@[simp] theorem zMv (n:Int)(md:Id)(ds:List Dfn):(zCs n md ds).length=ds.length:=by simp[zCs]
theorem zNP {l:List Slt}{i:Nat}(h:i<l.length)(s:ByteArray):(jC l).take (i*11+3)++(.lit (.string s)::(jC l).drop (i*11+3+1))=jC (l.set i {l[i]with name:=s}):=by
 have hs:=zPN {l[i]with name:=s} h;rw[←hs];have hd:=jN h;have h1:(jC l).take (i*11+3)=(jC l).take (i*11)++(zAh l[i]).take 3:=by rw[List.take_add,hd,List.take_append_of_le_length (by simp)]
 have h3:(jC l).drop (i*11+11)=jC (l.drop (i+1)):=by rw[←List.drop_drop,hd,List.drop_left' (zVr _)]
 have h2:(jC l).drop (i*11+3+1)=(zAh l[i]).drop 4++(jC l).drop (i*11+11):=by rw[h3,Nat.add_assoc,←List.drop_drop,hd,List.drop_append_of_le_length (by simp)]
 rw[h1,h2,List.append_assoc];rfl
def zLy (n:Int)(p:Prg):Prg:=⟨(match zCy n p.mods with
 | m::l=>{m with defs:=(p.defs.map (·.id)).reverse}::l
 | []=>[]),zCs n (match p.mods with | m::_=>m.id | []=>Id.zero) p.defs⟩
theorem zW4 {l:List Id}{k:Nat}(h:k<l.length):l.reverse.take (k+1)=l.reverse.take k++[l[l.length-1-k]]:=by rw[List.take_succ_eq_append_getElem (by simpa using h),List.getElem_reverse]
set_option maxHeartbeats 1000000 in
theorem qOY (nm:Nat)(a0:Md)(L0:List Md)(hL0:∀m∈L0,m.defs=[])(hnm:L0.length+1=nm)(DS:List Dfn)(hd:DS.length≤100) :
 wpK Tryz.prog 0 zUt (fin [RS.cell 4 2 true] (zFX 0 (.agg (zT ⟨{a0 with defs:=(DS.map (·.id)).reverse}::L0,DS⟩)) [])) (qP [(4,.ptr 0 0),(5,.ptr 1 0)])
  [.box [.nil,.nil],.box [.row 2 nm,.row 3 DS.length],.row false 84 6 nm (zDg a0++zAM L0),.row false 39 31 DS.length (qB DS)]:=by
 have hmapL:(L0.map fun m=>({m with defs:=[]}:Md))=L0:=by
  clear hnm;induction L0 with
  | nil=>rfl
  | cons m L ih =>
   rw[List.map_cons,ih fun x hx=>hL0 x (by simp[hx])];have:=hL0 m (by simp);cases m;simp_all
 obtain⟨R,hR⟩:∃R:List Id,R=(DS.map (·.id)).reverse:=⟨_,rfl⟩;have hRl:R.length=DS.length:=by rw[hR]; simp
 rw[←hR];unfold zUt;simp;refine qR (S:=Nat) (fun k=>[(4,.ptr 0 0),(5,.ptr 1 0),(11,int ((DS.length:Int)-1-k))])
  (fun k=>[.box [.nil,.nil],.box [.row 2 nm,.row 3 DS.length],.row false 84 6 nm ((zDg a0).take 5++[.row 4 k]++zAM L0),.row false 39 31 DS.length (qB DS),.row false 29 3 k (zY (R.take k))]) (fun k=>k≤DS.length) (fun k=>DS.length-k) 0 (by simp)
  ((zCQ (l:=2) (o:=5) rfl rfl 29 3).trans (zP [0,1,2,3,4] 0 (by decide) (by simp) (by simp[zDg]) (by simp; exact(IntWalk.i64_in _ (by omega)).symm))) ?_
 intro k hk;by_cases h:k<DS.length
 ·have hi0:DS.length-1-k<DS.length:=by omega
  have c1:(0:Int)≤(DS.length:Int)-1-k:=by omega
  obtain⟨i,hi⟩:∃i:Nat,i=DS.length-1-k:=⟨_,rfl⟩;have hii:(DS.length:Int)-1-k=i:=by omega
  rw[←hi]at hi0;have hst:R.take (k+1)=R.take k++[DS[i].id]:=by
   have:=zW4 (l:=DS.map (·.id)) (k:=k) (by simpa using h);rw[hR,this];simp only[List.getElem_map,List.length_map]
   congr 4
   exact hi.symm
  have hdr:=jU hi0;have hb3:i*31+3≤DS.length*31:=by omega
  have hw:IntKind.i64.wrap ((i:Int)-1)=(DS.length:Int)-1-((k+1:Nat):Int):=by
   have:(i:Int)-1=(DS.length:Int)-1-((k+1:Nat):Int):=by omega
   rw[←this];exact IntWalk.i64_in _ (by omega)
  have hnm0:0<nm:=by omega
  rw[hii];simp[hi0,hdr,hb3,zO,hnm0,zDg];refine⟨⟨by simp[maxLen]; omega,by omega⟩,?_⟩;exact zS (k+1) h (by omega) (zP [0,1,2,3,4] 0 (by decide) (by simp) (by rw[hst]; simp[zDg,jA,jK]) (by simp[hw]))
 ·have hke:k=DS.length:=by omega
  subst hke;have c1:¬(0:Int)≤(DS.length:Int)-1-DS.length:=by omega
  have hall:R.take DS.length=R:=List.take_of_length_le (by omega);have em:(DS.length:Int)-1-DS.length = -1:=by omega
  rw[em];simp;exact zC 2 (by simp[zT,zDg,zBi,zCT,hall,hRl,hnm,zON,hmapL,zDi])
set_option maxHeartbeats 4000000 in
set_option maxRecDepth 100000 in
theorem zYU (p:Prg)(hf:FineP p)(hm:0<p.mods.length)(n:Int)(hn0:0≤n)(hn:n≤1000):Ret Tryz.prog 19 [.agg (zT p),int n] [] (.agg (zT (zLy n p))) []:=by
 have hd9:=hf.defs;have hm100:=hf.mods;refine zH Tryz.func19 rfl qMM (rs:=[.cell 4 2 true]) (by kernel_rfl) ?_;unfold qGs;simp[zT];refine qR (S:=Nat) (fun i=>[(1,int n),(2,.ptr 0 0),(4,.ptr 1 0),(5,.ptr 2 0),(6,int i)])
  (fun i=>[.box (zT p),.box [.nil,.nil],.box [.row 3 i,.row 4 0],.row false 84 6 i (zAM ((zCy n p.mods).take i)),.row false 39 31 0 []]) (fun i=>i≤p.mods.length) (fun i=>p.mods.length-i) 0 (by simp)
  (((yU (l:=2) (o:=0) rfl rfl 84 6).trans (yU (l:=2) (o:=1) rfl rfl 39 31)).trans (zP [0,1,2,3,4] 0 (by decide) (by simp) (by simp[zT,zAM]) (by simp))) ?_
 intro i hi;by_cases h:i<p.mods.length
 ·have hdr:=zNN h;have hb6:i*6+6≤p.mods.length*6:=by omega
  have hst:=zHJ (l:=zCy n p.mods) (i:=i) (by simp[zCy]; exact h);have hg:(zCy n p.mods)[i]'(by simp[zCy]; exact h)=⟨p.mods[i].id,zSQ (IntKind.i64.wrap (i+n)),p.mods[i].uses,[]⟩:=by simp[zCy]
  rw[hg]at hst;have wi:IntKind.i64.wrap ((i:Int)+1)=i+1:=IntWalk.i64_in _ (by omega);have win:IntKind.i64.wrap ((i:Int)+n)=i+n:=IntWalk.i64_in _ (by omega);rw[win]at hst;have e4:((i:Int)+n).tmod 4=((i:Int)+n) % 4:=tmN (by omega);obtain⟨x,hx⟩:∃x:Nat,((i:Int)+n).tmod 4=x:=⟨(((i:Int)+n) % 4).toNat,by omega⟩;have hx4:x<4:=by omega
  have hfour:∃s rest,zSQ (i+n)=s∧List.drop x [A.lit (.string ⟨#[108,101,102,116]⟩),.lit (.string ⟨#[114,105,103,104,116]⟩),.lit (.string ⟨#[110,111,114,116,104]⟩),.lit (.string ⟨#[115,111,117,116,104]⟩)]=A.lit (.string s)::rest:=by
   have:x=0∨x=1∨x=2∨x=3:=by omega
   unfold zSQ;rw[hx];rcases this with rfl | rfl | rfl | rfl<;>exact⟨_,_,rfl,rfl⟩
  obtain⟨s,rest,hs1,hs2⟩:=hfour;rw[hs1]at hst;have hx4':(x:Int)<4:=by omega
  generalize p.mods[i]=m at *
  simp[zT,h,hdr,hb6,zCT,win,hx,hx4,hx4',hs2]
  intros
  refine⟨⟨by simp[maxLen]; omega,by omega⟩,?_⟩;exact zS (i+1) h (by omega) (zP [0,1,2,3,4] 0 (by decide) (by simp) (by rw[hst]; simp[zT,zDg]) (by simp[wi]))
 ·have hie:i=p.mods.length:=by omega
  subst hie;have hql:(zCy n p.mods).length=p.mods.length:=by simp[zCy]
  have hall:(zCy n p.mods).take p.mods.length=zCy n p.mods:=List.take_of_length_le (by omega);rw[hall];have hrid:∃a0 L0,zCy n p.mods=a0::L0∧a0.id=(match p.mods with | m::_=>m.id | []=>Id.zero)∧L0.length+1=p.mods.length:=by
   cases hp:p.mods with
   | nil=>rw[hp]at hm; simp at hm
   | cons m L=>exact⟨⟨m.id,zSQ (IntKind.i64.wrap (((0:Nat):Int)+n)),m.uses,[]⟩,_,by rw[zCy,List.mapIdx_cons],rfl,by simp⟩
  obtain⟨a0,L0,hq,hmd,hL0⟩:=hrid;have hfin:zLy n p=⟨{a0 with defs:=(p.defs.map (·.id)).reverse}::L0,zCs n a0.id p.defs⟩:=by unfold zLy;rw[hq,←hmd]
  rw[hq];rw[hfin];have hcq:zAM (a0::L0)=zDg a0++zAM L0:=rfl;have hL0':∀m∈L0,m.defs=[]:=fun m hm'=>by
   have:m∈zCy n p.mods:=by rw[hq]; simp[hm']
   simp only[zCy,List.mem_mapIdx]at this;obtain⟨j,hj,rfl⟩:=this;rfl
  rw[hcq];simp[zT]
  intros
  refine qR (S:=Nat) (fun i=>[(1,int n),(2,.ptr 0 0),(4,.ptr 1 0),(5,.ptr 2 0),(8,int i)])
   (fun i=>[.box (zT p),.box [.nil,.nil],.box [.row 3 p.mods.length,.row 4 i],.row false 84 6 p.mods.length (zDg a0++zAM L0),.row false 39 31 i (qB ((zCs n a0.id p.defs).take i))]) (fun i=>i≤p.defs.length) (fun i=>p.defs.length-i) 0 (by simp)
   (zP [0,1,2,3,4] 0 (by decide) (by simp) (by simp[zT,zDg]) (by simp)) ?_
  intro i hi;by_cases h:i<p.defs.length
  ·have hdr:=jU h;have hb31:i*31+31≤p.defs.length*31:=by omega
   have hst:=zEc (l:=zCs n a0.id p.defs) (i:=i) (by simp; exact h);have hg:(zCs n a0.id p.defs)[i]'(by simp; exact h)=zH2 n p.defs.length a0.id i p.defs[i]:=by simp[zCs]
   rw[hg]at hst;have hfd:=hf.get _ (List.getElem_mem h);generalize p.defs[i]=d at *
   have wi:IntKind.i64.wrap ((i:Int)+1)=i+1:=IntWalk.i64_in _ (by omega);have hs1:=hfd.s1;have hs6:=hfd.s6;have hsz:=hfd.size;have hnil:d.slots≠[]:=fun e=>by rw[e]at hs1; simp at hs1
   have hnm:=zWm (txt 118 n) d.body (zOG _ hfd.nice (by omega));have t1:=zKV 122 (IntKind.u8.wrap (IntKind.i64.wrap (97+(IntKind.i64.wrap (i+n)).tmod 26)));have t2:=zKV 118 (IntKind.u8.wrap (IntKind.i64.wrap (97+n.tmod 26)));have hml:¬p.mods.length=0:=by omega
   simp[zT,h,hdr,hb31,zO,t1,t2,hm,zDg]
   intros
   refine zR hnm (by simp[zF,txt]) (by simp) ?_;simp[zF,hnil];refine⟨⟨by simp[maxLen]; omega,by omega⟩,?_⟩;refine qR (S:=Nat) (fun j=>[(1,int n),(2,.ptr 0 0),(4,.ptr 1 0),(5,.ptr 2 0),(8,int i),(9,.ptr 5 0),(10,int j)])
    (fun j=>[.box (zT p),.box [.nil,.nil],.box [.row 3 p.mods.length,.row 4 i],.row false 84 6 p.mods.length (zDg a0++zAM L0),.row false 39 31 i (qB ((zCs n a0.id p.defs).take i)),
     .box ((zO (zH2 n p.defs.length a0.id i d)).take 8++[.row 6 d.slots.length]++(zO (zH2 n p.defs.length a0.id i d)).drop 9),.row false 90 11 d.slots.length (jC (slN n d.slots j))]) (fun j=>j≤d.slots.length) (fun j=>d.slots.length-j) 0 (by simp)
    (zP [0,1,2,3,4,5,6] 0 (by decide) (by simp) (by simp[zT,zDg,zO,zH2,zWF,zAL,zF,txt]) (by simp)) ?_
   intro j hj;have hwE:IntKind.i64.wrap ((j:Int)+1)=j+1:=IntWalk.i64_in _ (by omega);by_cases hjl:j<d.slots.length
   ·have hjl':j<(slN n d.slots j).length:=by simpa using hjl
    have t3:=zKV 115 (IntKind.u8.wrap (IntKind.i64.wrap (97+(IntKind.i64.wrap (j+n)).tmod 26)));have hnmS:=zNP hjl' (txt 115 (IntKind.i64.wrap (j+n)));have hsu:=zWE n d.slots hjl;unfold qDd at hsu;rw[←hsu]at hnmS;have hb1:j*11+3+1≤d.slots.length*11:=by omega
    simp[zO,zH2,hjl,t3,hb1]
    intros
    exact zS (j+1) hjl (by omega) (zP [0,1,2,3,4,5,6] 0 (by decide) (by simp) (by simp[zT,zDg,zO,zH2,←hnmS,txt]) (by simp[hwE]))
   ·have hje:j=d.slots.length:=by omega
    subst hje;simp[zO,zH2]
    intros
    refine⟨qP [(1,int n),(2,.ptr 0 0),(4,.ptr 1 0),(5,.ptr 2 0),(8,int i),(9,.ptr 5 0)],
     [.box (zT p),.box [.nil,.nil],.box [.row 3 p.mods.length,.row 4 i],.row false 84 6 p.mods.length (zDg a0++zAM L0),.row false 39 31 i (qB ((zCs n a0.id p.defs).take i)),
      .box (zO (zH2 n p.defs.length a0.id i d))],zP [0,1,2,3,4,5] 1 (by decide) (by simp) (by simp[zT,zDg,zO,zH2]) (by simp),?_⟩
    unfold zZK;simp;refine⟨⟨by simp[maxLen]; omega,by omega⟩,?_⟩;exact zS (i+1) h (by omega) (zP [0,1,2,3,4] 0 (by decide) (by simp) (by rw[hst]; simp[zT,zDg]) (by simp[wi]))
  ·have hie:i=p.defs.length:=by omega
   subst hie;have halld:(zCs n a0.id p.defs).take p.defs.length=zCs n a0.id p.defs:=List.take_of_length_le (by simp);rw[halld];have hD:=qOY p.mods.length a0 L0 hL0' hL0 (zCs n a0.id p.defs) (by simp; omega);have hids:(zCs n a0.id p.defs).map (·.id)=p.defs.map (·.id):=by
    apply List.ext_getElem
    ·simp
    ·intro j h1 h2; simp[zCs,zH2]
   rw[hids,zMv]at hD;simp[zT]at hD ⊢
   intros
   exact⟨_,_,zP [1,2,3,4] 0 (by decide) (by simp) (by simp[zDg]) (by simp),hD⟩
def mcN:Nat→Nat
 | 0=>1
 | f+1=>1+3*mcN f
theorem zIw {g:Typ→Int→Val×Int}{c:Nat}:∀(l:List Typ) (a:Int),(∀t∈l,∀b,qC (g t b).1≤c)→qN (zAR g l a).1≤l.length*c
 | [],a,_=>by simp[zAR,qN]
 | t::l,a,h=>by
  have h1:=h t (by simp) a;have h2:=zIw l (g t a).2 fun x hx b=>h x (by simp[hx]) b
  simp only[zAR,qN,List.length_cons,Nat.add_mul,Nat.one_mul];omega
theorem zFK (p:Prg)(l:List Int)(hl:∀x∈l,w64 x=x):∀(f:Nat) (t:Typ) (a d:Int),Wf p f t→qC (yC p l f t a d).1≤mcN f
 | 0,t,a,d,h=>h.elim
 | f+1,t,a,d,h=>by
  unfold Wf at h;obtain⟨_,h⟩:=h;have hx:=yQ (i:=a) hl (show (0:Int)<1048576 by omega);unfold mcN;by_cases h0:t.k=0
  ·rw[yC,if_pos h0]; simp[qC,qN]
  by_cases h1:t.k=1
  ·rw[yC,if_neg h0,if_pos h1]; simp[qC,qN]
  by_cases h2:t.k=2
  ·obtain⟨_,x,hx1,hx2⟩:=h.resolve_left h0|>.resolve_left h1|>.resolve_right (fun e=>by omega);rw[yC,if_neg h0,if_neg h1,if_pos h2];have hkid:t.kids.headD Typ.zero=x:=by rw[hx1]; rfl
   rw[hkid];have hq:(if 3<d then 0 else ((atV l a 1048576).tmod 3).toNat)≤3:=by
    split
    ·omega
    ·have:=Int.tmod_lt_of_pos (atV l a 1048576) (show (0:Int)<3 by omega);omega
   generalize (if 3<d then 0 else ((atV l a 1048576).tmod 3).toNat)=q at hq;have:=zIw (g:=fun t b=>yC p l f t b (w64 (d+1))) (c:=mcN f) (List.replicate q x) (w64 (a+1)) fun y hy b=>by rw[List.eq_of_mem_replicate hy];exact zFK p l hl f x b _ hx2
   rw[List.length_replicate]at this;have:q*mcN f≤3*mcN f:=Nat.mul_le_mul_right _ hq;simp only[qC];omega
  obtain⟨_,_,_,g3,g4⟩:=h.resolve_left h0|>.resolve_left h1|>.resolve_left (fun e=>h2 e.1);by_cases hk:(dfn p t.id).kind=1
  ·rw[yC,if_neg h0,if_neg h1,if_neg h2,if_pos hk];have key:∀y:Typ,y=Typ.zero∨Wf p f y→qC (yC p l f y (w64 (a+1)) (w64 (d+1))).1≤3*mcN f:=by
    intro y hy;rcases hy with rfl | hy
    ·cases f with
     | zero=>simp[yC,qC,qN,mcN]
     | succ f=>rw[yC,if_pos (by rfl)]; simp[qC,qN,mcN]; omega
    ·have:=zFK p l hl f y (w64 (a+1)) (w64 (d+1)) hy;omega
   have:=key (((dfn p t.id).slots.map Slt.typ).getD ((atV l a 1048576).tmod (dfn p t.id).slots.length).toNat Typ.zero) (by
    rw[List.getD_eq_getElem?_getD,List.getElem?_map];cases hg:(dfn p t.id).slots[((atV l a 1048576).tmod (dfn p t.id).slots.length).toNat]? with
    | none=>left; rfl
    | some s=>right; exact g4 s (List.mem_of_getElem? hg))
   simp only[qC,qN];omega
  ·rw[yC,if_neg h0,if_neg h1,if_neg h2,if_neg hk];have:=zIw (g:=fun t b=>yC p l f t b (w64 (d+1))) (c:=mcN f) ((dfn p t.id).slots.map Slt.typ) (w64 (a+1)) fun y hy b=>by obtain⟨s,hs,rfl⟩:=List.mem_map.1 hy;exact zFK p l hl f s.typ b _ (g4 s hs)
   rw[List.length_map]at this;have:(dfn p t.id).slots.length*mcN f≤3*mcN f:=Nat.mul_le_mul_right _ g3;simp only[qC];omega
theorem zFh:∀{l:List Val} {c:Nat},(∀v∈l,zA9 v≤c)→yW l≤c
 | [],c,_=>by simp[yW]
 | v::l,c,h=>by
  have h1:=h v (by simp);have h2:=zFh (l:=l) (c:=c) fun x hx=>h x (by simp[hx])
  simp only[yW];omega
theorem zLf (p:Prg):∀(f:Nat) (t:Typ),zA9 (zAt p f t)≤f+1
 | 0,t=>by simp[zAt,zA9,yW]
 | f+1,t=>by
  unfold zAt;have hm:∀v∈(dfn p t.id).slots.map fun s=>zAt p f s.typ,zA9 v≤f+1:=fun v hv=>by obtain⟨s,_,rfl⟩:=List.mem_map.1 hv;exact zLf p f s.typ
  split
  ·simp[zA9,yW]
  ·split
   ·simp[zA9,yW]
   ·split
    ·simp[zA9,yW]
    ·split
     ·simp only[zA9];have:=zFh (l:=((dfn p t.id).slots.map fun s=>zAt p f s.typ).take 1) fun v hv=>hm v (List.mem_of_mem_take hv)
      omega
     ·simp only[zA9];have:=zFh hm;omega
theorem zP1 {p:Prg}{l:List Int}(hl:∀x∈l,w64 x=x){t:Typ}(hf:Wf p 10 t)(hz:Wz p 5 t):qC (zD7 p t l)≤256∧zA9 (zD7 p t l)≤24:=by
 unfold zD7;have hm:=zFK p l hl 10 t 0 1 hf;have:mcN 10=88573:=by decide
 split
 ·have h1:=zFW p 5 t hz;have h2:=zLf p 5 t;have:zcN 5=121:=by decide
  exact⟨by omega,by omega⟩
 ·rename_i h;have h1:=zIz (yC p l 10 t 0 1).1 (by omega);have h2:=zJF (yC p l 10 t 0 1).1 (by omega);exact⟨by omega,by omega⟩
def zCY (p:Prg)(d:Dfn)(l:List Int):List Val:=d.slots.mapIdx fun i s=>zD7 p s.typ (l.drop (min (7*i) l.length))
theorem zSq (p:Prg)(d:Dfn)(l:List Int):(zCY p d l).length=d.slots.length:=by simp[zCY]
theorem zN9 {p:Prg}{hs:List Hd}(hf:Fit p hs){d:Dfn}(hd:d∈p.defs){l:List Int}(hl:∀x∈l,w64 x=x):∀v∈zCY p d l,qC v≤256∧zA9 v≤24:=fun v hv=>by simp only[zCY,List.mem_mapIdx]at hv;obtain⟨i,hi,rfl⟩:=hv;have ht:=(hf.slots d hd).2.2.2.2 _ (List.getElem_mem hi);exact zP1 (fun x hx=>hl x (List.mem_of_mem_drop hx)) (zSk hf ht (by omega) 10 (by omega)) (zSl hf ht (by omega) 5 (by omega))
theorem zKd (l:List Int)(n:Nat):(yB l).drop n=yB (l.drop n):=by simp[yB]
def qGh:K:=G [kO 3 0,kO 4 1,kMn 6] (G [kMn 7] (Z (G [kMi 8 0] (K.block 0 (K.loop (Z (G [M 9 8,D 10 4 8,L 11 10 1,kN 12 11,kB 13 9 12 .lss] (Y 13 ks (K.exit 0))) (Z (K.block 1 (K.dops [(0,0,M 16 7),(1,0,J 17 3 2),(2,0,D 18 4 8),(3,0,L 19 18 1),(4,0,M 20 8),(5,0,kX 21 19 20 11),(6,0,D 22 21 4),(7,0,J 23 22 5),(8,0,M 24 2),(9,0,M 25 8),(10,0,⟨none,.bin (some 26) .mul (kc 7) (kt 25)⟩),(11,0,M 27 2),(12,0,kN 28 27),(13,0,⟨none,.mm (some 29) false [(kt 26),(kt 28)]⟩),(14,0,⟨none,.slc (some 30) (kt 24) 1 (some (kt 29)) none none⟩),(15,0,kC 31 87 [(kt 17),(kt 23),(kt 30)]),(16,0,kd 32 47 3 1 [ki,ki,kl] [(0,3,(kt 31))]),(17,0,kP 33 47 3 40 16 32),(18,0,M 7 33)])) (K.ops [M 14 8,kBi 15 14 1 .add,M 8 15])))))) (G [M 34 7,M 6 34] kr)))
theorem qMB:zK Tryz.prog Tryz.f38.ntmps (Tryz.f38.body.getD .skip)=some qGh.erase:=by kernel_rfl
@[simp] theorem qN7:zA Tryz.prog 38=true:=by kernel_rfl
set_option maxHeartbeats 1000000 in
theorem zXo {p:Prg}{hs:List Hd}(hf:Fit p hs){d:Dfn}(hd:d∈p.defs)(l:List Int)(hl:∀x∈l,w64 x=x) :
 Ret Tryz.prog 38 [.agg (zT p),.agg (zO d),.sl l.length (yB l)] [] (.sl (zCY p d l).length (zW (zCY p d l))) []:=by
 have hL8:=hf.len8;obtain⟨_,s6,_,_,sty⟩:=hf.slots d hd;have hlen:=zSq p d l;refine zH Tryz.func38 rfl qMB (rs:=[.slot 6]) (by kernel_rfl) ?_;unfold qGh;simp[zT,zO];refine qR (S:=Nat) (fun i=>[(2,.sl l.length (yB l)),(3,.ptr 0 0),(4,.ptr 1 0),(7,.row 2 i),(8,int i)]) (fun i=>[.box (zT p),.box (zO d),.row false 47 3 i (zW ((zCY p d l).take i))]) (fun i=>i≤d.slots.length) (fun i=>d.slots.length-i) 0 (by simp)
  ((jV (t:=7) (by simp) 47 3).trans (zP [0,1,2] 0 (by decide) (by simp) (by simp[zT,zO]) (by simp))) ?_
 intro i hi;have hw:IntKind.i64.wrap ((i:Int)+1)=(i:Int)+1:=IntWalk.i64_in _ (by omega);by_cases hil:i<d.slots.length
 ·have hia:i<(zCY p d l).length:=by omega
  have ht:=sty _ (List.getElem_mem hil);have hv:=zWV p (by omega) (l.drop (min (7*i) l.length)) (fun x hx=>hl x (List.mem_of_mem_drop hx)) d.slots[i].typ (zSk hf ht (by omega) 10 (by omega)) (zSl hf ht (by omega) 5 (by omega));have hst:zW ((zCY p d l).take (i+1))=zW ((zCY p d l).take i)++[.lit (.int .i64 (zD7 p d.slots[i].typ (l.drop (min (7*i) l.length))).k),.lit (.int .i64 (zD7 p d.slots[i].typ (l.drop (min (7*i) l.length))).n),.sl (zD7 p d.slots[i].typ (l.drop (min (7*i) l.length))).kids.length (zW (zD7 p d.slots[i].typ (l.drop (min (7*i) l.length))).kids)]:=by rw[List.take_succ_eq_append_getElem hia,zBP];simp[zCY]
  have hw7:IntKind.i64.wrap (7*(i:Int))=((7*i:Nat):Int):=by rw[IntWalk.i64_in _ (by omega)]; omega
  generalize zD7 p d.slots[i].typ (l.drop (min (7*i) l.length))=v at hv hst;have hdl:(yB (l.drop (min (7*i) l.length))).take (l.length-min (7*i) l.length)=yB (l.drop (min (7*i) l.length)):=List.take_of_length_le (by simp[yB]);rw[List.length_drop]at hv;obtain⟨q,hq⟩:∃q:Nat,q=7*i:=⟨_,rfl⟩;rw[←hq]at hw7 hv hdl;by_cases hc:l.length<q
  ·have e:min q l.length=l.length:=by omega
   rw[e]at hv hdl;have hc':(l.length:Int)<(q:Int):=by omega
   simp[zT,zO,hil,jN hil,zAh,hw7,hc',zKd]
   intros
   refine qM hv (by simp[zT,zB,yB]) (by simp[zQ]) ?_;simp[zQ];refine⟨⟨by simp[maxLen]; omega,by omega⟩,?_⟩;exact zS (i+1) hil (by omega) (zP [0,1,2] 0 (by decide) (by simp) (by simp[zT,zO,hst]) (by simp[hw]))
  ·have e:min q l.length=q:=by omega
   rw[e]at hv hdl;have hc':¬(l.length:Int)<(q:Int):=by omega
   have hle:q≤l.length:=by omega
   simp[zT,zO,hil,jN hil,zAh,hw7,hc',hle,zKd,hdl]
   intros
   refine qM hv (by simp[zT,zB]) (by simp[zQ]) ?_;simp[zQ];refine⟨⟨by simp[maxLen]; omega,by omega⟩,?_⟩;exact zS (i+1) hil (by omega) (zP [0,1,2] 0 (by decide) (by simp) (by simp[zT,zO,hst]) (by simp[hw]))
 ·have hie:i=d.slots.length:=by omega
  subst hie;have hall:(zCY p d l).take d.slots.length=zCY p d l:=by rw[←hlen]; exact List.take_length
  rw[hall];simp[zT,zO]
  intros
  exact zC 1 (by simp[hlen])
inductive Nam:Typ→Id→Prop
 | here (t:Typ) (h:t.k=3):Nam t t.id
 | kid (t k:Typ) (x:Id) (h:k∈t.kids) (hx:Nam k x):Nam t x
inductive Rch (p:Prg)(T:Typ→Prop):Id→Prop
 | base (t:Typ) (x:Id) (ht:T t) (hx:Nam t x):Rch p T x
 | step (y:Id) (s:Slt) (x:Id) (hy:Rch p T y) (hs:s∈(dfn p y).slots) (hx:Nam s.typ x):Rch p T x
theorem Rch.mono {p:Prg}{T T':Typ→Prop}{x:Id}(h:Rch p T x)(hT:∀t,T t→T' t):Rch p T' x:=by
 induction h with
 | base t x ht hx=>exact .base t x (hT t ht) hx
 | step y s x _ hs hx ih=>exact .step y s x ih hs hx
theorem Rch.one {p:Prg}{T:Typ→Prop}{x:Id}(h:Rch p T x):∃t,T t∧Rch p (· = t) x:=by
 induction h with
 | base t x ht hx=>exact⟨t,ht,.base t x rfl hx⟩
 | step y s x _ hs hx ih =>
  obtain⟨t,ht,h⟩:=ih;exact⟨t,ht,.step y s x h hs hx⟩
def yR (p:Prg):Nat→Typ→List Id→List Id
 | 0,_,L=>L
 | f+1,t,L=>if t.k=3∧t.id∉t.kids.foldl (fun L k=>yR p f k L) L then (dfn p t.id).slots.foldl (fun L s=>yR p f s.typ L) (t.kids.foldl (fun L k=>yR p f k L) L++[t.id])
  else t.kids.foldl (fun L k=>yR p f k L) L
structure Meets (p:Prg)(T:Typ→Prop)(L L':List Id):Prop where
 sub:∀x∈L,x∈L'
 all:∀t x,T t→Nam t x→x∈L'
 clo:∀x∈L',x∉L→∀s∈(dfn p x).slots,∀y,Nam s.typ y→y∈L'
 snd:∀x∈L',x∈L∨Rch p T x
theorem Meets.trans {p:Prg}{T T':Typ→Prop}{L L' L'':List Id}(h:Meets p T L L')(k:Meets p T' L' L''):Meets p (fun t=>T t∨T' t) L L'':=by
 refine⟨fun x hx=>k.sub x (h.sub x hx),fun t x ht hx=>?_,fun x hx hn s hs y hy=>?_,fun x hx=>?_⟩
 ·rcases ht with ht | ht
  ·exact k.sub x (h.all t x ht hx)
  ·exact k.all t x ht hx
 ·by_cases hx':x∈L'
  ·exact k.sub y (h.clo x hx' hn s hs y hy)
  ·exact k.clo x hx hx' s hs y hy
 ·rcases k.snd x hx with hx | hx
  ·rcases h.snd x hx with hx | hx
   ·exact .inl hx
   ·exact .inr (hx.mono fun _ h=>.inl h)
  ·exact .inr (hx.mono fun _ h=>.inr h)
theorem Meets.congr {p:Prg}{T T':Typ→Prop}{L L':List Id}(h:Meets p T L L')(hT:∀t,T t↔T' t):Meets p T' L L' :=
 ⟨h.sub,fun t x ht hx=>h.all t x ((hT t).2 ht) hx,h.clo,fun x hx=>(h.snd x hx).imp (fun h=>h) fun h=>h.mono fun t=>(hT t).1⟩
def zCr (p:Prg)(ss:List Slt)(L:List Id):List Id:=ss.foldl (fun L s=>yR p 10 s.typ L) L
mutual
def zOA:Typ→List Id→List Id
 | .mk k x l,L=>zKq l (if k=3 then zIa L x else L)
def zKq:List Typ→List Id→List Id
 | [],L=>L
 | t::l,L=>zKq l (zOA t L)
end
mutual
theorem zOB:∀(t:Typ) (L:List Id) (x:Id),x∈zOA t L↔x∈L∨Nam t x
 | .mk k y l,L,x=>by
  rw[zOA,zMj l];constructor
  ·rintro(h | ⟨t,ht,h⟩)
   ·split at h
    ·rename_i hk;rcases zEf.1 h with h | h
     ·exact .inl h
     ·subst h; exact .inr (.here (.mk k x l) hk)
    ·exact .inl h
   ·exact .inr (.kid (.mk k y l) t x ht h)
  ·rintro(h | h)
   ·left;split
    ·exact zEf.2 (.inl h)
    ·exact h
   ·generalize hT:Typ.mk k y l=T at h;cases h with
    | here _ h =>
     subst hT;left;show y∈_;rw[if_pos (show k=3 from h)];exact zEf.2 (.inr rfl)
    | kid _ t _ ht hx =>
     subst hT;exact .inr ⟨t,ht,hx⟩
theorem zMj:∀(l:List Typ) (L:List Id) (x:Id),x∈zKq l L↔x∈L∨∃t∈l,Nam t x
 | [],L,x=>by simp[zKq]
 | t::l,L,x=>by rw[zKq,zMj l,zOB t];simp only[List.mem_cons,exists_eq_or_imp,or_assoc]
end
mutual
theorem zRJ:∀(t:Typ) (L:List Id),SS L→SS (zOA t L)
 | .mk k y l,L,h=>by
  rw[zOA];refine zOC l _ ?_;split
  ·exact zNb h
  ·exact h
theorem zOC:∀(l:List Typ) (L:List Id),SS L→SS (zKq l L)
 | [],L,h=>h
 | t::l,L,h=>by rw[zKq]; exact zOC l _ (zRJ t L h)
end
def namS (ss:List Slt)(L:List Id):List Id:=ss.foldl (fun L s=>zOA s.typ L) L
@[simp] theorem qKq:zA Tryz.prog 4=true:=by kernel_rfl
theorem PrgOk.fine {l:List Int}(hl:∀x∈l,w64 x=x){P:Prg}(h:PrgOk l P):FineP P∧5≤P.defs.length∧P.defs.length≤8∧0<P.mods.length:=by
 obtain⟨hnm,hnm2⟩:=zQ3 l hl;have m1:1≤(nmV l:Int):=by omega
 have m2:(nmV l:Int)≤2:=by omega
 obtain⟨n5,n8⟩:=zA1 l (nmV l:Int);have hlen:P.defs.length=(zX l (nmV l)).length:=by have:=congrArg List.length h.heads; simpa using this
 have hml:0<P.mods.length∧P.mods.length≤2:=by rw[h.mods,zHx];split<;>simp
 obtain⟨base,_,hb⟩:=h.bodies;have key:∀d∈P.defs,FineD d:=fun d hd=>by
  obtain⟨k,hk,rfl⟩:=List.getElem_of_mem hd;have hg:P.defs[k]?=some P.defs[k]:=List.getElem?_eq_getElem hk;obtain⟨_,e1,e6,_⟩:=zGz m1 m2 hl (i:=k) (d:=P.defs[k]) (by rw[←h.heads,List.getElem?_map,hg]; rfl) 0;rw[zFk]at e1 e6;rcases hb k _ hg with ⟨_,h2,_⟩ | ⟨_,e,f,hr,_⟩
  ·exact⟨e1,e6,by rw[h2]; exact zTu,by rw[h2]; simp[Exp.zero,tmps,qW]⟩
  ·have:=zPf f e (zZk hr.wt);exact⟨e1,e6,by rw[hr.body]; exact this.1,by rw[hr.body,this.2]; exact hr.len⟩
 exact⟨FineP.mk' (by omega) (by omega) key,by omega,by omega,hml.1⟩
theorem zQD (n:Int)(md:Id){ds:List Dfn}(h:∀d∈ds,FineD d):∀d∈zCs n md ds,FineD d:=fun d hd=>by simp only[zCs,List.mem_mapIdx]at hd;obtain⟨i,hi,rfl⟩:=hd;have hf:=h _ (List.getElem_mem hi);have hn:=zOE (txt 118 n) ds[i].body hf.nice;exact⟨by simp only[zH2,zSb]; exact hf.s1,by simp only[zH2,zSb]; exact hf.s6,hn.1,by simp only[zH2]; rw[hn.2]; exact hf.size⟩
theorem zT3 (n:Int){p:Prg}(h:FineP p):FineP (zLy n p):=by
 refine FineP.mk' (by simp only[zLy,zMv]; exact h.defs) ?_ (zQD _ _ h.get);unfold zLy;have hm:=h.mods;have hl:(zCy n p.mods).length=p.mods.length:=by simp[zCy]
 cases hq:zCy n p.mods with
 | nil=>simp
 | cons a l=>rw[hq]at hl; simp only[List.length_cons]at hl ⊢; omega
def zGq (l:List Prg):List A:=l.flatMap zT
theorem zPY (p:Prg):qX (zT p):=by have h1:=zEx p.mods;have h2:=zEu p.defs;exact⟨by simp[zT,h1.1],fun rf g=>by simp[zT,h1.2]⟩
theorem zHb (l:List Prg):qX (zGq l):=zAN zPY l
@[simp] theorem qAH (l:List Prg):qU (zGq l)=zGq l:=(zHb l).1
@[simp] theorem qFi {rf g}(l:List Prg):vwL rf g (zGq l)=zGq l:=(zHb l).2 _ _
@[simp] theorem qBV (l:List Prg):(zGq l).length=l.length*2:=by rw[zGq,zBr (k:=2) (fun _=>rfl)]
end Go.Proofs.YthglhccibdlccaaGreatDoor

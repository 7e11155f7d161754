/-
  The program's operations: numbers, truth values, lists.
  Tweaked programs, walked.
  The reference's operations.
-/
import Derived.Test.YthglhccibdlccaaGreatDoorX42
import Derived.Test.YthglhccibdlccaaGreatDoorX22
import Derived.Test.YthglhccibdlccaaGreatDoorX18
set_option linter.unusedVariables false
set_option linter.unusedSimpArgs false
namespace Go.Proofs.YthglhccibdlccaaGreatDoor
open Go.Abs
def qE0:K:=G [kMi 2 0] (G [M 3 0,⟨none,.mm (some 4) true [(kt 3),(kc (-1099511627776))]⟩,⟨none,.mm (some 5) false [(kt 4),(kc 1099511627776)]⟩,M 2 5] kr)
theorem qKW:zL Tryz.prog Tryz.f200.ntmps (Tryz.f200.body.getD .skip)=some qE0.erase:=by kernel_rfl
@[simp] theorem qLN:zA Tryz.prog 200=true:=by kernel_rfl
theorem zNf (n:Int):Ret Tryz.prog 200 [int n] [] (int (zBy n)) []:=by
 refine zI Tryz.func200 rfl qKW (rs:=[.slot 2]) (by kernel_rfl) ?_;unfold qE0;by_cases h1:n < -1099511627776
 ·simp[h1];exact zC 0 (by simp[zBy,h1,show ¬1099511627776<n by omega])
 ·by_cases h2:1099511627776<n
  ·simp[h1,h2];exact zC 0 (by simp[zBy,h2])
  ·simp[h1,h2];exact zC 0 (by simp[zBy,h1,h2])
def qE8:K:=G [kZ 2 [ki,ki,kl]] (Z (G [M 3 0] (Y 3 (G [kb 4 [ki,ki,kl] [(0,1,(kc 1)),(1,1,(kc 1))],S 2 4 3] kr) ks)) (G [kb 5 [ki,ki,kl] [(0,1,(kc 1))],S 2 5 3] kr))
theorem qLe:zL Tryz.prog Tryz.f162.ntmps (Tryz.f162.body.getD .skip)=some qE8.erase:=by kernel_rfl
@[simp] theorem qLV:zA Tryz.prog 162=true:=by kernel_rfl
theorem zAN (b:Bool):Ret Tryz.prog 162 [bl b] [] (.agg (zP (zB8 b))) []:=by
 refine zI Tryz.func162 rfl qLe (rs:=[.cell 2 3 true]) (by kernel_rfl) ?_;unfold qE8;cases b with
 | true =>
  simp;exact zC 0 (by simp[zP,zB8,Val.k,Val.n,Val.kids])
 | false =>
  simp;exact zC 0 (by simp[zP,zB8,Val.k,Val.n,Val.kids])
def Rng (a:Int):Prop:=-1099511627776≤a∧a≤1099511627776
def qE3:K:=G [kMi 4 0] (G [M 5 0,M 6 1,kB 7 5 6 .add,kC 8 200 [(kt 7)],M 4 8] kr)
theorem qKZ:zL Tryz.prog Tryz.f199.ntmps (Tryz.f199.body.getD .skip)=some qE3.erase:=by kernel_rfl
@[simp] theorem qLQ:zA Tryz.prog 199=true:=by kernel_rfl
def qE4:K:=G [kMi 4 0] (G [M 5 0,M 6 1,kB 7 5 6 .sub,kC 8 200 [(kt 7)],M 4 8] kr)
theorem qLa:zL Tryz.prog Tryz.f201.ntmps (Tryz.f201.body.getD .skip)=some qE4.erase:=by kernel_rfl
@[simp] theorem qLR:zA Tryz.prog 201=true:=by kernel_rfl
def qE7:K:=G [kMi 4 0] (Z (G [M 5 0,kQi 6 5 0 false,M 7 6,T 7 false (M 8 1),T 7 false (kQi 9 8 0 false),kPt 10 7 9] (Y 10 (G [kMi 4 0] kr) ks)) (Z (G [M 11 0,M 12 0,⟨none,.neg (some 13) (kt 12)⟩,⟨none,.mm (some 14) true [(kt 11),(kt 13)]⟩,M 15 1,M 16 1,⟨none,.neg (some 17) (kt 16)⟩,⟨none,.mm (some 18) true [(kt 15),(kt 17)]⟩,⟨none,.bin (some 19) .quo (kc 1099511627776) (kt 18)⟩,kB 20 14 19 .gtr] (Y 20 (Z (G [M 21 0,kBi 22 21 0 .lss,M 23 1,kBi 24 23 0 .lss,⟨none,.eqv (some 25) false .b (kt 22) (kt 24)⟩] (Y 25 (G [kMi 4 1099511627776] kr) ks)) (G [⟨none,.mov (some 4) (kc (-1099511627776))⟩] kr)) ks)) (G [M 26 0,M 27 1,kB 28 26 27 .mul,M 4 28] kr)))
theorem qLd:zL Tryz.prog Tryz.f202.ntmps (Tryz.f202.body.getD .skip)=some qE7.erase:=by kernel_rfl
@[simp] theorem qLU:zA Tryz.prog 202=true:=by kernel_rfl
def qE2:K:=G [kMi 4 0] (Z (G [M 6 1,kQi 7 6 0 false] (Y 7 (G [kMi 4 0] kr) ks)) (G [M 8 0,M 9 1,kB 10 8 9 .quo,M 5 10] (Z (G [M 11 0,M 12 1,kB 13 11 12 .rem,kQi 14 13 0 true,M 15 14,T 15 true (M 16 0),T 15 true (kBi 17 16 0 .lss),T 15 true (M 18 1),T 15 true (kBi 19 18 0 .lss),⟨some (15,true),.eqv (some 20) true .b (kt 17) (kt 19)⟩,kPf 21 15 20] (Y 21 (K.ops [M 22 5,kBi 23 22 1 .sub,M 5 23]) ks)) (G [M 24 5,M 4 24] kr))))
theorem qKY:zL Tryz.prog Tryz.f203.ntmps (Tryz.f203.body.getD .skip)=some qE2.erase:=by kernel_rfl
@[simp] theorem qLP:zA Tryz.prog 203=true:=by kernel_rfl
def qE6:K:=G [kMi 4 0] (Z (G [M 5 1,kQi 6 5 0 false] (Y 6 (G [kMi 4 0] kr) ks)) (G [M 7 0,M 8 1,M 9 0,M 10 1,kC 11 203 [(kt 9),(kt 10)],kB 12 8 11 .mul,kB 13 7 12 .sub,M 4 13] kr))
theorem qLc:zL Tryz.prog Tryz.f204.ntmps (Tryz.f204.body.getD .skip)=some qE6.erase:=by kernel_rfl
@[simp] theorem qLT:zA Tryz.prog 204=true:=by kernel_rfl
theorem zW3 {a b:Int}(ha:Rng a)(hb:Rng b):Ret Tryz.prog 199 [int a,int b] [] (int (zBy (a+b))) []:=by obtain⟨a1,a2⟩:=ha;obtain⟨b1,b2⟩:=hb;refine zI Tryz.func199 rfl qKZ (rs:=[.slot 4]) (by kernel_rfl) ?_;unfold qE3;have hw:IntKind.i64.wrap (a+b)=a+b:=IntWalk.i64_in _ (by omega);simp[hw];refine zQ (zNf (a+b)) (by simp) (by simp) ?_;simp;exact zC 0 (by simp)
theorem zWM {a b:Int}(ha:Rng a)(hb:Rng b):Ret Tryz.prog 201 [int a,int b] [] (int (zBy (a-b))) []:=by obtain⟨a1,a2⟩:=ha;obtain⟨b1,b2⟩:=hb;refine zI Tryz.func201 rfl qLa (rs:=[.slot 4]) (by kernel_rfl) ?_;unfold qE4;have hw:IntKind.i64.wrap (a-b)=a-b:=IntWalk.i64_in _ (by omega);simp[hw];refine zQ (zNf (a-b)) (by simp) (by simp) ?_;simp;exact zC 0 (by simp)
theorem zR3 {m n q:Nat}(hq:1099511627776 / n=q)(hn:0<n):(q<m→1099511627776<m*n)∧(¬q<m→m*n≤1099511627776):=by
 constructor
 ·intro h;rw[←hq]at h;exact(Nat.div_lt_iff_lt_mul hn).1 h
 ·intro h;rw[←hq]at h;have:=mt (Nat.div_lt_iff_lt_mul hn).2 h;omega
theorem zQZ (a:Int)(h:a≠0):∃m:Nat,0<m∧(a=m∨a = -(m:Int)):=⟨a.natAbs,by omega,by omega⟩
set_option maxHeartbeats 1000000 in
theorem zRC {a b:Int}(ha:Rng a)(hb:Rng b):Ret Tryz.prog 202 [int a,int b] [] (int (zBy (a*b))) []:=by
 obtain⟨a1,a2⟩:=ha;obtain⟨b1,b2⟩:=hb;refine zI Tryz.func202 rfl qLd (rs:=[.slot 4]) (by kernel_rfl) ?_;unfold qE7;by_cases h0:a=0
 ·subst h0;simp;exact zC 0 (by simp[zBy])
 by_cases h1:b=0
 ·subst h1;simp[h0];exact zC 0 (by simp[zBy])
 obtain⟨m,m0,hm⟩:=zQZ a h0;obtain⟨n,n0,hn⟩:=zQZ b h1;obtain⟨q,hq⟩:∃q:Nat,1099511627776 / n=q:=⟨_,rfl⟩;obtain⟨c1,c2⟩:=zR3 (m:=m) hq n0;have hqd:Int.tdiv 1099511627776 (n:Int)=(q:Int):=by rw[tdN (by omega),←hq]; rfl
 have hqle:q≤1099511627776:=by rw[←hq]; exact Nat.div_le_self _ _
 have wq:IntKind.i64.wrap (q:Int)=q:=IntWalk.i64_in _ (by omega);have wm:IntKind.i64.wrap (m:Int)=m:=IntWalk.i64_in _ (by omega);have wn:IntKind.i64.wrap (n:Int)=n:=IntWalk.i64_in _ (by omega);have wm':IntKind.i64.wrap (-(m:Int)) = -m:=IntWalk.i64_in _ (by omega);have wn':IntKind.i64.wrap (-(n:Int)) = -n:=IntWalk.i64_in _ (by omega);have x1:¬((m:Int) < -m):=by omega
 have x2:(-(m:Int))<m:=by omega
 have y1:¬((n:Int) < -n):=by omega
 have y2:(-(n:Int))<n:=by omega
 have z1:¬((m:Int)<0):=by omega
 have z2:(-(m:Int))<0:=by omega
 have z3:¬((n:Int)<0):=by omega
 have z4:(-(n:Int))<0:=by omega
 have m1:¬m=0:=by omega
 have n1:¬n=0:=by omega
 have p0:(m:Int)*n=((m*n:Nat):Int):=by push_cast; rfl
 generalize hmn:m*n=s at *
 by_cases hc:(q:Int)<m
 ·have hs:=c1 (by omega);have k1:zBy (s:Int)=1099511627776:=by unfold zBy; rw[if_pos (by omega)]
  have k2:zBy (-(s:Int)) = -1099511627776:=by unfold zBy; rw[if_neg (by omega),if_pos (by omega)]
  rcases hm with rfl | rfl<;>rcases hn with rfl | rfl<;>simp[m1,n1,wm,wn,wm',wn',x1,x2,y1,y2,z1,z2,z3,z4,m0,n0,hqd,wq,hc]<;>exact zC 0 (by simp[Int.neg_mul,Int.mul_neg,p0,k1,k2])
 ·have hs:=c2 (by omega);have k1:zBy (s:Int)=s:=by unfold zBy; rw[if_neg (by omega),if_neg (by omega)]
  have k2:zBy (-(s:Int)) = -s:=by unfold zBy; rw[if_neg (by omega),if_neg (by omega)]
  have w1:IntKind.i64.wrap (s:Int)=s:=IntWalk.i64_in _ (by omega);have w2:IntKind.i64.wrap (-(s:Int)) = -s:=IntWalk.i64_in _ (by omega);rcases hm with rfl | rfl<;>rcases hn with rfl | rfl<;>simp[m1,n1,wm,wn,wm',wn',x1,x2,y1,y2,z1,z2,z3,z4,m0,n0,hqd,wq,hc]<;>exact zC 0 (by simp[Int.neg_mul,Int.mul_neg,p0,k1,k2,w1,w2])
theorem zJr {a b:Int}(ha:Rng a)(hb:Rng b):Ret Tryz.prog 203 [int a,int b] [] (int (zFX a b)) []:=by
 obtain⟨a1,a2⟩:=ha;refine zI Tryz.func203 rfl qKY (rs:=[.slot 4]) (by kernel_rfl) ?_;unfold qE2;by_cases h1:b=0
 ·subst h1;simp;exact zC 0 (by simp[zFX])
 have ht:=zRc (b:=b) a1 a2;have w1:IntKind.i64.wrap (a.tdiv b)=a.tdiv b:=IntWalk.i64_in _ (by omega);have w2:IntKind.i64.wrap (a.tdiv b-1)=a.tdiv b-1:=IntWalk.i64_in _ (by omega);have e:zFX a b=if a.tmod b≠0∧¬(a<0↔b<0) then a.tdiv b-1 else a.tdiv b:=by unfold zFX; rw[if_neg h1]
 rw[e];by_cases hm:a.tmod b=0
 ·simp[h1,hm,w1];exact zC 0 (by simp[hm])
 by_cases s1:a<0<;>by_cases s2:b<0<;>simp[h1,hm,w1,s1,s2,w2]<;>exact zC 0 (by simp[hm,s1,s2])
theorem zUv {a b:Int}(ha:Rng a)(hb:Rng b):Ret Tryz.prog 204 [int a,int b] [] (int (zMx a b)) []:=by
 have hd:=zJr ha hb;refine zI Tryz.func204 rfl qLc (rs:=[.slot 4]) (by kernel_rfl) ?_;unfold qE6;by_cases h1:b=0
 ·subst h1;simp;exact zC 0 (by simp[zMx])
 have hr:=zKb (a:=a) hb.1 hb.2;have e:zMx a b=a-b*zFX a b:=by unfold zMx; rw[if_neg h1]
 obtain⟨a1,a2⟩:=ha;have w1:IntKind.i64.wrap (b*zFX a b)=b*zFX a b:=IntWalk.i64_in _ (by omega);have w2:IntKind.i64.wrap (a-b*zFX a b)=a-b*zFX a b:=IntWalk.i64_in _ (by omega);simp[h1];refine zQ hd (by simp) (by simp) ?_;simp[w1,w2];exact zC 0 (by simp[e])
def zOm:Go.Shelf.Ren:=⟨fun | 4=>181 | n=>n,fun | 0=>0 | 3=>3 | 4=>4 | 9=>9 | 20=>20 | 22=>40 | 25=>47 | n=>n,fun n=>n⟩
theorem zUN:Go.Proofs.Lays8.n4 Tryz.prog zOm:={
 mixed:=by kernel_rfl,
 f4:=⟨Tryz.f181.name,by decide,Tryz.func181.trans (congrArg some (by kernel_rfl))⟩,
 t0:=Tryz.underlying0,
 a0:=Tryz.isAgg0,
 z0:=Tryz.sizeOf0,
 v0:=Tryz.zeroValue0,
 t3:=Tryz.underlying3,
 a3:=Tryz.isAgg3,
 z3:=Tryz.sizeOf3,
 v3:=Tryz.zeroValue3,
 t4:=Tryz.underlying4,
 a4:=Tryz.isAgg4,
 z4:=Tryz.sizeOf4,
 v4:=Tryz.zeroValue4,
 t9:=Tryz.underlying9,
 a9:=Tryz.isAgg9,
 z9:=Tryz.sizeOf9,
 v9:=Tryz.zeroValue9,
 t20:=Tryz.underlying20,
 a20:=Tryz.isAgg20,
 z20:=Tryz.sizeOf20,
 v20:=Tryz.zeroValue20,
 t22:=Tryz.underlying40,
 a22:=Tryz.isAgg40,
 z22:=Tryz.sizeOf40,
 v22:=Tryz.zeroValue40}
@[simp] theorem qGn:zA Tryz.prog 181=true:=by kernel_rfl
theorem zNv (n:Nat)(hn:n≤1000000):Ret Tryz.prog 181 [.nil,int n] [] (.row 0 0) [.row false 47 3 0 []] :=
 zLq (ρ:=zOm) (sz:=3) (bs:=40) (z:=.agg #[.int .i64 0,.int .i64 0,.slice none 0 0]) zUN (by kernel_rfl) rfl (by omega) (by omega) (by omega)
def zME:K:=G [kMn 2] (G [kMi 3 0] (Z (G [M 9 0,kN 10 9,kMi 11 0] (K.block 0 (K.loop (G [kB 12 11 10 .lss] (Z (Y 12 ks (K.exit 0)) (Z (K.block 1 (G [kX 13 9 11 1,L 14 13 1,M 5 14] (G [M 15 3,M 16 5,kN 17 16,kB 18 15 17 .add,M 3 18] (G [M 19 3,kBi 20 19 0 .lss] (Y 20 (K.ops [⟨none,.mki (some 21) 9 (.const (.string ⟨#[108,101,110,32,111,117,116,32,111,102,32,114,97,110,103,101]⟩))⟩,⟨none,.pan none (kt 21)⟩]) ks))))) (K.ops [kBi 22 11 1 .add,M 11 22]))))))) (G [M 23 3,kC 24 181 [(.const kl),(kt 23)],M 6 24] (Z (G [M 25 0,kN 26 25,kMi 27 0] (K.block 2 (K.loop (G [kB 28 27 26 .lss] (Z (Y 28 ks (K.exit 2)) (Z (K.block 3 (G [kX 29 25 27 1,L 30 29 1,M 8 30] (K.ops [M 31 6,M 32 8,kP 33 47 3 40 31 32,M 6 33]))) (K.ops [kBi 34 27 1 .add,M 27 34]))))))) (G [M 35 6,M 2 35] kr)))))
theorem zT4:zL Tryz.prog Tryz.f168.ntmps (Tryz.f168.body.getD .skip)=some zME.erase:=by kernel_rfl
@[simp] theorem qAn:zA Tryz.prog 168=true:=by kernel_rfl
def zAA (Ls:List (List Val)):List A:=Ls.map fun l=>A.sl l.length (zZ l)
theorem zD9:∀(Ls:List (List Val)),qW (zAA Ls)
 | []=>qW.nil
 | l::Ls=>by
  have h1:=zD9 Ls;have h2:=zB2 l;refine⟨?_,fun rf g=>?_⟩
  ·show qV (A.sl l.length (zZ l)::zAA Ls)=_;simp[h1.1];rfl
  ·show vwL rf g (A.sl l.length (zZ l)::zAA Ls)=_;simp[h1.2];rfl
@[simp] theorem zXn (l:List (List Val)):qV (zAA l)=zAA l:=(zD9 l).1
@[simp] theorem qCd {rf g}(l:List (List Val)):vwL rf g (zAA l)=zAA l:=(zD9 l).2 _ _
@[simp] theorem zYH (l:List (List Val)):(zAA l).length=l.length:=by simp[zAA]
theorem zGF {Ls:List (List Val)}{i:Nat}(h:i<Ls.length):(zAA Ls).drop i=.sl Ls[i].length (zZ Ls[i])::zAA (Ls.drop (i+1)):=by rw[zAA,←List.map_drop,List.drop_eq_getElem_cons h]; rfl
def zDs (Ls:List (List Val)):Nat:=Ls.flatten.length
theorem zLM {Ls:List (List Val)}{i:Nat}(h:i<Ls.length):zDs (Ls.take (i+1))=zDs (Ls.take i)+Ls[i].length:=by rw[zDs,zDs,List.take_succ_eq_append_getElem h,List.flatten_append]; simp
theorem zRe (Ls:List (List Val))(i:Nat):zDs (Ls.take i)≤zDs Ls:=by
 have:Ls.flatten=(Ls.take i).flatten++(Ls.drop i).flatten:=by rw[←List.flatten_append,List.take_append_drop]
 rw[zDs,zDs,this,List.length_append]; omega
theorem zKB (Ls:List (List Val))(hb:zDs Ls≤1000000):Ret Tryz.prog 168 [.sl Ls.length (zAA Ls)] [] (.sl (zDs Ls) (zZ Ls.flatten)) []:=by
 refine zI Tryz.func168 rfl zT4 (rs:=[.slot 2]) (by kernel_rfl) ?_;unfold zME;simp;intro hl;refine qY (S:=Nat) (fun i=>[(0,.sl Ls.length (zAA Ls)),(3,int (zDs (Ls.take i))),(9,.sl Ls.length (zAA Ls)),(10,int Ls.length),(11,int i)]) (fun s=>[]) (fun i=>i≤Ls.length) (fun i=>Ls.length-i) 0 (by simp)
  (zR [] 0 (by simp) (by simp) (by simp) (by simp[zDs])) ?_
 intro i hi;by_cases h:i<Ls.length
 ·have ht:=zLM h;have hle:=zRe Ls (i+1);have hw:IntKind.i64.wrap ((zDs (Ls.take i):Int)+(Ls[i].length:Int))=(zDs (Ls.take (i+1)):Nat):=by rw[ht]; push_cast; exact IntWalk.i64_in _ (by omega)
  have h0:¬((zDs (Ls.take (i+1)):Nat):Int)<0:=by omega
  simp[h,zGF h];intro _;simp[hw,h0];exact zT (i+1) h (by omega) (zR [] 0 (by simp) (by simp) (by simp) (by simp[qD h hl]))
 ·have hil:i=Ls.length:=by omega
  subst hil;have hI:¬(Ls.length:Int)<Ls.length:=by omega
  simp;refine zN (zNv (zDs Ls) hb) [] (by simp) (by simp) (by simp) ?_;simp;intro _;refine qY (S:=Nat) (fun i=>[(6,.row 0 (zDs (Ls.take i))),(25,.sl Ls.length (zAA Ls)),(26,int Ls.length),(27,int i)]) (fun i=>[.row false 47 3 (zDs (Ls.take i)) (zZ (Ls.take i).flatten)]) (fun i=>i≤Ls.length) (fun i=>Ls.length-i) 0 (by simp)
   (zR [0] 0 (by simp) (by simp) (by simp[zDs]) (by simp[zDs])) ?_
  intro i hi;by_cases h:i<Ls.length
  ·have ht:=zLM h;have hle:=zRe Ls (i+1);have hf:(Ls.take (i+1)).flatten=(Ls.take i).flatten++Ls[i]:=by rw[List.take_succ_eq_append_getElem h,List.flatten_append]; simp
   simp[h,zGF h];refine⟨⟨by simp[maxLen]; omega,by omega⟩,?_⟩;exact zT (i+1) h (by omega) (zR [0] 0 (by simp) (by simp) (by simp[ht,hf,zBB]) (by simp[ht,qD h hl]))
  ·have hil:i=Ls.length:=by omega
   subst hil;simp;exact zC 1 (by simp)
def qE1:K:=G [kMn 2] (G [kMn 3] (Z (G [M 6 0,kN 7 6,kMi 8 0] (K.block 0 (K.loop (G [kB 9 8 7 .lss] (Z (Y 9 ks (K.exit 0)) (Z (K.block 1 (G [kX 10 6 8 3,J 11 10 3,kZ 5 [ki,ki,kl],S 5 11 3] (G [D 12 5 2,L 13 12 1,kC 14 113 [(kt 13)],D 15 5 2,S 15 14 1] (K.ops [M 16 3,J 17 5 3,kd 18 47 3 1 [ki,ki,kl] [(0,3,(kt 17))],kP 19 47 3 40 16 18,M 3 19])))) (K.ops [kBi 20 8 1 .add,M 8 20]))))))) (G [M 21 3,M 2 21] kr)))
theorem qKX:zL Tryz.prog Tryz.f113.ntmps (Tryz.f113.body.getD .skip)=some qE1.erase:=by kernel_rfl
@[simp] theorem qLO:zA Tryz.prog 113=true:=by kernel_rfl
mutual
theorem zJq:∀(l:List Val),qN l≤1000000→Ret Tryz.prog 113 [.sl l.length (zZ l)] [] (.sl l.length (zZ l)) []
 | l,hz=>by
  have hl6:=zDl l;refine zI Tryz.func113 rfl qKX (rs:=[.slot 2]) (by kernel_rfl) ?_;unfold qE1;simp;intro hl;refine qY (S:=Nat) (fun i=>[(3,.row 0 i),(6,.sl l.length (zZ l)),(7,int l.length),(8,int i)]) (fun i=>[.row false 47 3 i (zZ (l.take i))]) (fun i=>i≤l.length) (fun i=>l.length-i) 0 (by simp)
   ((yK (t:=3) (by simp) 47 3).trans (zR [0] 0 (by simp) (by simp) (by simp) (by simp))) ?_
  intro i hi;by_cases h:i<l.length
  ·have hk:=zIx l hz l[i] (List.getElem_mem h);have ht:zZ (l.take (i+1))=zZ (l.take i)++[.lit (.int .i64 l[i].k),.lit (.int .i64 l[i].n),.sl l[i].kids.length (zZ l[i].kids)]:=by rw[List.take_succ_eq_append_getElem h,zBB]; simp
   simp[h,yF h];refine zQ hk (by simp) (by simp) ?_;simp;refine⟨⟨by simp[maxLen]; omega,by omega⟩,?_⟩;exact zT (i+1) h (by omega) (zR [0] 0 (by simp) (by simp) (by simp[ht]) (by simp[qD h hl]))
  ·have hil:i=l.length:=by omega
   subst hil;simp;exact zC 1 (by simp)
theorem zIx:∀(l:List Val),qN l≤1000000→∀x∈l,Ret Tryz.prog 113 [.sl x.kids.length (zZ x.kids)] [] (.sl x.kids.length (zZ x.kids)) []
 | [],_,x,h=>by simp at h
 | .mk k n ks::l,hz,x,h=>by
  simp only[qN,qB]at hz
  if e:x∈l then exact zIx l (by omega) x e
  else
   have:x=.mk k n ks:=(List.mem_cons.1 h).resolve_right e;subst this;exact zJq ks (by omega)
end
def qE5:K:=G [kZ 4 [ki,ki,kl]] (Z (G [M 7 0,kBi 8 7 0 .geq,M 9 8,T 9 true (M 10 0),T 9 true (kBi 11 10 5 .lss),kPf 12 9 11,M 13 12,T 13 true (M 14 1),T 13 true (kN 15 14),T 13 true (kQi 16 15 2 false),kPf 17 13 16] (Y 17 (Z (K.dops [(0,0,M 18 0),(1,0,⟨none,.idxarr (some 19) (.global 0) (kt 18) 5 1⟩),(2,0,L 20 19 1),(3,0,M 21 1),(4,0,kXi 22 21 3 0),(5,0,D 23 22 1),(6,0,L 24 23 1),(7,0,M 25 1),(8,0,kXi 26 25 3 1),(9,0,D 27 26 1),(10,0,L 28 27 1),(11,0,⟨none,.call (some 29) (kt 20) [(kt 24),(kt 28)]⟩),(12,0,kb 30 [ki,ki,kl] [(1,1,(kt 29))]),(13,0,S 4 30 3)]) kr) ks)) (Z (K.block 0 (G [M 32 0,kQi 33 32 9 false,M 34 33,T 34 true (M 35 1),T 34 true (kN 36 35),T 34 true (kQi 37 36 1 false),kPf 38 34 37,M 31 38] (Y 31 (G [M 39 1,kXi 40 39 3 0,D 41 40 1,L 42 41 1,kQi 43 42 0 false,kC 44 162 [(kt 43)],S 4 44 3] kr) (G [M 46 0,kQi 47 46 11 false,M 48 47,T 48 true (M 49 1),T 48 true (kN 50 49),T 48 true (kQi 51 50 1 false),kPf 52 48 51,M 45 52] (Y 45 (G [M 53 1,kXi 54 53 3 0,D 55 54 2,L 56 55 1,kN 57 56,kb 58 [ki,ki,kl] [(1,1,(kt 57))],S 4 58 3] kr) (G [M 60 1,kN 61 60,kQi 62 61 2 true,M 59 62] (Y 59 (G [kb 63 [ki,ki,kl] [],S 4 63 3] kr) ks))))))) (Z (K.wk (K.dops [(0,0,M 64 1),(1,2,kXi 65 64 3 0),(2,2,J 66 65 3),(3,0,M 67 1),(4,2,kXi 68 67 3 1),(5,2,J 69 68 3),(6,301,⟨none,.alr (some 5) 1 [ki,ki,kl]⟩),(7,302,⟨none,.alr (some 6) 2 [ki,ki,kl]⟩),(8,0,S 5 66 3),(9,0,S 6 69 3)])) (Z (G [M 70 0] (K.block 1 (G [kQi 72 70 5 false,M 71 72] (Y 71 (G [D 73 5 1,L 74 73 1,D 75 6 1,
 L 76 75 1,kB 77 74 76 .lss,kC 78 162 [(kt 77)],S 4 78 3] kr) (G [kQi 80 70 6 false,M 79 80] (Y 79 (G [J 81 5 3,J 82 6 3,kC 83 167 [(kt 81),(kt 82)],kQi 84 83 0 false,kC 85 162 [(kt 84)],S 4 85 3] kr) (G [kQi 87 70 7 false,M 86 87] (Y 86 (G [D 88 5 1,L 89 88 1,kQi 90 89 0 true,M 91 90,T 91 true (D 92 6 1),T 91 true (L 93 92 1),T 91 true (kQi 94 93 0 true),kPf 95 91 94,kC 96 162 [(kt 95)],S 4 96 3] kr) (G [kQi 98 70 8 false,M 97 98] (Y 97 (G [D 99 5 1,L 100 99 1,kQi 101 100 0 true,M 102 101,T 102 false (D 103 6 1),T 102 false (L 104 103 1),T 102 false (kQi 105 104 0 true),kPt 106 102 105,kC 107 162 [(kt 106)],S 4 107 3] kr) (G [kQi 109 70 10 false,M 108 109] (Y 108 (G [D 110 5 2,L 111 110 1,D 112 6 2,L 113 112 1,kd 114 40 1 2 [kl,kl] [(0,1,(kt 111)),(1,1,(kt 113))],kC 115 168 [(kt 114)],kC 116 113 [(kt 115)],kb 117 [ki,ki,kl] [(0,1,(kc 4)),(2,1,(kt 116))],S 4 117 3] kr) ks)))))))))))) (G [kb 118 [ki,ki,kl] [],S 4 118 3] kr)))))
def qNu:Nat→Option (List (Nat×Nat)):=fun r=>match r with | 9=>some [(0,0),(1,2),(2,2),(3,0),(4,2),(5,2),(6,301),(7,302),(8,0),(9,0)] | _=>none
theorem qLb:qC Tryz.prog Tryz.f145.ntmps qNu (Tryz.f145.body.getD .skip)=some qE5.erase:=by kernel_rfl
@[simp] theorem qLS:zA Tryz.prog 145=true:=by kernel_rfl
@[simp] theorem qIw (b:Bool):(zB8 b).k=1:=rfl
@[simp] theorem qIx (b:Bool):(zB8 b).n=if b then 1 else 0:=rfl
@[simp] theorem zZH (b:Bool):(zB8 b).kids=[]:=rfl
@[simp] theorem qAW {env:Env}:ev env (.global 0)=.rptr [.clo 199 [] [],.clo 201 [] [],.clo 202 [] [],.clo 203 [] [],.clo 204 [] []]:=rfl
theorem yD:2≤maxLen:=by simp[maxLen]
theorem zCe:1≤maxLen:=by simp[maxLen]
set_option maxHeartbeats 2000000 in
theorem qAT {p:Prg}{n:Int}{ts:List Typ}{t:Typ}(h:OpT n ts t){vs:List Val}(hv:TyL p ts vs)(hs:∀v∈vs,qB v≤256):Ret Tryz.prog 145 [int n,.sl vs.length (zZ vs)] [] (.agg (zP (opV n vs))) []:=by
 refine zH Tryz.func145 rfl qLb (rs:=[.cell 4 3 true]) (by kernel_rfl) ?_;unfold qE5;cases h with
 | arith n h1 h2 =>
  obtain⟨a,b,rfl,ha,hb⟩:=hv.two;obtain⟨x,rfl,hx⟩:=ha.int_inv;obtain⟨y,rfl,hy⟩:=hb.int_inv;have e:opV n [.mk 0 x [],.mk 0 y []]=.mk 0 (zKJ n x y) []:=by simp only[opV,if_pos h2]; rfl
  rw[e];have hn:n=0∨n=1∨n=2∨n=3∨n=4:=by omega
  rcases hn with rfl | rfl | rfl | rfl | rfl
  ·simp[Val.k,Val.n,Val.kids,yD,zCe];refine qO (zW3 hx hy) (by simp) (by simp) ?_;simp;exact zC 0 (by simp[zP,Val.k,Val.n,Val.kids,zKJ])
  ·simp[Val.k,Val.n,Val.kids,yD,zCe];refine qO (zWM hx hy) (by simp) (by simp) ?_;simp;exact zC 0 (by simp[zP,Val.k,Val.n,Val.kids,zKJ])
  ·simp[Val.k,Val.n,Val.kids,yD,zCe];refine qO (zRC hx hy) (by simp) (by simp) ?_;simp;exact zC 0 (by simp[zP,Val.k,Val.n,Val.kids,zKJ])
  ·simp[Val.k,Val.n,Val.kids,yD,zCe];refine qO (zJr hx hy) (by simp) (by simp) ?_;simp;exact zC 0 (by simp[zP,Val.k,Val.n,Val.kids,zKJ])
  ·simp[Val.k,Val.n,Val.kids,yD,zCe];refine qO (zUv hx hy) (by simp) (by simp) ?_;simp;exact zC 0 (by simp[zP,Val.k,Val.n,Val.kids,zKJ])
 | less =>
  obtain⟨a,b,rfl,ha,hb⟩:=hv.two;obtain⟨x,rfl,hx⟩:=ha.int_inv;obtain⟨y,rfl,hy⟩:=hb.int_inv;simp[Val.k,Val.n,Val.kids,yD,zCe];refine⟨_,_,yN 2,?_⟩;simp[Val.k,Val.n,Val.kids,yD,zCe];refine zQ (zAN (decide (x<y))) (by simp) (by simp[zP]) ?_;simp[zP];exact zC 0 (by by_cases hx0:x<y<;>simp[zP,opV,jC,hx0])
 | same u =>
  obtain⟨a,b,rfl,ha,hb⟩:=hv.two;simp[yD];refine⟨_,_,yN 2,?_⟩;simp[yD];refine zQ (zQw a b) (by simp[zP]) (by simp) ?_;simp;refine zQ (zAN (decide (zNa a b=0))) (by simp) (by simp[zP]) ?_;simp[zP];exact zC 0 (by simp[zP,opV])
 | andor n h =>
  obtain⟨a,b,rfl,ha,hb⟩:=hv.two;obtain⟨x,rfl,hx⟩:=ha.bool_inv;obtain⟨y,rfl,hy⟩:=hb.bool_inv;rcases h with rfl | rfl
  ·rcases hx with rfl | rfl<;>rcases hy with rfl | rfl
   ·simp[Val.k,Val.n,Val.kids,yD];refine⟨_,_,yN 2,?_⟩;simp[Val.k,Val.n,Val.kids,yD];refine zQ (zAN false) (by simp) (by simp[zP]) ?_;simp[zP];exact zC 0 (by simp[zP,opV,jC])
   ·simp[Val.k,Val.n,Val.kids,yD];refine⟨_,_,yN 2,?_⟩;simp[Val.k,Val.n,Val.kids,yD];refine zQ (zAN false) (by simp) (by simp[zP]) ?_;simp[zP];exact zC 0 (by simp[zP,opV,jC])
   ·simp[Val.k,Val.n,Val.kids,yD];refine⟨_,_,yN 2,?_⟩;simp[Val.k,Val.n,Val.kids,yD];refine zQ (zAN false) (by simp) (by simp[zP]) ?_;simp[zP];exact zC 0 (by simp[zP,opV,jC])
   ·simp[Val.k,Val.n,Val.kids,yD];refine⟨_,_,yN 2,?_⟩;simp[Val.k,Val.n,Val.kids,yD];refine zQ (zAN true) (by simp) (by simp[zP]) ?_;simp[zP];exact zC 0 (by simp[zP,opV,jC])
  ·rcases hx with rfl | rfl<;>rcases hy with rfl | rfl
   ·simp[Val.k,Val.n,Val.kids,yD];refine⟨_,_,yN 2,?_⟩;simp[Val.k,Val.n,Val.kids,yD];refine zQ (zAN false) (by simp) (by simp[zP]) ?_;simp[zP];exact zC 0 (by simp[zP,opV,jC])
   ·simp[Val.k,Val.n,Val.kids,yD];refine⟨_,_,yN 2,?_⟩;simp[Val.k,Val.n,Val.kids,yD];refine zQ (zAN true) (by simp) (by simp[zP]) ?_;simp[zP];exact zC 0 (by simp[zP,opV,jC])
   ·simp[Val.k,Val.n,Val.kids,yD];refine⟨_,_,yN 2,?_⟩;simp[Val.k,Val.n,Val.kids,yD];refine zQ (zAN true) (by simp) (by simp[zP]) ?_;simp[zP];exact zC 0 (by simp[zP,opV,jC])
   ·simp[Val.k,Val.n,Val.kids,yD];refine⟨_,_,yN 2,?_⟩;simp[Val.k,Val.n,Val.kids,yD];refine zQ (zAN true) (by simp) (by simp[zP]) ?_;simp[zP];exact zC 0 (by simp[zP,opV,jC])
 | not =>
  obtain⟨a,rfl,ha⟩:=hv.one;obtain⟨x,rfl,hx⟩:=ha.bool_inv;simp[Val.k,Val.n,Val.kids,yD,zCe];refine zQ (zAN (decide (x=0))) (by simp) (by simp[zP]) ?_;simp[zP];exact zC 0 (by by_cases hx0:x=0<;>simp[zP,opV,jC,hx0])
 | join u =>
  obtain⟨a,b,rfl,ha,hb⟩:=hv.two;have h1:=hs a (by simp);have h2:=hs b (by simp);cases a with | mk k1 n1 l1 =>
  cases b with | mk k2 n2 l2 =>
  simp only[qB]at h1 h2;have z1:=zDl l1;have z2:=zDl l2;have hc:Ret Tryz.prog 168 [.sl 2 [.sl l1.length (zZ l1),.sl l2.length (zZ l2)]] [] (.sl (l1.length+l2.length) (zZ (l1++l2))) []:=by simpa [zAA,zDs] using zKB [l1,l2] (by simp[zDs]; omega)
  have hk:=zJq (l1++l2) (by rw[zBE]; omega);rw[List.length_append]at hk;simp[Val.k,Val.n,Val.kids,yD,zCe];refine⟨_,_,yN 2,?_⟩;simp[Val.k,Val.n,Val.kids,yD,zCe];refine zQ hc (by simp) (by simp) ?_;simp;refine zQ hk (by simp) (by simp) ?_;simp;exact zC 0 (by simp[zP,opV,Val.k,Val.n,Val.kids])
 | len u =>
  obtain⟨a,rfl,ha⟩:=hv.one;simp[zCe];exact fun _=>zC 0 (by simp[zP,opV,Val.k,Val.n,Val.kids])
@[simp] theorem qMK:zA Tryz.prog 18=true:=by kernel_rfl
structure FineD (d:Dfn):Prop where
 s1:1≤d.slots.length
 s6:d.slots.length≤6
 nice:d.body.nice
 size:(tmps d.body).length≤32768
theorem FineP.get {p:Prg}(h:FineP p):∀d∈p.defs,FineD d:=fun d hd=>⟨(h.slots d hd).1,(h.slots d hd).2,h.nice d hd,h.size d hd⟩
theorem FineP.mk' {p:Prg}(h1:p.defs.length≤9)(h2:p.mods.length≤100)(h:∀d∈p.defs,FineD d):FineP p:=⟨h1,h2,fun d hd=>⟨(h d hd).s1,(h d hd).s6⟩,fun d hd=>(h d hd).nice,fun d hd=>(h d hd).size⟩
theorem FineD.tweak {d:Dfn}(h:FineD d)(a x:Int):FineD (d.wb (zFm d.body a x).1):=by have:=zKs x d.body a h.nice;exact⟨h.s1,h.s6,this.1,by have:=this.2; have:=h.size; simp only[Dfn.wb]; omega⟩
@[simp] theorem qMs:zA Tryz.prog 179=true:=by kernel_rfl
@[simp] theorem qMy:zA Tryz.prog 178=true:=by kernel_rfl
@[simp] theorem qMx:zA Tryz.prog 161=true:=by kernel_rfl
end Go.Proofs.YthglhccibdlccaaGreatDoor

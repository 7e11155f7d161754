/-
  The program's operations: numbers, truth values, lists.
  The fields on which a field of a converter's result depends: the two answers agree.
  The reference's operations.
  The maker's programs: their definitions have IDs of their own, their bodies have types, their types have few levels.
  Runs: what each step keeps; where the first failure is.
  The generator of programs of records and converters, as data: its programs are sound.
  The law's calls: a definition with a body, and arguments made of numbers.
  The definitions that types reach: met one by one, or in rounds.
  Programs of flat records: evaluation ends, or the fuel does; nothing gets too large.
  trace: notes, and the definitions that types reach.
  trace: environments as maps.
  trace: branches.
  trace: bodies, values, nodes.
-/
import Derived.Test.YtdnelmeboihpkaaGreatDoorX14
import Derived.Test.YtdnelmeboihpkaaGreatDoorX11
import Derived.Test.YtdnelmeboihpkaaGreatDoorX9
import Derived.Test.YtdnelmeboihpkaaGreatDoorX12
set_option linter.unusedVariables false
set_option maxHeartbeats 8000000
set_option maxRecDepth 100000
set_option linter.unusedSimpArgs false
open Go.Proofs.Tryz (prog)
namespace Go.Proofs.YtdnelmeboihpkaaGreatDoor
open Go.Abs
def qGK:K:=G [kMi 2 0] (G [M 3 0,⟨none,.mm (some 4) true [(kt 3),(kc (-1099511627776))]⟩,⟨none,.mm (some 5) false [(kt 4),(kc 1099511627776)]⟩,M 2 5] kr)
theorem qNV:zQ prog Tryz.f227.ntmps (Tryz.f227.body.getD .skip)=some qGK.erase:=by kernel_rfl
@[simp] theorem qOE:zB prog 227=true:=by kernel_rfl
theorem zPl (n:Int):Ret prog 227 [int n] [] (int (zBS n)) []:=by
 refine zH Tryz.func227 rfl qNV (rs:=[.slot 2]) (by kernel_rfl) ?_;unfold qGK;by_cases h1:n < -1099511627776
 ·simp[h1];exact zA 0 (by simp[zBS,h1,show ¬1099511627776<n by omega])
 ·by_cases h2:1099511627776<n
  ·simp[h1,h2];exact zA 0 (by simp[zBS,h2])
  ·simp[h1,h2];exact zA 0 (by simp[zBS,h1,h2])
def qGU:K:=G [kZ 2 [ki,ki,kl]] (Z (G [M 3 0] (Y 3 (G [kb 4 [ki,ki,kl] [(0,1,(kc 1)),(1,1,(kc 1))],S 2 4 3] kr) ks)) (G [kb 5 [ki,ki,kl] [(0,1,(kc 1))],S 2 5 3] kr))
theorem qOf:zQ prog Tryz.f174.ntmps (Tryz.f174.body.getD .skip)=some qGU.erase:=by kernel_rfl
@[simp] theorem qOP:zB prog 174=true:=by kernel_rfl
theorem zAW (b:Bool):Ret prog 174 [bl b] [] (.agg (zC (zCb b))) []:=by
 refine zH Tryz.func174 rfl qOf (rs:=[.cell 2 3 true]) (by kernel_rfl) ?_;unfold qGU;cases b with
 | true =>
  simp;exact zA 0 (by simp[zC,zCb,Val.k,Val.n,Val.kids])
 | false =>
  simp;exact zA 0 (by simp[zC,zCb,Val.k,Val.n,Val.kids])
def Rng (a:Int):Prop:=-1099511627776≤a∧a≤1099511627776
def qGP:K:=G [kMi 4 0] (G [M 5 0,M 6 1,kB 7 5 6 .add,kC 8 227 [(kt 7)],M 4 8] kr)
theorem qOa:zQ prog Tryz.f226.ntmps (Tryz.f226.body.getD .skip)=some qGP.erase:=by kernel_rfl
@[simp] theorem qOK:zB prog 226=true:=by kernel_rfl
def qGQ:K:=G [kMi 4 0] (G [M 5 0,M 6 1,kB 7 5 6 .sub,kC 8 227 [(kt 7)],M 4 8] kr)
theorem qOb:zQ prog Tryz.f228.ntmps (Tryz.f228.body.getD .skip)=some qGQ.erase:=by kernel_rfl
@[simp] theorem qOL:zB prog 228=true:=by kernel_rfl
def qGT:K:=G [kMi 4 0] (Z (G [M 5 0,kQi 6 5 0 false,M 7 6,T 7 false (M 8 1),T 7 false (kQi 9 8 0 false),kPt 10 7 9] (Y 10 (G [kMi 4 0] kr) ks)) (Z (G [M 11 0,M 12 0,⟨none,.neg (some 13) (kt 12)⟩,⟨none,.mm (some 14) true [(kt 11),(kt 13)]⟩,M 15 1,M 16 1,⟨none,.neg (some 17) (kt 16)⟩,⟨none,.mm (some 18) true [(kt 15),(kt 17)]⟩,⟨none,.bin (some 19) .quo (kc 1099511627776) (kt 18)⟩,kB 20 14 19 .gtr] (Y 20 (Z (G [M 21 0,kBi 22 21 0 .lss,M 23 1,kBi 24 23 0 .lss,⟨none,.eqv (some 25) false .b (kt 22) (kt 24)⟩] (Y 25 (G [kMi 4 1099511627776] kr) ks)) (G [⟨none,.mov (some 4) (kc (-1099511627776))⟩] kr)) ks)) (G [M 26 0,M 27 1,kB 28 26 27 .mul,M 4 28] kr)))
theorem qOe:zQ prog Tryz.f229.ntmps (Tryz.f229.body.getD .skip)=some qGT.erase:=by kernel_rfl
@[simp] theorem qOO:zB prog 229=true:=by kernel_rfl
def qGN:K:=G [kMi 4 0] (Z (G [M 6 1,kQi 7 6 0 false] (Y 7 (G [kMi 4 0] kr) ks)) (G [M 8 0,M 9 1,kB 10 8 9 .quo,M 5 10] (Z (G [M 11 0,M 12 1,kB 13 11 12 .rem,kQi 14 13 0 true,M 15 14,T 15 true (M 16 0),T 15 true (kBi 17 16 0 .lss),T 15 true (M 18 1),T 15 true (kBi 19 18 0 .lss),⟨some (15,true),.eqv (some 20) true .b (kt 17) (kt 19)⟩,kPf 21 15 20] (Y 21 (K.ops [M 22 5,kBi 23 22 1 .sub,M 5 23]) ks)) (G [M 24 5,M 4 24] kr))))
theorem qNY:zQ prog Tryz.f230.ntmps (Tryz.f230.body.getD .skip)=some qGN.erase:=by kernel_rfl
@[simp] theorem qOH:zB prog 230=true:=by kernel_rfl
def qGS:K:=G [kMi 4 0] (Z (G [M 5 1,kQi 6 5 0 false] (Y 6 (G [kMi 4 0] kr) ks)) (G [M 7 0,M 8 1,M 9 0,M 10 1,kC 11 230 [(kt 9),(kt 10)],kB 12 8 11 .mul,kB 13 7 12 .sub,M 4 13] kr))
theorem qOd:zQ prog Tryz.f231.ntmps (Tryz.f231.body.getD .skip)=some qGS.erase:=by kernel_rfl
@[simp] theorem qON:zB prog 231=true:=by kernel_rfl
theorem zY7 {a b:Int}(ha:Rng a)(hb:Rng b):Ret prog 226 [int a,int b] [] (int (zBS (a+b))) []:=by obtain⟨a1,a2⟩:=ha;obtain⟨b1,b2⟩:=hb;refine zH Tryz.func226 rfl qOa (rs:=[.slot 4]) (by kernel_rfl) ?_;unfold qGP;have hw:=jT (a+b) (by omega);simp[hw];refine qE (zPl (a+b)) (by simp) (by simp) ?_;simp;exact zA 0 (by simp)
theorem zYK {a b:Int}(ha:Rng a)(hb:Rng b):Ret prog 228 [int a,int b] [] (int (zBS (a-b))) []:=by obtain⟨a1,a2⟩:=ha;obtain⟨b1,b2⟩:=hb;refine zH Tryz.func228 rfl qOb (rs:=[.slot 4]) (by kernel_rfl) ?_;unfold qGQ;have hw:=jT (a-b) (by omega);simp[hw];refine qE (zPl (a-b)) (by simp) (by simp) ?_;simp;exact zA 0 (by simp)
theorem zTL {m n q:Nat}(hq:1099511627776 / n=q)(hn:0<n):(q<m→1099511627776<m*n)∧(¬q<m→m*n≤1099511627776):=by
 constructor
 ·intro h;rw[←hq]at h;exact(Nat.div_lt_iff_lt_mul hn).1 h
 ·intro h;rw[←hq]at h;have:=mt (Nat.div_lt_iff_lt_mul hn).2 h;omega
theorem zTy (a:Int)(h:a≠0):∃m:Nat,0<m∧(a=m∨a = -(m:Int)):=⟨a.natAbs,by omega,by omega⟩
theorem zTX {a b:Int}(ha:Rng a)(hb:Rng b):Ret prog 229 [int a,int b] [] (int (zBS (a*b))) []:=by
 obtain⟨a1,a2⟩:=ha;obtain⟨b1,b2⟩:=hb;refine zH Tryz.func229 rfl qOe (rs:=[.slot 4]) (by kernel_rfl) ?_;unfold qGT;by_cases h0:a=0
 ·subst h0;simp;exact zA 0 (by simp[zBS])
 by_cases h1:b=0
 ·subst h1;simp[h0];exact zA 0 (by simp[zBS])
 obtain⟨m,m0,hm⟩:=zTy a h0;obtain⟨n,n0,hn⟩:=zTy b h1;obtain⟨q,hq⟩:∃q:Nat,1099511627776 / n=q:=⟨_,rfl⟩;obtain⟨c1,c2⟩:=zTL (m:=m) hq n0;have hqd:Int.tdiv 1099511627776 (n:Int)=(q:Int):=by rw[tdN (by omega),←hq]; rfl
 have hqle:q≤1099511627776:=by rw[←hq]; exact Nat.div_le_self _ _
 have wq:=jT (q:Int) (by omega);have wm:=jT (m:Int) (by omega);have wn:=jT (n:Int) (by omega);have wm':IntKind.i64.wrap (-(m:Int)) = -m:=IntWalk.i64_in _ (by omega);have wn':IntKind.i64.wrap (-(n:Int)) = -n:=IntWalk.i64_in _ (by omega);have x1:¬((m:Int) < -m):=by omega
 have x2:(-(m:Int))<m:=by omega
 have y1:¬((n:Int) < -n):=by omega
 have y2:(-(n:Int))<n:=by omega
 have z1:¬((m:Int)<0):=by omega
 have z2:(-(m:Int))<0:=by omega
 have z3:¬((n:Int)<0):=by omega
 have z4:(-(n:Int))<0:=by omega
 have m1:¬m=0:=by omega
 have n1:¬n=0:=by omega
 have p0:(m:Int)*n=((m*n:Nat):Int):=by push_cast; rfl
 generalize hmn:m*n=s at *
 by_cases hc:(q:Int)<m
 ·have hs:=c1 (by omega);have k1:zBS (s:Int)=1099511627776:=by unfold zBS; rw[if_pos (by omega)]
  have k2:zBS (-(s:Int)) = -1099511627776:=by unfold zBS; rw[if_neg (by omega),if_pos (by omega)]
  rcases hm with rfl | rfl<;>rcases hn with rfl | rfl<;>simp[m1,n1,wm,wn,wm',wn',x1,x2,y1,y2,z1,z2,z3,z4,m0,n0,hqd,wq,hc]<;>exact zA 0 (by simp[Int.neg_mul,Int.mul_neg,p0,k1,k2])
 ·have hs:=c2 (by omega);have k1:zBS (s:Int)=s:=by unfold zBS; rw[if_neg (by omega),if_neg (by omega)]
  have k2:zBS (-(s:Int)) = -s:=by unfold zBS; rw[if_neg (by omega),if_neg (by omega)]
  have w1:=jT (s:Int) (by omega);have w2:=jT (-(s:Int)) (by omega);rcases hm with rfl | rfl<;>rcases hn with rfl | rfl<;>simp[m1,n1,wm,wn,wm',wn',x1,x2,y1,y2,z1,z2,z3,z4,m0,n0,hqd,wq,hc]<;>exact zA 0 (by simp[Int.neg_mul,Int.mul_neg,p0,k1,k2,w1,w2])
theorem zKP {a b:Int}(ha:Rng a)(hb:Rng b):Ret prog 230 [int a,int b] [] (int (zIR a b)) []:=by
 obtain⟨a1,a2⟩:=ha;refine zH Tryz.func230 rfl qNY (rs:=[.slot 4]) (by kernel_rfl) ?_;unfold qGN;by_cases h1:b=0
 ·subst h1;simp;exact zA 0 (by simp[zIR])
 have ht:=zT0 (b:=b) a1 a2;have w1:=jT (a.tdiv b) (by omega);have w2:=jT (a.tdiv b-1) (by omega);have e:zIR a b=if a.tmod b≠0∧¬(a<0↔b<0) then a.tdiv b-1 else a.tdiv b:=by unfold zIR; rw[if_neg h1]
 rw[e];by_cases hm:a.tmod b=0
 ·simp[h1,hm,w1];exact zA 0 (by simp[hm])
 by_cases s1:a<0<;>by_cases s2:b<0<;>simp[h1,hm,w1,s1,s2,w2]<;>exact zA 0 (by simp[hm,s1,s2])
theorem zWw {a b:Int}(ha:Rng a)(hb:Rng b):Ret prog 231 [int a,int b] [] (int (zOu a b)) []:=by
 have hd:=zKP ha hb;refine zH Tryz.func231 rfl qOd (rs:=[.slot 4]) (by kernel_rfl) ?_;unfold qGS;by_cases h1:b=0
 ·subst h1;simp;exact zA 0 (by simp[zOu])
 have hr:=zLH (a:=a) hb.1 hb.2;have e:zOu a b=a-b*zIR a b:=by unfold zOu; rw[if_neg h1]
 obtain⟨a1,a2⟩:=ha;have w1:=jT (b*zIR a b) (by omega);have w2:=jT (a-b*zIR a b) (by omega);simp[h1];refine qE hd (by simp) (by simp) ?_;simp[w1,w2];exact zA 0 (by simp[e])
def zQv:Go.Shelf.Ren:=⟨fun | 4=>204 | n=>n,fun | 0=>0 | 3=>3 | 4=>4 | 9=>9 | 20=>20 | 22=>44 | 25=>46 | n=>n,fun n=>n⟩
theorem zWZ:Go.Proofs.Lays8.n4 prog zQv:={
 mixed:=by kernel_rfl,
 f4:=⟨Tryz.f204.name,by decide,Tryz.func204.trans (congrArg some (by kernel_rfl))⟩,
 t0:=Tryz.underlying0,
 a0:=Tryz.isAgg0,
 z0:=Tryz.sizeOf0,
 v0:=Tryz.zeroValue0,
 t3:=Tryz.underlying3,
 a3:=Tryz.isAgg3,
 z3:=Tryz.sizeOf3,
 v3:=Tryz.zeroValue3,
 t4:=Tryz.underlying4,
 a4:=Tryz.isAgg4,
 z4:=Tryz.sizeOf4,
 v4:=Tryz.zeroValue4,
 t9:=Tryz.underlying9,
 a9:=Tryz.isAgg9,
 z9:=Tryz.sizeOf9,
 v9:=Tryz.zeroValue9,
 t20:=Tryz.underlying20,
 a20:=Tryz.isAgg20,
 z20:=Tryz.sizeOf20,
 v20:=Tryz.zeroValue20,
 t22:=Tryz.underlying44,
 a22:=Tryz.isAgg44,
 z22:=Tryz.sizeOf44,
 v22:=Tryz.zeroValue44}
@[simp] theorem qI2:zB prog 204=true:=by kernel_rfl
theorem zPB (n:Nat)(hn:n≤1000000):Ret prog 204 [.nil,int n] [] (.row 0 0) [.row false 46 3 0 []] :=
 zUw (ρ:=zQv) (sz:=3) (bs:=40) (z:=.agg #[.int .i64 0,.int .i64 0,.slice none 0 0]) zWZ (by kernel_rfl) rfl (by omega) (by omega) (by omega)
def zOD:K:=G [kMn 2] (G [kMi 3 0] (Z (G [M 9 0,kN 10 9,kMi 11 0] (K.block 0 (K.loop (G [kB 12 11 10 .lss] (Z (Y 12 ks (K.exit 0)) (Z (K.block 1 (G [kX 13 9 11 1,L 14 13 1,M 5 14] (G [M 15 3,M 16 5,kN 17 16,kB 18 15 17 .add,M 3 18] (G [M 19 3,kBi 20 19 0 .lss] (Y 20 (K.ops [⟨none,.mki (some 21) 9 (.const (.string ⟨#[108,101,110,32,111,117,116,32,111,102,32,114,97,110,103,101]⟩))⟩,⟨none,.pan none (kt 21)⟩]) ks))))) (K.ops [kBi 22 11 1 .add,M 11 22]))))))) (G [M 23 3,kC 24 204 [(.const kl),(kt 23)],M 6 24] (Z (G [M 25 0,kN 26 25,kMi 27 0] (K.block 2 (K.loop (G [kB 28 27 26 .lss] (Z (Y 28 ks (K.exit 2)) (Z (K.block 3 (G [kX 29 25 27 1,L 30 29 1,M 8 30] (K.ops [M 31 6,M 32 8,kP 33 46 3 40 31 32,M 6 33]))) (K.ops [kBi 34 27 1 .add,M 27 34]))))))) (G [M 35 6,M 2 35] kr)))))
theorem zVC:zQ prog Tryz.f196.ntmps (Tryz.f196.body.getD .skip)=some zOD.erase:=by kernel_rfl
@[simp] theorem qCt:zB prog 196=true:=by kernel_rfl
def zBa (Ls:List (List Val)):List A:=Ls.map fun l=>A.sl l.length (zJ l)
theorem zEq:∀(Ls:List (List Val)),qJ (zBa Ls)
 | []=>qJ.nil
 | l::Ls=>by
  have h1:=zEq Ls;have h2:=zB3 l;refine⟨?_,fun rf g=>?_⟩
  ·show jF (A.sl l.length (zJ l)::zBa Ls)=_;simp[h1.1];rfl
  ·show vwL rf g (A.sl l.length (zJ l)::zBa Ls)=_;simp[h1.2];rfl
@[simp] theorem zZs (l:List (List Val)):jF (zBa l)=zBa l:=(zEq l).1
@[simp] theorem qEr {rf g}(l:List (List Val)):vwL rf g (zBa l)=zBa l:=(zEq l).2 _ _
@[simp] theorem qAH (l:List (List Val)):(zBa l).length=l.length:=by simp[zBa]
theorem zHO {Ls:List (List Val)}{i:Nat}(h:i<Ls.length):(zBa Ls).drop i=.sl Ls[i].length (zJ Ls[i])::zBa (Ls.drop (i+1)):=by rw[zBa,←List.map_drop,jAv h]; rfl
def zDW (Ls:List (List Val)):Nat:=Ls.flatten.length
theorem zN2 {Ls:List (List Val)}{i:Nat}(h:i<Ls.length):zDW (Ls.take (i+1))=zDW (Ls.take i)+Ls[i].length:=by rw[zDW,zDW,jA9 h,jDb]; simp
theorem zT1 (Ls:List (List Val))(i:Nat):zDW (Ls.take i)≤zDW Ls:=by
 have:Ls.flatten=(Ls.take i).flatten++(Ls.drop i).flatten:=by rw[←jDb,jCb]
 rw[zDW,zDW,this,jA7]; omega
theorem zMf (Ls:List (List Val))(hb:zDW Ls≤1000000):Ret prog 196 [.sl Ls.length (zBa Ls)] [] (.sl (zDW Ls) (zJ Ls.flatten)) []:=by
 refine zH Tryz.func196 rfl zVC (rs:=[.slot 2]) (by kernel_rfl) ?_;unfold zOD;simp;intro hl;refine jR (S:=Nat) (fun i=>[(0,.sl Ls.length (zBa Ls)),(3,int (zDW (Ls.take i))),(9,.sl Ls.length (zBa Ls)),(10,int Ls.length),(11,int i)]) (fun s=>[]) (fun i=>i≤Ls.length) (fun i=>Ls.length-i) 0 (by simp)
  (zP [] 0 (by simp) (by simp) (by simp) (by simp[zDW])) ?_
 intro i hi;by_cases h:i<Ls.length
 ·have ht:=zN2 h;have hle:=zT1 Ls (i+1);have hw:IntKind.i64.wrap ((zDW (Ls.take i):Int)+(Ls[i].length:Int))=(zDW (Ls.take (i+1)):Nat):=by rw[ht]; push_cast; exact IntWalk.i64_in _ (by omega)
  have h0:¬((zDW (Ls.take (i+1)):Nat):Int)<0:=by omega
  simp[h,zHO h];intro _;simp[hw,h0];exact zO (i+1) h (by omega) (zP [] 0 (by simp) (by simp) (by simp) (by simp[qC h hl]))
 ·have hil:i=Ls.length:=by omega
  subst hil;have hI:¬(Ls.length:Int)<Ls.length:=by omega
  simp;refine jO (zPB (zDW Ls) hb) [] (by simp) (by simp) (by simp) ?_;simp;intro _;refine jR (S:=Nat) (fun i=>[(6,.row 0 (zDW (Ls.take i))),(25,.sl Ls.length (zBa Ls)),(26,int Ls.length),(27,int i)]) (fun i=>[.row false 46 3 (zDW (Ls.take i)) (zJ (Ls.take i).flatten)]) (fun i=>i≤Ls.length) (fun i=>Ls.length-i) 0 (by simp)
   (zP [0] 0 (by simp) (by simp) (by simp[zDW]) (by simp[zDW])) ?_
  intro i hi;by_cases h:i<Ls.length
  ·have ht:=zN2 h;have hle:=zT1 Ls (i+1);have hf:(Ls.take (i+1)).flatten=(Ls.take i).flatten++Ls[i]:=by rw[jA9 h,jDb]; simp
   simp[h,zHO h];refine⟨⟨by simp[maxLen]; omega,by omega⟩,?_⟩;exact zO (i+1) h (by omega) (zP [0] 0 (by simp) (by simp) (by simp[ht,hf,zAI]) (by simp[ht,qC h hl]))
  ·have hil:i=Ls.length:=by omega
   subst hil;simp;exact zA 1 (by simp)
def qGL:K:=G [kMn 2] (G [kMn 3] (Z (G [M 6 0,kN 7 6,kMi 8 0] (K.block 0 (K.loop (G [kB 9 8 7 .lss] (Z (Y 9 ks (K.exit 0)) (Z (K.block 1 (G [kX 10 6 8 3,J 11 10 3,kZ 5 [ki,ki,kl],S 5 11 3] (G [D 12 5 2,L 13 12 1,kC 14 108 [(kt 13)],D 15 5 2,S 15 14 1] (K.ops [M 16 3,J 17 5 3,kd 18 46 3 1 [ki,ki,kl] [(0,3,(kt 17))],kP 19 46 3 40 16 18,M 3 19])))) (K.ops [kBi 20 8 1 .add,M 8 20]))))))) (G [M 21 3,M 2 21] kr)))
theorem qNW:zQ prog Tryz.f108.ntmps (Tryz.f108.body.getD .skip)=some qGL.erase:=by kernel_rfl
@[simp] theorem qOF:zB prog 108=true:=by kernel_rfl
mutual
theorem zHm:∀(l:List Val),qS l≤1000000→Ret prog 108 [.sl l.length (zJ l)] [] (.sl l.length (zJ l)) []
 | l,hz=>by
  have hl6:=zDP l;refine zH Tryz.func108 rfl qNW (rs:=[.slot 2]) (by kernel_rfl) ?_;unfold qGL;simp;intro hl;refine jR (S:=Nat) (fun i=>[(3,.row 0 i),(6,.sl l.length (zJ l)),(7,int l.length),(8,int i)]) (fun i=>[.row false 46 3 i (zJ (l.take i))]) (fun i=>i≤l.length) (fun i=>l.length-i) 0 (by simp)
   ((zAG (t:=3) (by simp) 46 3).trans (zP [0] 0 (by simp) (by simp) (by simp) (by simp))) ?_
  intro i hi;by_cases h:i<l.length
  ·have hk:=zJ9 l hz l[i] (jA3 h);have ht:zJ (l.take (i+1))=zJ (l.take i)++[.lit (.int .i64 l[i].k),.lit (.int .i64 l[i].n),.sl l[i].kids.length (zJ l[i].kids)]:=by rw[jA9 h,zAI]; simp
   simp[h,qY h];refine qE hk (by simp) (by simp) ?_;simp;refine⟨⟨by simp[maxLen]; omega,by omega⟩,?_⟩;exact zO (i+1) h (by omega) (zP [0] 0 (by simp) (by simp) (by simp[ht]) (by simp[qC h hl]))
  ·have hil:i=l.length:=by omega
   subst hil;simp;exact zA 1 (by simp)
theorem zJ9:∀(l:List Val),qS l≤1000000→∀x∈l,Ret prog 108 [.sl x.kids.length (zJ x.kids)] [] (.sl x.kids.length (zJ x.kids)) []
 | [],_,x,h=>by simp at h
 | .mk k n ks::l,hz,x,h=>by
  simp only[qS,zW]at hz
  if e:x∈l then exact zJ9 l (by omega) x e
  else
   have:x=.mk k n ks:=(jA5.1 h).resolve_right e;subst this;exact zHm ks (by omega)
end
def qGR:K:=G [kZ 4 [ki,ki,kl]] (Z (G [M 7 0,kBi 8 7 0 .geq,M 9 8,T 9 true (M 10 0),T 9 true (kBi 11 10 5 .lss),kPf 12 9 11,M 13 12,T 13 true (M 14 1),T 13 true (kN 15 14),T 13 true (kQi 16 15 2 false),kPf 17 13 16] (Y 17 (Z (K.dops [(0,0,M 18 0),(1,0,⟨none,.idxarr (some 19) (.global 0) (kt 18) 5 1⟩),(2,0,L 20 19 1),(3,0,M 21 1),(4,0,kXi 22 21 3 0),(5,0,D 23 22 1),(6,0,L 24 23 1),(7,0,M 25 1),(8,0,kXi 26 25 3 1),(9,0,D 27 26 1),(10,0,L 28 27 1),(11,0,⟨none,.call (some 29) (kt 20) [(kt 24),(kt 28)]⟩),(12,0,kb 30 [ki,ki,kl] [(1,1,(kt 29))]),(13,0,S 4 30 3)]) kr) ks)) (Z (K.block 0 (G [M 32 0,kQi 33 32 9 false,M 34 33,T 34 true (M 35 1),T 34 true (kN 36 35),T 34 true (kQi 37 36 1 false),kPf 38 34 37,M 31 38] (Y 31 (G [M 39 1,kXi 40 39 3 0,D 41 40 1,L 42 41 1,kQi 43 42 0 false,kC 44 174 [(kt 43)],S 4 44 3] kr) (G [M 46 0,kQi 47 46 11 false,M 48 47,T 48 true (M 49 1),T 48 true (kN 50 49),T 48 true (kQi 51 50 1 false),kPf 52 48 51,M 45 52] (Y 45 (G [M 53 1,kXi 54 53 3 0,D 55 54 2,L 56 55 1,kN 57 56,kb 58 [ki,ki,kl] [(1,1,(kt 57))],S 4 58 3] kr) (G [M 60 1,kN 61 60,kQi 62 61 2 true,M 59 62] (Y 59 (G [kb 63 [ki,ki,kl] [],S 4 63 3] kr) ks))))))) (Z (K.wk (K.dops [(0,0,M 64 1),(1,2,kXi 65 64 3 0),(2,2,J 66 65 3),(3,0,M 67 1),(4,2,kXi 68 67 3 1),(5,2,J 69 68 3),(6,301,⟨none,.alr (some 5) 1 [ki,ki,kl]⟩),(7,302,⟨none,.alr (some 6) 2 [ki,ki,kl]⟩),(8,0,S 5 66 3),(9,0,S 6 69 3)])) (Z (G [M 70 0] (K.block 1 (G [kQi 72 70 5 false,M 71 72] (Y 71 (G [D 73 5 1,L 74 73 1,D 75 6 1,
 L 76 75 1,kB 77 74 76 .lss,kC 78 174 [(kt 77)],S 4 78 3] kr) (G [kQi 80 70 6 false,M 79 80] (Y 79 (G [J 81 5 3,J 82 6 3,kC 83 60 [(kt 81),(kt 82)],kQi 84 83 0 false,kC 85 174 [(kt 84)],S 4 85 3] kr) (G [kQi 87 70 7 false,M 86 87] (Y 86 (G [D 88 5 1,L 89 88 1,kQi 90 89 0 true,M 91 90,T 91 true (D 92 6 1),T 91 true (L 93 92 1),T 91 true (kQi 94 93 0 true),kPf 95 91 94,kC 96 174 [(kt 95)],S 4 96 3] kr) (G [kQi 98 70 8 false,M 97 98] (Y 97 (G [D 99 5 1,L 100 99 1,kQi 101 100 0 true,M 102 101,T 102 false (D 103 6 1),T 102 false (L 104 103 1),T 102 false (kQi 105 104 0 true),kPt 106 102 105,kC 107 174 [(kt 106)],S 4 107 3] kr) (G [kQi 109 70 10 false,M 108 109] (Y 108 (G [D 110 5 2,L 111 110 1,D 112 6 2,L 113 112 1,kd 114 44 1 2 [kl,kl] [(0,1,(kt 111)),(1,1,(kt 113))],kC 115 196 [(kt 114)],kC 116 108 [(kt 115)],kb 117 [ki,ki,kl] [(0,1,(kc 4)),(2,1,(kt 116))],S 4 117 3] kr) ks)))))))))))) (G [kb 118 [ki,ki,kl] [],S 4 118 3] kr)))))
def qPX:Nat→Option (List (Nat×Nat)):=fun r=>match r with | 9=>some [(0,0),(1,2),(2,2),(3,0),(4,2),(5,2),(6,301),(7,302),(8,0),(9,0)] | _=>none
theorem qOc:qD prog Tryz.f177.ntmps qPX (Tryz.f177.body.getD .skip)=some qGR.erase:=by kernel_rfl
@[simp] theorem qOM:zB prog 177=true:=by kernel_rfl
@[simp] theorem qKY (b:Bool):(zCb b).k=1:=rfl
@[simp] theorem qKZ (b:Bool):(zCb b).n=if b then 1 else 0:=rfl
@[simp] theorem qBJ (b:Bool):(zCb b).kids=[]:=rfl
@[simp] theorem qCU {env:Env}:ev env (.global 0)=.rptr [.clo 226 [] [],.clo 228 [] [],.clo 229 [] [],.clo 230 [] [],.clo 231 [] []]:=rfl
theorem yR:2≤maxLen:=by simp[maxLen]
theorem zC8:1≤maxLen:=by simp[maxLen]
theorem qCR {p:Prg}{n:Int}{ts:List Typ}{t:Typ}(h:OpT n ts t){vs:List Val}(hv:TyL p ts vs)(hs:∀v∈vs,zW v≤256):Ret prog 177 [int n,.sl vs.length (zJ vs)] [] (.agg (zC (opV n vs))) []:=by
 refine qP Tryz.func177 rfl qOc (rs:=[.cell 4 3 true]) (by kernel_rfl) ?_;unfold qGR;cases h with
 | arith n h1 h2 =>
  obtain⟨a,b,rfl,ha,hb⟩:=hv.two;obtain⟨x,rfl,hx⟩:=ha.int_inv;obtain⟨y,rfl,hy⟩:=hb.int_inv;have e:opV n [.mk 0 x [],.mk 0 y []]=.mk 0 (zMn n x y) []:=by simp only[opV,if_pos h2]; rfl
  rw[e];have hn:n=0∨n=1∨n=2∨n=3∨n=4:=by omega
  rcases hn with rfl | rfl | rfl | rfl | rfl
  ·simp[Val.k,Val.n,Val.kids,yR,zC8];refine qU (zY7 hx hy) (by simp) (by simp) ?_;simp;exact zA 0 (by simp[zC,Val.k,Val.n,Val.kids,zMn])
  ·simp[Val.k,Val.n,Val.kids,yR,zC8];refine qU (zYK hx hy) (by simp) (by simp) ?_;simp;exact zA 0 (by simp[zC,Val.k,Val.n,Val.kids,zMn])
  ·simp[Val.k,Val.n,Val.kids,yR,zC8];refine qU (zTX hx hy) (by simp) (by simp) ?_;simp;exact zA 0 (by simp[zC,Val.k,Val.n,Val.kids,zMn])
  ·simp[Val.k,Val.n,Val.kids,yR,zC8];refine qU (zKP hx hy) (by simp) (by simp) ?_;simp;exact zA 0 (by simp[zC,Val.k,Val.n,Val.kids,zMn])
  ·simp[Val.k,Val.n,Val.kids,yR,zC8];refine qU (zWw hx hy) (by simp) (by simp) ?_;simp;exact zA 0 (by simp[zC,Val.k,Val.n,Val.kids,zMn])
 | less =>
  obtain⟨a,b,rfl,ha,hb⟩:=hv.two;obtain⟨x,rfl,hx⟩:=ha.int_inv;obtain⟨y,rfl,hy⟩:=hb.int_inv;simp[Val.k,Val.n,Val.kids,yR,zC8];refine⟨_,_,yW 2,?_⟩;simp[Val.k,Val.n,Val.kids,yR,zC8];refine qE (zAW (decide (x<y))) (by simp) (by simp[zC]) ?_;simp[zC];exact zA 0 (by by_cases hx0:x<y<;>simp[zC,opV,qA,hx0])
 | same u =>
  obtain⟨a,b,rfl,ha,hb⟩:=hv.two;simp[yR];refine⟨_,_,yW 2,?_⟩;simp[yR];refine qE (zKp a b) (by simp[zC]) (by simp) ?_;simp;refine qE (zAW (decide (zCu a b=0))) (by simp) (by simp[zC]) ?_;simp[zC];exact zA 0 (by simp[zC,opV])
 | andor n h =>
  obtain⟨a,b,rfl,ha,hb⟩:=hv.two;obtain⟨x,rfl,hx⟩:=ha.bool_inv;obtain⟨y,rfl,hy⟩:=hb.bool_inv;rcases h with rfl | rfl
  ·rcases hx with rfl | rfl<;>rcases hy with rfl | rfl
   ·simp[Val.k,Val.n,Val.kids,yR];refine⟨_,_,yW 2,?_⟩;simp[Val.k,Val.n,Val.kids,yR];refine qE (zAW false) (by simp) (by simp[zC]) ?_;simp[zC];exact zA 0 (by simp[zC,opV,qA])
   ·simp[Val.k,Val.n,Val.kids,yR];refine⟨_,_,yW 2,?_⟩;simp[Val.k,Val.n,Val.kids,yR];refine qE (zAW false) (by simp) (by simp[zC]) ?_;simp[zC];exact zA 0 (by simp[zC,opV,qA])
   ·simp[Val.k,Val.n,Val.kids,yR];refine⟨_,_,yW 2,?_⟩;simp[Val.k,Val.n,Val.kids,yR];refine qE (zAW false) (by simp) (by simp[zC]) ?_;simp[zC];exact zA 0 (by simp[zC,opV,qA])
   ·simp[Val.k,Val.n,Val.kids,yR];refine⟨_,_,yW 2,?_⟩;simp[Val.k,Val.n,Val.kids,yR];refine qE (zAW true) (by simp) (by simp[zC]) ?_;simp[zC];exact zA 0 (by simp[zC,opV,qA])
  ·rcases hx with rfl | rfl<;>rcases hy with rfl | rfl
   ·simp[Val.k,Val.n,Val.kids,yR];refine⟨_,_,yW 2,?_⟩;simp[Val.k,Val.n,Val.kids,yR];refine qE (zAW false) (by simp) (by simp[zC]) ?_;simp[zC];exact zA 0 (by simp[zC,opV,qA])
   ·simp[Val.k,Val.n,Val.kids,yR];refine⟨_,_,yW 2,?_⟩;simp[Val.k,Val.n,Val.kids,yR];refine qE (zAW true) (by simp) (by simp[zC]) ?_;simp[zC];exact zA 0 (by simp[zC,opV,qA])
   ·simp[Val.k,Val.n,Val.kids,yR];refine⟨_,_,yW 2,?_⟩;simp[Val.k,Val.n,Val.kids,yR];refine qE (zAW true) (by simp) (by simp[zC]) ?_;simp[zC];exact zA 0 (by simp[zC,opV,qA])
   ·simp[Val.k,Val.n,Val.kids,yR];refine⟨_,_,yW 2,?_⟩;simp[Val.k,Val.n,Val.kids,yR];refine qE (zAW true) (by simp) (by simp[zC]) ?_;simp[zC];exact zA 0 (by simp[zC,opV,qA])
 | not =>
  obtain⟨a,rfl,ha⟩:=hv.one;obtain⟨x,rfl,hx⟩:=ha.bool_inv;simp[Val.k,Val.n,Val.kids,yR,zC8];refine qE (zAW (decide (x=0))) (by simp) (by simp[zC]) ?_;simp[zC];exact zA 0 (by by_cases hx0:x=0<;>simp[zC,opV,qA,hx0])
 | join u =>
  obtain⟨a,b,rfl,ha,hb⟩:=hv.two;have h1:=hs a (by simp);have h2:=hs b (by simp);cases a with | mk k1 n1 l1 =>
  cases b with | mk k2 n2 l2 =>
  simp only[zW]at h1 h2;have z1:=zDP l1;have z2:=zDP l2;have hc:Ret prog 196 [.sl 2 [.sl l1.length (zJ l1),.sl l2.length (zJ l2)]] [] (.sl (l1.length+l2.length) (zJ (l1++l2))) []:=by simpa [zBa,zDW] using zMf [l1,l2] (by simp[zDW]; omega)
  have hk:=zHm (l1++l2) (by rw[zCn]; omega);rw[jA7]at hk;simp[Val.k,Val.n,Val.kids,yR,zC8];refine⟨_,_,yW 2,?_⟩;simp[Val.k,Val.n,Val.kids,yR,zC8];refine qE hc (by simp) (by simp) ?_;simp;refine qE hk (by simp) (by simp) ?_;simp;exact zA 0 (by simp[zC,opV,Val.k,Val.n,Val.kids])
 | len u =>
  obtain⟨a,rfl,ha⟩:=hv.one;simp[zC8];exact fun _=>zA 0 (by simp[zC,opV,Val.k,Val.n,Val.kids])
theorem zPY {s:Id}{f:Bool}{n x:Int}:∀{l:List Exp},x∈zDv s f n l→∃e∈l,(f=true∧isS s e=true∧x=n)∨x∈zDc s e
 | [],h=>by simp[zDv]at h
 | e::l,h=>by
  simp only[zDv,jAe]at h;rcases h with (h | h) | h
  ·split at h
   ·rename_i hc;rw[jA4]at hc;exact⟨e,by simp,.inl ⟨hc.1,hc.2,by simpa using h⟩⟩
   ·simp at h
  ·exact⟨e,by simp,.inr h⟩
  ·obtain⟨e',h1,h2⟩:=zPY h;exact⟨e',by simp[h1],h2⟩
theorem zBJ {s:Id}{e:Exp}{x:Int}(h:x∈zDc s e):∃k∈e.kids,(e.k=8∧isS s k=true∧x=e.n)∨x∈zDc s k:=by cases e;simp only[zDc]at h;obtain⟨k,h1,h2⟩:=zPY h;exact⟨k,h1,h2.imp (fun h=>⟨of_decide_eq_true h.1,h.2⟩) id⟩
theorem zU8 {B:List Bnd}{x:Id}{n:Int}{t:Typ}(h:zC7 B x n=some t):∃b∈B,b.id=x∧b.typ=t:=by unfold zC7 at h;rw[jAa]at h;obtain⟨b,h1,h2⟩:=h;have h3:=jDa h1;simp only[jA4,decide_eq_true_eq]at h3;exact⟨b,by simpa using jDj h1,h3.1,h2⟩
theorem zXX {p:Prg}{B:List Bnd}{e:Exp}{t:Typ}(h:WE p B e t)(hk:e.k=2):∃n,zC7 B e.ref n=some t:=by cases h<;>simp only[Exp.k]at hk<;>first | omega | exact⟨_,by assumption⟩
theorem qEv {p:Prg}{s aid:Id}{a:Dfn}(ha:qQ p.defs aid=some a){B:List Bnd}{e:Exp}{t:Typ}(h:WE p B e t) :
 (∃b∈B,b.id=s)→(∀b∈B,b.id=s→b.typ=jP aid)→∀x∈zDc s e,0≤x∧x<a.slots.length:=by
 have ext:∀{B:List Bnd} {i:Id} {n:Int} {v:Typ},(∀x∈B,x.id≠i)→(∃b∈B,b.id=s)→(∀b∈B,b.id=s→b.typ=jP aid)→(∃b∈B++[⟨i,n,v⟩],b.id=s)∧∀b∈B++[⟨i,n,v⟩],b.id=s→b.typ=jP aid:=by
  rintro B i n v hf ⟨b0,hb0,hs0⟩ hB;refine⟨⟨b0,by simp[hb0],hs0⟩,fun b hb hbs=>?_⟩;rcases jAe.1 hb with hb | hb
  ·exact hB b hb hbs
  ·rw[jAh]at hb;subst hb;exact(hf b0 hb0 (hs0.trans hbs.symm)).elim
 induction h with
 | int=>intro _ _ x hx; simp[zDc,zDv]at hx
 | bool=>intro _ _ x hx; simp[zDc,zDv]at hx
 | var=>intro _ _ x hx; simp[zDc,zDv]at hx
 | call _ _ _ _ _ ks _ _ _ _ _ _ _ ih =>
  intro h1 h2 x hx;obtain⟨k,hk,h | h⟩:=zBJ hx
  ·cases h.1
  ·obtain⟨j,hj,rfl⟩:=jAo hk;exact ih j hj h1 h2 x h
 | op _ _ _ _ _ ks _ _ _ _ _ _ _ ih =>
  intro h1 h2 x hx;obtain⟨k,hk,h | h⟩:=zBJ hx
  ·cases h.1
  ·obtain⟨j,hj,rfl⟩:=jAo hk;exact ih j hj h1 h2 x h
 | ite _ _ _ _ _ _ _ _ _ _ _ _ _ i1 i2 i3 =>
  intro h1 h2 x hx;obtain⟨k,hk,h | h⟩:=zBJ hx
  ·cases h.1
  ·simp only[Exp.kids,jA5,jC5,or_false]at hk;rcases hk with rfl | rfl | rfl
   ·exact i1 h1 h2 x h
   ·exact i2 h1 h2 x h
   ·exact i3 h1 h2 x h
 | lets _ _ _ _ _ _ _ _ _ _ hf _ _ i1 i2 =>
  intro h1 h2 x hx;obtain⟨k,hk,h | h⟩:=zBJ hx
  ·cases h.1
  ·simp only[Exp.kids,jA5,jC5,or_false]at hk;rcases hk with rfl | rfl
   ·exact i1 h1 h2 x h
   ·exact i2 (ext hf h1 h2).1 (ext hf h1 h2).2 x h
 | record _ _ _ _ _ ks _ _ _ _ _ _ _ ih =>
  intro h1 h2 x hx;obtain⟨k,hk,h | h⟩:=zBJ hx
  ·cases h.1
  ·obtain⟨j,hj,rfl⟩:=jAo hk;exact ih j hj h1 h2 x h
 | field env i r u k0 ns d j hd hk hj hw ih =>
  intro h1 h2 x hx;obtain⟨k,hk',h | h⟩:=zBJ hx
  ·simp only[Exp.kids,jAh]at hk';subst hk';obtain⟨_,h4,h5⟩:=h;simp only[isS,jA4,decide_eq_true_eq]at h4;have hr:r=aid:=by obtain⟨n,hl⟩:=zXX hw h4.1;rw[h4.2]at hl;obtain⟨b,hb,hbs,hbt⟩:=zU8 hl;have:=h2 b hb hbs;rw[hbt]at this;cases this;rfl
   subst hr;rw[ha]at hd;cases hd;simp only[Exp.n]at h5;omega
  ·simp only[Exp.kids,jAh]at hk';subst hk';exact ih h1 h2 x h
 | case _ _ _ _ _ _ _ _ _ _ _ _ ih =>
  intro h1 h2 x hx;obtain⟨k,hk,h | h⟩:=zBJ hx
  ·cases h.1
  ·simp only[Exp.kids,jAh]at hk;subst hk;exact ih h1 h2 x h
 | mtch _ _ _ _ _ _ ks _ d _ hf _ _ hl _ _ i1 ih =>
  intro h1 h2 x hx;obtain⟨k,hk,h | h⟩:=zBJ hx
  ·cases h.1
  ·rcases jA5.1 hk with rfl | hk
   ·exact i1 h1 h2 x h
   ·obtain⟨j,hj,rfl⟩:=jAo hk;exact ih j hj (ext hf h1 h2).1 (ext hf h1 h2).2 x h
 | list _ _ _ _ _ ks _ _ _ _ ih =>
  intro h1 h2 x hx;obtain⟨k,hk,h | h⟩:=zBJ hx
  ·cases h.1
  ·obtain⟨j,hj,rfl⟩:=jAo hk;exact ih j hj h1 h2 x h
 | fold _ i _ _ _ _ _ _ _ v t hf _ _ _ i1 i2 i3 =>
  intro h1 h2 x hx;obtain⟨k,hk,h | h⟩:=zBJ hx
  ·cases h.1
  ·simp only[Exp.kids,jA5,jC5,or_false]at hk;rcases hk with rfl | rfl | rfl
   ·exact i1 h1 h2 x h
   ·exact i2 h1 h2 x h
   ·have e1:=ext (n:=0) (v:=v) hf h1 h2;refine i3 ?_ ?_ x h
    ·obtain⟨b,hb,hs⟩:=e1.1;exact⟨b,jBf _ hb,hs⟩
    ·intro b hb hs;obtain⟨b0,hb0,hs0⟩:=h1;rcases jAe.1 hb with hb | hb
     ·exact e1.2 b hb hs
     ·rw[jAh]at hb;subst hb;exact(hf b0 hb0 (hs0.trans hs.symm)).elim
def zF0 (n:Nat):List Int:=(List.range n).map fun(i:Nat)=>(i:Int)
def zEj (s:Id)(e:Exp)(n:Nat):List Int:=(zF0 n).filter fun i=>zCt s e false||decide (i∈zDc s e)
@[simp] theorem qPl:zB prog 208=true:=by kernel_rfl
@[simp] theorem qPq:zB prog 207=true:=by kernel_rfl
@[simp] theorem qPp:zB prog 200=true:=by kernel_rfl
def zUN (f:Int→Id)(x:Id):Id:=if x.b=0 then f x.c else x
def qQl (f:Int→Id)(b:Bnd):Bnd:={b with id:=zUN f b.id}
def qNQ (f:Int→Id)(env:List Bnd):Prop:=∀b∈env,∀b'∈env,zUN f b.id=zUN f b'.id→b.id=b'.id
theorem zN1:∀l:List Exp,l.length≤(zI7 l).length
 | []=>by simp
 | e::l=>by
  have:=zN1 l;have h1:1≤(tmps e).length:=by rw[zXS]; simp
  simp only[jAl,zI7,jA7];omega
theorem zLT:∀{l:List Exp} {e:Exp},e∈l→(tmps e).Sublist (zI7 l)
 | x::l,e,h=>by
  simp only[zI7];rcases jA5.1 h with rfl | h
  ·exact List.sublist_append_left _ _
  ·exact(zLT h).trans (List.sublist_append_right _ _)
structure Frs (f:Int→Id)(env:List Bnd)(e:Exp):Prop where
 nd:(tmps e).Nodup
 num:e.num0
 inj:∀c∈tmps e,∀c'∈tmps e,f c=f c'→c=c'
 new:∀b∈env,∀c∈tmps e,zUN f b.id≠f c
 len:(tmps e).length≤32768
 ib:qNQ f env
section
variable {f:Int→Id}{env:List Bnd}{i:Id}{k n:Int}{r:Id}{u:Typ}{ks:List Exp}{ns:List ByteArray}
theorem Frs.id (h:Frs f env (.mk i k n r u ks ns)):i=⟨0,0,i.c⟩:=by obtain⟨a,b,c⟩:=i;have:=h.num;simp only[Exp.num0]at this;simp[this.1.1,this.1.2]
theorem Frs.kid (h:Frs f env (.mk i k n r u ks ns)){e:Exp}(he:e∈ks):Frs f env e:=by
 obtain⟨h1,h2,h3,h4,h5,h6⟩:=h;simp only[tmps]at h1 h3 h4 h5;simp only[Exp.num0,zNj]at h2;have hs:=zLT he;have hm:∀c∈tmps e,c∈zI7 ks++[i.c]:=fun c hc=>jBf _ (hs.subset hc)
 exact⟨(jCi.1 h1).1.sublist hs,h2.2 e he,fun c hc c' hc'=>h3 c (hm c hc) c' (hm c' hc'),fun b hb c hc=>h4 b hb c (hm c hc),by
  have:=hs.length_le;rw[jA7]at h5;omega,h6⟩
theorem Frs.push (h:Frs f env (.mk i k n r u ks ns)){e:Exp}(he:e∈ks)(m:Int)(t:Typ){env':List Bnd}(hb:env'=env∨∃m' t',env'=env++[⟨i,m',t'⟩]):Frs f (env'++[⟨i,m,t⟩]) e:=by
 have hk:=h.kid he;have hi:=h.id;obtain⟨h1,h2,h3,h4,h5,h6⟩:=h;simp only[tmps]at h1 h3 h4;have hic:i.c∈zI7 ks++[i.c]:=by simp
 have hri:zUN f i=f i.c:=by unfold zUN; rw[if_pos (by rw[hi])]
 have hmem:∀b∈env'++[(⟨i,m,t⟩:Bnd)],b∈env∨b.id=i:=by
  intro b hb';rcases jAe.1 hb' with hb' | hb'
  ·rcases hb with rfl | ⟨m',t',rfl⟩
   ·exact .inl hb'
   ·rcases jAe.1 hb' with hb' | hb'
    ·exact .inl hb'
    ·rw[jAh.1 hb']; exact .inr rfl
  ·rw[jAh.1 hb']; exact .inr rfl
 refine⟨hk.nd,hk.num,hk.inj,fun b hb' c hc=>?_,hk.len,fun b hb1 b' hb2 e=>?_⟩
 ·rcases hmem b hb' with h' | h'
  ·exact hk.new b h' c hc
  ·rw[h',hri];intro e;have hc':=(zLT he).subset hc;have:=h3 i.c hic c (jBf _ hc') e;exact(jCi.1 h1).2.2 c hc' i.c (by simp) this.symm
 ·rcases hmem b hb1 with h' | h'<;>rcases hmem b' hb2 with h'' | h''
  ·exact h6 b h' b' h'' e
  ·rw[h'',hri]at e;exact(h4 b h' i.c hic e).elim
  ·rw[h',hri]at e;exact(h4 b' h'' i.c hic e.symm).elim
  ·rw[h',h'']
theorem Frs.fresh (h:Frs f env (.mk i k n r u ks ns)):∀x∈env.map (qQl f),x.id≠f i.c:=by intro x hx;obtain⟨b,hb,rfl⟩:=jAn.1 hx;exact h.new b hb i.c (by simp[tmps])
theorem Frs.kids (h:Frs f env (.mk i k n r u ks ns)):(ks.map (qK2 f)).length≤32768:=by have h1:=h.len;have h2:=zN1 ks;simp only[tmps,jA7]at h1;rw[jB2];omega
end
def qBO (P:Prg)(hs:List Hd):Prop:=∀(k:Nat) (h:k<hs.length),∃d,qQ P.defs hs[k].id=some d∧d.hd=hs[k]
theorem zG8:∀{ds:List Dfn} (_:ds.Pairwise fun a b=>a.id≠b.id) {k:Nat} (hk:k<ds.length),qQ ds ds[k].id=some ds[k]
 | d::ds,h,0,_=>by rw[zHv]; simp
 | d::ds,h,k+1,hk=>by
  rw[jBq]at h;have hk':k<ds.length:=by simpa using hk
  rw[zHv];have:=h.1 ds[k] (jA3 hk');simp only[jDc];rw[if_neg this];exact zG8 h.2 hk'
structure Fit (P:Prg)(hs:List Hd):Prop where
 heads:P.defs.map Dfn.hd=hs
 len8:P.defs.length≤100
 nd:P.defs.Pairwise fun a b=>a.id≠b.id
 slots:∀d∈P.defs,1≤d.slots.length∧d.slots.length≤6∧(d.kind=0∨d.kind=1→d.slots.length≤3)∧(d.slots.Pairwise fun a b=>a.id≠b.id)∧∀s∈d.slots,TyOk hs 4 s.typ
 kinds:∀d∈P.defs,0≤d.kind∧d.kind≤5
 bods:zT7 P
theorem Fit.hd {P:Prg}{hs:List Hd}(h:Fit P hs):qBO P hs:=fun k hk=>by
 have hk':k<P.defs.length:=by rw[←h.heads]at hk; simpa using hk
 have e:hs[k]=P.defs[k].hd:=by simp[←h.heads]
 refine⟨P.defs[k],?_,e.symm⟩;rw[e];exact zG8 h.nd hk'
theorem zAd {ds:List Dfn}{r:Id}{d:Dfn}(h:qQ ds r=some d):d∈ds∧d.id=r:=⟨jDj h,by simpa using jDa h⟩
section
variable {l:List Int}{mods:Int}(hl:∀x∈l,w64 x=x)
include hl
end
theorem TyOk.valid {P:Prg}{hs:List Hd}(hh:qBO P hs){r:Nat}{t:Typ}(h:TyOk hs r t):∀n,r<n→jN P n t=true:=by
 induction h with
 | int r=>intro n hn; obtain⟨m,rfl⟩:∃m,n=m+1:=⟨n-1,by omega⟩; simp[jN]
 | bool r=>intro n hn; obtain⟨m,rfl⟩:∃m,n=m+1:=⟨n-1,by omega⟩; simp[jN]
 | list r t h ih =>
  intro n hn;obtain⟨m,rfl⟩:∃m,n=m+1:=⟨n-1,by omega⟩;simp[jN,ih m (by omega)]
 | dfn r k h h1 h2 h3 h4 ih =>
  intro n hn;obtain⟨m,rfl⟩:∃m,n=m+1:=⟨n-1,by omega⟩;obtain⟨d,hd,hhd⟩:=hh k h;have e1:d.kind=hs[k].kind:=congrArg Hd.kind hhd;simp[jN,zDH,hd,e1];omega
theorem TyOk.validT {P:Prg}{hs:List Hd}(hh:qBO P hs){r:Nat}{t:Typ}(h:TyOk hs r t)(hr:r<24):validT P t=true:=h.valid hh 24 hr
theorem Fit.at_ {P:Prg}{hs:List Hd}(h:Fit P hs)(k:Nat)(hk:k<hs.length):(dfn P hs[k].id).hd=hs[k]∧dfn P hs[k].id∈P.defs:=by
 obtain⟨d,hd,hhd⟩:=h.hd k hk;have:dfn P hs[k].id=d:=by simp[dfn,hd]
 rw[this];exact⟨hhd,(zAd hd).1⟩
theorem zZP {P:Prg}{hs:List Hd}(hf:Fit P hs){r:Nat}{t:Typ}(h:TyOk hs r t):r<24→∀n,r<n→Wf P n t:=by
 induction h with
 | int r=>intro hr n hn; obtain⟨m,rfl⟩:∃m,n=m+1:=⟨n-1,by omega⟩; exact⟨(TyOk.int r).validT hf.hd hr,.inl rfl⟩
 | bool r=>intro hr n hn; obtain⟨m,rfl⟩:∃m,n=m+1:=⟨n-1,by omega⟩; exact⟨(TyOk.bool r).validT hf.hd hr,.inr (.inl rfl)⟩
 | list r t h ih=>intro hr n hn; obtain⟨m,rfl⟩:∃m,n=m+1:=⟨n-1,by omega⟩; exact⟨(TyOk.list r t h).validT hf.hd hr,.inr (.inr (.inl ⟨rfl,t,rfl,ih (by omega) m (by omega)⟩))⟩
 | dfn r k h h1 h2 h3 h4 ih =>
  intro hr n hn;obtain⟨m,rfl⟩:∃m,n=m+1:=⟨n-1,by omega⟩;obtain⟨hd,hdm⟩:=hf.at_ k h;have e1:(dfn P hs[k].id).kind=hs[k].kind:=congrArg Hd.kind hd;have e2:(dfn P hs[k].id).slots=hs[k].slots:=congrArg Hd.slots hd;have hs':=hf.slots _ hdm;have hkd:hs[k].kind=0∨hs[k].kind=1:=by omega
  refine⟨(TyOk.dfn r k h h1 h2 h3 h4).validT hf.hd hr,.inr (.inr (.inr ⟨rfl,?_⟩))⟩;simp only[Typ.id_mk];refine⟨by rw[e1]; exact hkd,hs'.1,hs'.2.2.1 (by rw[e1]; exact hkd),fun s hs''=>?_⟩;rw[e2]at hs'';exact ih s hs'' (by omega) m (by omega)
theorem zZQ {P:Prg}{hs:List Hd}(hf:Fit P hs){r:Nat}{t:Typ}(h:TyOk hs r t):r<24→∀n,r<n→Wz P n t:=by
 induction h with
 | int r=>intro hr n hn; obtain⟨m,rfl⟩:∃m,n=m+1:=⟨n-1,by omega⟩; exact⟨(TyOk.int r).validT hf.hd hr,.inl rfl⟩
 | bool r=>intro hr n hn; obtain⟨m,rfl⟩:∃m,n=m+1:=⟨n-1,by omega⟩; exact⟨(TyOk.bool r).validT hf.hd hr,.inr (.inl rfl)⟩
 | list r t h ih=>intro hr n hn; obtain⟨m,rfl⟩:∃m,n=m+1:=⟨n-1,by omega⟩; exact⟨(TyOk.list r t h).validT hf.hd hr,.inr (.inr (.inl rfl))⟩
 | dfn r k h h1 h2 h3 h4 ih =>
  intro hr n hn;obtain⟨m,rfl⟩:∃m,n=m+1:=⟨n-1,by omega⟩;obtain⟨hd,hdm⟩:=hf.at_ k h;have e1:(dfn P hs[k].id).kind=hs[k].kind:=congrArg Hd.kind hd;have e2:(dfn P hs[k].id).slots=hs[k].slots:=congrArg Hd.slots hd;have hs':=hf.slots _ hdm;have hkd:hs[k].kind=0∨hs[k].kind=1:=by omega
  refine⟨(TyOk.dfn r k h h1 h2 h3 h4).validT hf.hd hr,.inr (.inr (.inr ⟨rfl,?_⟩))⟩;simp only[Typ.id_mk];refine⟨by rw[e1]; exact hkd,hs'.1,hs'.2.2.1 (by rw[e1]; exact hkd),fun s hs''=>?_⟩;rw[e2]at hs'';exact ih s hs'' (by omega) m (by omega)
theorem zD6 {P:Prg}:∀{ts:List Typ} {vs:List Val},zAA P ts vs=true→∀(j:Nat) (h1:j<ts.length) (h2:j<vs.length),yX P ts[j] vs[j]=true
 | t::ts,v::vs,h,j,h1,h2=>by
  rw[zAA,jA4]at h;cases j with
  | zero=>exact h.1
  | succ j=>exact zD6 h.2 j (by simpa using h1) (by simpa using h2)
theorem zNQ {P:Prg}{hs:List Hd}(hf:Fit P hs){r:Nat}{t:Typ}(h:TyOk hs r t):∀v,yX P t v=true→TyV P t v:=by
 induction h with
 | int r =>
  intro v hv;rw[zAf]at hv;simp at hv;obtain⟨_,⟨⟨h1,h2⟩,h3⟩,h4⟩:=hv;obtain⟨k,n,l⟩:=v;simp only[Val.k,Val.n,Val.kids]at h1 h2 h3 h4;subst h1 h2;exact .int n h3 h4
 | bool r =>
  intro v hv;rw[zAf]at hv;simp at hv;obtain⟨_,⟨h1,h2⟩,h3⟩:=hv;obtain⟨k,n,l⟩:=v;simp only[Val.k,Val.n,Val.kids]at h1 h2 h3;subst h1 h2;exact .bool n h3
 | list r t h ih =>
  intro v hv;rw[zAf]at hv;simp at hv;obtain⟨_,⟨h1,h2⟩,h3⟩:=hv;obtain⟨k,n,l⟩:=v;simp only[Val.k,Val.n,Val.kids]at h1 h2 h3;subst h1 h2;exact .list _ _ fun x hx=>ih x (h3 x hx)
 | dfn r k h h1 h2 h3 h4 ih =>
  intro v hv;obtain⟨d,hd,hhd⟩:=hf.hd k h;have e1:d.kind=hs[k].kind:=congrArg Hd.kind hhd;have e2:d.slots=hs[k].slots:=congrArg Hd.slots hhd;have ed:dfn P hs[k].id=d:=by simp[dfn,hd]
  rw[zAf]at hv;simp only[Typ.k_mk,Typ.id_mk,ed]at hv;obtain⟨kk,n,l⟩:=v;by_cases hk:d.kind=1
  ·simp[hk,Val.k,Val.n,Val.kids]at hv;obtain⟨_,⟨⟨⟨g1,g2⟩,g3⟩,g4⟩,g5⟩:=hv;replace g1:=of_decide_eq_true g1;replace g2:=of_decide_eq_true g2;replace g3:=of_decide_eq_true g3;replace g4:=of_decide_eq_true g4;obtain⟨x,rfl⟩:=List.length_eq_one_iff.1 g4;obtain⟨j,rfl⟩:∃j:Nat,n=j:=⟨n.toNat,by omega⟩;have hj:j<d.slots.length:=by omega
   rw[jCd,jA2 hj,jCx,zMH]at g5;subst g1;exact .case _ d j x hd hk hj (ih d.slots[j] (by rw[←e2]; exact jA3 hj) x g5)
  ·simp[hk,Val.k,Val.n,Val.kids]at hv;obtain⟨_,⟨⟨g1,g2⟩,g3⟩,g4⟩:=hv;replace g1:=of_decide_eq_true g1;replace g2:=of_decide_eq_true g2;replace g3:=of_decide_eq_true g3;subst g1 g2;refine .record _ d l hd (by omega) g3 fun j hj=>?_
   have hjd:j<d.slots.length:=by omega
   have:=zD6 g4 j (by simpa using hjd) hj;rw[jBn]at this;exact ih d.slots[j] (by rw[←e2]; exact jA3 hjd) l[j] this
structure InvX (I:XS→Prop):Prop where
 tick:∀e s,I s→¬s.fuel≤0→I (zAF e s)
 dfn:∀(d:Id) s,I s→I {s with ds:=s.ds++[d]}
 fail:∀(x:Int) s,I s→I {s with fail:=x}
section
variable {p:Prg}{ev:Evl}{I:XS→Prop}
theorem zFL (h:∀e V s,I s→I (ev e V s).2)(V:List EVar):∀(l:List Exp) (s:XS),I s→I (qX ev V l s).2
 | [],s,hs=>hs
 | e::l,s,hs=>by simp only[qX]; exact zFL h V l _ (h e V s hs)
theorem zGA (h:∀e V s,I s→I (ev e V s).2)(V:List EVar)(i:Id)(b:Exp):∀(l:List Val) (r:Val×XS),I r.2→I (yL ev V i b l r).2
 | [],r,hs=>hs
 | e::l,r,hs=>by simp only[yL]; exact zGA h V i b l _ (h _ _ _ hs)
theorem zG2 (hI:InvX I)(h:∀e V s,I s→I (ev e V s).2)(d:Dfn)(vs:List Val)(s:XS)(hs:I s):I (zBv ev d vs s).2:=by
 unfold zBv;split
 ·exact hs
 ·exact h _ _ _ (hI.dfn d.id s hs)
theorem zOV (h:∀e V s,I s→I (ev e V s).2)(e:Exp)(V:List EVar)(s:XS)(hs:I s):I (yY ev e V s).2:=by
 unfold yY;have h0:=h (e.kids.headD .zero) V s hs;generalize ev (e.kids.headD .zero) V s=r at *
 repeat' split
 all_goals first
  | exact h0
  | exact h _ _ _ h0
  | exact zGA h _ _ _ _ _ (h _ _ _ h0)
theorem zSt (hI:InvX I)(h:∀e V s,I s→I (ev e V s).2)(fl:Nat)(e:Exp)(V:List EVar)(s:XS)(hs:I s):I (qN p fl ev e V s).2:=by
 unfold qN;have h0:=zFL h V e.kids s hs;generalize qX ev V e.kids s=r at *
 repeat' split
 all_goals first
  | exact hs
  | exact h0
  | exact zOV h _ _ _ hs
  | exact zG2 hI h _ _ _ h0
theorem zEB (hI:InvX I)(fl:Nat):∀(n:Nat) e V s,I s→I (qH p fl n e V s).2
 | 0,e,V,s,hs=>by
  rw[qH];split
  ·exact hs
  ·exact hI.fail _ _ hs
 | n+1,e,V,s,hs=>by
  rw[qH];split
  ·exact hs
  ·split
   ·exact hI.fail _ _ hs
   ·rename_i h;have:=zSt (p:=p) hI (zEB hI fl n) fl e V _ (hI.tick e s hs h);show I (zCF _);unfold zCF;split
    ·exact hI.fail _ _ this
    ·exact this
def Fu (F:Int)(s:XS):Prop:=0≤s.fuel∧s.fuel≤F
theorem zLd (F:Int):InvX (Fu F) :=
 ⟨fun e s h hf=>⟨by unfold zAF; dsimp only; omega,by unfold zAF; have:=h.2; dsimp only; omega⟩,fun d s h=>h,fun x s h=>h⟩
theorem zK1 (h:zDS ev)(V:List EVar):∀(l:List Exp) (s:XS) (i k:Nat),i≤k→(qX ev V (l.take k) s).2.fail=0→(qX ev V (l.take i) s).2.fail=0
 | [],s,i,k,_,h0=>by simpa using h0
 | e::l,s,0,k,_,h0=>by
  by_cases hs:s.fail=0
  ·simpa [qX] using hs
  ·rw[zEy h V _ _ hs]at h0;exact(hs h0).elim
 | e::l,s,i+1,0,hik,h0=>by omega
 | e::l,s,i+1,k+1,hik,h0=>by simp only[jC6,qX]at h0 ⊢;exact zK1 h V l _ i k (by omega) h0
theorem zK0 (h:zDS ev)(V:List EVar):∀(l:List Exp) (s:XS),s.fail=0→(qX ev V l s).2.fail≠0 →
 ∃(k:Nat) (hk:k<l.length),(qX ev V (l.take k) s).2.fail=0∧(ev l[k] V (qX ev V (l.take k) s).2).2=(qX ev V l s).2
 | [],s,hs,hf=>(hf hs).elim
 | e::l,s,hs,hf=>by
  by_cases h0:(ev e V s).2.fail=0
  ·simp only[qX]at hf;obtain⟨k,hk,h1,h2⟩:=zK0 h V l _ h0 hf;exact⟨k+1,by simpa using hk,by simpa only[jC6,qX] using h1,by simpa only[jC6,qX,jDc] using h2⟩
  ·refine⟨0,by simp,hs,?_⟩;simp only[List.take_zero,qX,jDi];rw[zEy h V l _ h0]
theorem zIX (h:zDS ev)(V:List EVar)(x:Id)(b:Exp):∀(l:List Val) (r:Val×XS) (i k:Nat),i≤k→(yL ev V x b (l.take k) r).2.fail=0→(yL ev V x b (l.take i) r).2.fail=0
 | [],r,i,k,_,h0=>by simpa using h0
 | v::l,r,0,k,_,h0=>by
  by_cases hs:r.2.fail=0
  ·simpa [yL] using hs
  ·rw[zDG h V _ _ _ _ hs]at h0;exact(hs h0).elim
 | v::l,r,i+1,0,hik,h0=>by omega
 | v::l,r,i+1,k+1,hik,h0=>by simp only[jC6,yL]at h0 ⊢;exact zIX h V x b l _ i k (by omega) h0
theorem zJI (h:zDS ev)(V:List EVar)(x:Id)(b:Exp):∀(l:List Val) (r:Val×XS),r.2.fail=0→(yL ev V x b l r).2.fail≠0 →
 ∃(k:Nat) (_:k<l.length),(yL ev V x b (l.take k) r).2.fail=0∧(yL ev V x b (l.take (k+1)) r).2=(yL ev V x b l r).2
 | [],r,hs,hf=>(hf hs).elim
 | v::l,r,hs,hf=>by
  simp only[yL]at hf;by_cases h0:(ev b (V++[⟨x,0,v⟩]++[⟨x,1,r.1⟩]) r.2).2.fail=0
  ·obtain⟨k,hk,h1,h2⟩:=zJI h V x b l _ h0 hf;exact⟨k+1,by simpa using hk,by simpa only[jC6,yL] using h1,by simpa only[jC6,yL] using h2⟩
  ·refine⟨0,by simp,hs,?_⟩;simp only[jAt,jC6,List.take_zero,yL];rw[zDG h V _ _ _ _ h0]
end
def qCa:List ByteArray:=[⟨#[65]⟩,⟨#[66]⟩,⟨#[67]⟩,⟨#[68]⟩]
def xyT:List ByteArray:=[⟨#[120]⟩,⟨#[121]⟩]
def cT:List ByteArray:=[⟨#[99,48]⟩,⟨#[99,49]⟩,⟨#[99,50]⟩,⟨#[99,51]⟩,⟨#[99,52]⟩,⟨#[99,53]⟩,⟨#[99,54]⟩]
section
variable (l:List Int)
def zMR (i k:Nat)(m:Gm):Slt:=⟨idR ((20+2*i+k:Nat):Int),xyT.getD k ⟨#[]⟩,tK (gN l m 3),0,k⟩
def zAp (i:Nat):Nat→Gm→List Slt×Gm
 | 0,m=>([],m)
 | n+1,m=>((zAp i n m).1++[zMR l i n (zAp i n m).2],(zAp i n m).2.tick)
def zB6 (m:Gm):Nat:=(1+gN l m 2).toNat
def zFC (i:Nat)(m:Gm):Dfn×Gm:=(⟨idR ((1+i:Nat):Int),0,idR 0,qCa.getD i ⟨#[]⟩,(zAp l i (zB6 l m) m.tick).1,.zero,.zero,0,[]⟩,(zAp l i (zB6 l m) m.tick).2)
def yC:Nat→Gm→List Dfn×Gm
 | 0,m=>([],m)
 | n+1,m=>((yC n m).1++[(zFC l n (yC n m).2).1],(zFC l n (yC n m).2).2)
def zBE (many:Nat)(m:Gm):Nat×Nat×Gm :=
 if gN l m many=gN l m.tick many then
  (if 0<gN l m.tick.tick 3 then ((gN l m many).toNat,((gN l m many).toNat+1) % many,m.tick.tick.tick) else ((gN l m many).toNat,(gN l m many).toNat,m.tick.tick.tick))
 else ((gN l m many).toNat,(gN l m.tick many).toNat,m.tick.tick)
def zBV (a b:Dfn)(s:Id)(m:Gm):Exp×Gm :=
 if gN l (zFk l b a s m).2 5=1 then
  yP (zFk l b a s (zAM l a s 1 1 (zFk l b a s m).2.tick).2).2 5 0 Id.zero [(zAM l a s 1 1 (zFk l b a s m).2.tick).1,(zFk l b a s m).1,(zFk l b a s (zAM l a s 1 1 (zFk l b a s m).2.tick).2).1]
 else ((zFk l b a s m).1,(zFk l b a s m).2.tick)
def zP0 (R:List Dfn)(x y:Nat)(s:Id)(m:Gm):Exp×Gm :=
 if x=y then
  (if gN l m 2=1 then yP m.tick 2 0 s [] else zBV l (R.getD x .zero) (R.getD y .zero) s m.tick)
 else zBV l (R.getD x .zero) (R.getD y .zero) s m
def zIf (R:List Dfn)(i:Nat)(m:Gm):Dfn×Gm :=
 (⟨idR ((6+i:Nat):Int),5,idR 0,cT.getD i ⟨#[]⟩,[⟨idR ((30+i:Nat):Int),⟨#[111,108,100]⟩,jP (R.getD (zBE l R.length m).1 .zero).id,0,0⟩],jP (R.getD (zBE l R.length m).2.1 .zero).id,
  (zP0 l R (zBE l R.length m).1 (zBE l R.length m).2.1 (idR ((30+i:Nat):Int)) (zBE l R.length m).2.2).1,0,[]⟩,
  (zP0 l R (zBE l R.length m).1 (zBE l R.length m).2.1 (idR ((30+i:Nat):Int)) (zBE l R.length m).2.2).2)
def zAo (R:List Dfn):Nat→Gm→List Dfn×Gm
 | 0,m=>([],m)
 | n+1,m=>((zAo R n m).1++[(zIf l R n (zAo R n m).2).1],(zIf l R n (zAo R n m).2).2)
def yB:Nat:=(2+atV l 0 3).toNat
def zAg:List Dfn:=(yC l (yB l) ⟨1,40⟩).1++(zAo l (yC l (yB l) ⟨1,40⟩).1 (gN l (yC l (yB l) ⟨1,40⟩).2 8).toNat (yC l (yB l) ⟨1,40⟩).2.tick).1
def jQ:Prg:=⟨[⟨idR 0,⟨#[99,111,114,101]⟩,[],(zAg l).map (·.id)⟩],zAg l⟩
theorem zCP (i:Nat)(m:Gm):∀n,(zAp l i n m).1.length=n
 | 0=>rfl
 | n+1=>by simp[zAp,zCP i m n]
theorem zFm (i:Nat)(m:Gm):∀(n k:Nat) (h:k<(zAp l i n m).1.length),∃m',(zAp l i n m).1[k]=zMR l i k m'
 | 0,k,h=>by simp[zAp]at h
 | n+1,k,h=>by
  have hl:=zCP l i m n;by_cases hk:k<n
  ·obtain⟨m',h'⟩:=zFm i m n k (by omega);exact⟨m',by simp only[zAp]; rw[jBt (by omega)]; exact h'⟩
  ·have hkn:k=n:=by rw[zCP]at h; omega
   subst hkn;exact⟨(zAp l i k m).2,by simp only[zAp]; rw[jCw (by omega)]; simp[hl]⟩
theorem zCg (m:Gm):∀n,(yC l n m).1.length=n
 | 0=>rfl
 | n+1=>by simp[yC,zCg m n]
theorem zMQ (m:Gm):∀(n k:Nat) (h:k<(yC l n m).1.length),∃m',(yC l n m).1[k]=(zFC l k m').1
 | 0,k,h=>by simp[yC]at h
 | n+1,k,h=>by
  have hl:=zCg l m n;by_cases hk:k<n
  ·obtain⟨m',h'⟩:=zMQ m n k (by omega);exact⟨m',by simp only[yC]; rw[jBt (by omega)]; exact h'⟩
  ·have hkn:k=n:=by rw[zCg]at h; omega
   subst hkn;exact⟨(yC l k m).2,by simp only[yC]; rw[jCw (by omega)]; simp[hl]⟩
theorem zCO (R:List Dfn)(m:Gm):∀n,(zAo l R n m).1.length=n
 | 0=>rfl
 | n+1=>by simp[zAo,zCO R m n]
theorem zLe (R:List Dfn)(m:Gm):∀(n k:Nat) (h:k<(zAo l R n m).1.length),∃m',(zAo l R n m).1[k]=(zIf l R k m').1
 | 0,k,h=>by simp[zAo]at h
 | n+1,k,h=>by
  have hl:=zCO l R m n;by_cases hk:k<n
  ·obtain⟨m',h'⟩:=zLe R m n k (by omega);exact⟨m',by simp only[zAo]; rw[jBt (by omega)]; exact h'⟩
  ·have hkn:k=n:=by rw[zCO]at h; omega
   subst hkn;exact⟨(zAo l R k m).2,by simp only[zAo]; rw[jCw (by omega)]; simp[hl]⟩
end
theorem zZL (t:Int):tK t=zAU∨tK t=zAc:=by
 unfold tK;split
 ·exact .inr rfl
 ·exact .inl rfl
theorem zNC {α : Type}{A B C:List α}(e:C=A++B)(k:Nat)(h:k<C.length):(∃h':k<A.length,C[k]=A[k])∨(A.length≤k∧∃h':k-A.length<B.length,C[k]=B[k-A.length]):=by
 subst e;by_cases hk:k<A.length
 ·exact .inl ⟨hk,jBt hk⟩
 ·exact .inr ⟨by omega,by rw[jA7]at h; omega,jCw (by omega)⟩
theorem zAP {α : Type}{L:List α}{i:Nat}(h:i<L.length)(z : α):L.getD i z=L[i]:=by rw[jBk,jA2 h,jBg]
section
variable {l:List Int}(hl:∀x∈l,w64 x=x)
include hl
theorem zFi (m:Gm):1≤zB6 l m∧zB6 l m≤2:=by have h:0≤gN l m 2∧gN l m 2<2:=zAY hl (by omega);unfold zB6;omega
theorem zEe:2≤yB l∧yB l≤4:=by have h:0≤atV l 0 3∧atV l 0 3<3:=zAY hl (by omega);unfold yB;omega
theorem zJK (many:Nat)(hm:0<many)(m:Gm):(zBE l many m).1<many∧(zBE l many m).2.1<many:=by
 have h1:0≤gN l m many∧gN l m many<many:=zAY hl (by omega);have h2:0≤gN l m.tick many∧gN l m.tick many<many:=zAY hl (by omega);have h3:=Nat.mod_lt ((gN l m many).toNat+1) hm;unfold zBE;split
 ·split
  ·exact⟨by simp only; omega,h3⟩
  ·exact⟨by simp only; omega,by simp only; omega⟩
 ·exact⟨by simp only; omega,by simp only; omega⟩
theorem zML {p:Prg}{a b:Dfn}(ha:Flat p a)(hb:Flat p b)(s:Id)(m:Gm):WF p [⟨s,0,jP a.id⟩] (zBV l a b s m).1 (jP b.id):=by
 unfold zBV;split
 ·exact .ite _ _ _ _ _ _ _ _ _ (zE5 hl ha s 1 _ (.inr rfl)) (zNW hl ha s hb _) (zNW hl ha s hb _)
 ·exact zNW hl ha s hb _
theorem zP2 {p:Prg}{R:List Dfn}(hR:∀a∈R,Flat p a){x y:Nat}(hx:x<R.length)(hy:y<R.length)(s:Id)(m:Gm):WF p [⟨s,0,jP (R.getD x .zero).id⟩] (zP0 l R x y s m).1 (jP (R.getD y .zero).id):=by
 have ha:Flat p (R.getD x .zero):=by rw[zAP hx]; exact hR _ (jA3 hx)
 have hb:Flat p (R.getD y .zero):=by rw[zAP hy]; exact hR _ (jA3 hy)
 unfold zP0;split
 ·split
  ·rename_i e _;subst e;exact .var _ _ _ _ _ _ (by simp[zC7]) (.inr (.inr ⟨_,ha,rfl⟩))
  ·exact zML hl ha hb s _
 ·exact zML hl ha hb s _
theorem zMN:(zAg l).length≤11∧2≤(zAg l).length:=by have h1:=zEe hl;have h2:0≤gN l (yC l (yB l) ⟨1,40⟩).2 8∧gN l (yC l (yB l) ⟨1,40⟩).2 8<8:=zAY hl (by omega);unfold zAg;rw[jA7,zCg,zCO];omega
theorem zD8 (k:Nat)(h:k<(zAg l).length) :
 (k<yB l∧∃m,(zAg l)[k]=(zFC l k m).1)∨(yB l≤k∧k-yB l<7∧∃m,(zAg l)[k]=(zIf l (yC l (yB l) ⟨1,40⟩).1 (k-yB l) m).1):=by
 have h2:0≤gN l (yC l (yB l) ⟨1,40⟩).2 8∧gN l (yC l (yB l) ⟨1,40⟩).2 8<8:=zAY hl (by omega);have hlen:=zCg l ⟨1,40⟩ (yB l);rcases zNC (show zAg l=_++_ from rfl) k h with ⟨h',e⟩ | ⟨h',h'',e⟩
 ·obtain⟨m,hm⟩:=zMQ l ⟨1,40⟩ (yB l) k h';exact .inl ⟨by omega,m,e.trans hm⟩
 ·obtain⟨m,hm⟩:=zLe l (yC l (yB l) ⟨1,40⟩).1 (yC l (yB l) ⟨1,40⟩).2.tick (gN l (yC l (yB l) ⟨1,40⟩).2 8).toNat _ h'';have e2:=e.trans hm;rw[zCO]at h'';rw[hlen]at h' h'' e2;exact .inr ⟨h',by omega,m,e2⟩
theorem zP3 (k:Nat)(h:k<(zAg l).length):(zAg l)[k].id=idR (if k<yB l then ((1+k:Nat):Int) else ((6+(k-yB l):Nat):Int)):=by
 rcases zD8 hl k h with ⟨hk,m,e⟩ | ⟨hk,_,m,e⟩
 ·rw[e,if_pos hk]; rfl
 ·rw[e,if_neg (by omega)]; rfl
theorem zLf:(zAg l).Pairwise fun a b=>a.id≠b.id:=by have h1:=zEe hl;rw[jCn];intro i j hi hj hij e;have h11:=zMN hl;rw[zP3 hl i hi,zP3 hl j hj]at e;have:=zSW (by split<;>omega) (by split<;>omega) (by split<;>omega) (by split<;>omega) e;split at this<;>split at this<;>omega
theorem zIY {k:Nat}(hk:k<yB l)(h:k<(zAg l).length):Flat (jQ l) (zAg l)[k]:=by
 rcases zD8 hl k h with ⟨_,m,e⟩ | ⟨hk',_⟩
 ·have h2:=zFi hl m;have hf:=zG8 (zLf hl) h;have h3:(zAg l)[k].kind=0∧(zAg l)[k].slots=(zAp l k (zB6 l m) m.tick).1:=by rw[e]; exact⟨rfl,rfl⟩
  refine⟨hf,h3.1,fun s hs=>?_,?_⟩
  ·rw[h3.2]at hs;obtain⟨j,hj,rfl⟩:=jAo hs;obtain⟨m',e'⟩:=zFm l k m.tick (zB6 l m) j hj;rw[e'];exact zZL _
  ·rw[h3.2,zCP]; omega
 ·omega
theorem zFl:∀a∈(yC l (yB l) ⟨1,40⟩).1,Flat (jQ l) a:=by
 intro a ha;obtain⟨k,hk,rfl⟩:=jAo ha;have hkm:k<yB l:=by rw[zCg]at hk; exact hk
 have hkd:k<(zAg l).length:=by unfold zAg; rw[jA7]; omega
 have:=zIY hl hkm hkd;rcases zNC (show zAg l=(yC l (yB l) ⟨1,40⟩).1++_ from rfl) k hkd with ⟨h',e⟩ | ⟨h',h'',e⟩
 ·rw[e]at this; exact this
 ·omega
theorem zXV {j:Nat}(hj:j<yB l)(h:j<(zAg l).length):TyOk ((zAg l).map Dfn.hd) 4 (jP (zAg l)[j].id):=by
 have h4:=zIY hl hj h;have hnd:=zLf hl;rw[jCn]at hnd;have e:((zAg l).map Dfn.hd)[j]'(by simpa using h)=(zAg l)[j].hd:=by simp
 have hid:(zAg l)[j].id=(((zAg l).map Dfn.hd)[j]'(by simpa using h)).id:=by rw[e]; rfl
 rw[hid];refine .dfn 3 j (by simpa using h) (fun i hi=>?_) (.inl (by rw[e]; exact h4.kind)) (by rw[e]; exact h4.few) fun s hs=>?_
 ·have:=hnd i j (by omega) h hi
  simpa [Dfn.hd] using this
 ·rw[e]at hs;rcases h4.flat s hs with e | e<;>rw[e]
  ·exact .int _
  ·exact .bool _
theorem zE6:Fit (jQ l) ((zAg l).map Dfn.hd):=by
 have h11:=zMN hl;have hm:=zEe hl;have hlen:=zCg l ⟨1,40⟩ (yB l);have hend:=fun m=>zJK hl (yC l (yB l) ⟨1,40⟩).1.length (by omega) m
 have hdef:∀j (hj:j<yB l),∃hj':j<(zAg l).length,(yC l (yB l) ⟨1,40⟩).1.getD j .zero=(zAg l)[j]:=by
  intro j hj;have hj':j<(zAg l).length:=by unfold zAg; rw[jA7]; omega
  refine⟨hj',?_⟩;rw[zAP (by omega)];rcases zNC (show zAg l=(yC l (yB l) ⟨1,40⟩).1++_ from rfl) j hj' with ⟨h',e⟩ | ⟨h',h'',e⟩
  ·exact e.symm
  ·omega
 refine⟨rfl,by show (zAg l).length≤100; omega,zLf hl,fun d hd=>?_,fun d hd=>?_,fun r d hd hb=>?_⟩
 ·change d∈zAg l at hd;obtain⟨k,hk,rfl⟩:=jAo hd;rcases zD8 hl k hk with ⟨_,m,e⟩ | ⟨hk',hk7,m,e⟩
  ·have h2:=zFi hl m;have h3:(zAg l)[k].slots=(zAp l k (zB6 l m) m.tick).1:=by rw[e]; rfl
   have h4:=zIY hl (by omega) hk;have h5:=zCP l k m.tick (zB6 l m);refine⟨by rw[h3]; omega,by rw[h3]; omega,fun _=>by rw[h3]; omega,?_,fun s hs=>?_⟩
   ·rw[h3,jCn];intro i j hi hj hij e;obtain⟨m1,e1⟩:=zFm l k m.tick (zB6 l m) i hi;obtain⟨m2,e2⟩:=zFm l k m.tick (zB6 l m) j hj;rw[e1,e2]at e;have:=zSW (by omega) (by omega) (by omega) (by omega) (show idR _=idR _ from e);omega
   ·rcases h4.flat s hs with e | e<;>rw[e]
    ·exact .int _
    ·exact .bool _
  ·obtain⟨hj,ej⟩:=hdef (zBE l (yC l (yB l) ⟨1,40⟩).1.length m).1 (by have:=(hend m).1; omega);have h3:(zAg l)[k].slots=[⟨idR ((30+(k-yB l):Nat):Int),⟨#[111,108,100]⟩,jP (zAg l)[(zBE l (yC l (yB l) ⟨1,40⟩).1.length m).1].id,0,0⟩]:=by rw[e,←ej]; rfl
   rw[h3];refine⟨by simp,by simp,fun _=>by simp,by simp,fun s hs=>?_⟩;rw[jAh]at hs;subst hs;exact zXV hl (by have:=(hend m).1; omega) hj
 ·change d∈zAg l at hd;obtain⟨k,hk,rfl⟩:=jAo hd;rcases zD8 hl k hk with ⟨_,m,e⟩ | ⟨hk',hk7,m,e⟩<;>(rw[e]; simp[zFC,zIf])
 ·obtain⟨hd1,rfl⟩:=zAd hd;change d∈zAg l at hd1;obtain⟨k,hk,rfl⟩:=jAo hd1;rcases zD8 hl k hk with ⟨_,m,e⟩ | ⟨hk',hk7,m,e⟩
  ·rw[e]at hb;simp[zHi,zFC]at hb
  ·rw[e];exact(zP2 hl (zFl hl) (hend m).1 (hend m).2 _ _).we
end
theorem zJ7:∀{l:List Val} {c:Nat},(∀v∈l,yV v≤c)→yI l≤c
 | [],c,_=>by simp[yI]
 | v::l,c,h=>by
  have h1:=h v (by simp);have h2:=zJ7 (l:=l) (c:=c) fun x hx=>h x (by simp[hx])
  simp only[yI];omega
inductive Nam:Typ→Id→Prop
 | here (t:Typ) (h:t.k=3):Nam t t.id
 | kid (t k:Typ) (x:Id) (h:k∈t.kids) (hx:Nam k x):Nam t x
inductive Rch (p:Prg)(T:Typ→Prop):Id→Prop
 | base (t:Typ) (x:Id) (ht:T t) (hx:Nam t x):Rch p T x
 | step (y:Id) (s:Slt) (x:Id) (hy:Rch p T y) (hs:s∈(dfn p y).slots) (hx:Nam s.typ x):Rch p T x
theorem Rch.mono {p:Prg}{T T':Typ→Prop}{x:Id}(h:Rch p T x)(hT:∀t,T t→T' t):Rch p T' x:=by
 induction h with
 | base t x ht hx=>exact .base t x (hT t ht) hx
 | step y s x _ hs hx ih=>exact .step y s x ih hs hx
theorem Rch.one {p:Prg}{T:Typ→Prop}{x:Id}(h:Rch p T x):∃t,T t∧Rch p (· = t) x:=by
 induction h with
 | base t x ht hx=>exact⟨t,ht,.base t x rfl hx⟩
 | step y s x _ hs hx ih =>
  obtain⟨t,ht,h⟩:=ih;exact⟨t,ht,.step y s x h hs hx⟩
def zLD (p:Prg):Nat→Typ→List Id→List Id
 | 0,_,L=>L
 | f+1,t,L=>if t.k=3∧t.id∉t.kids.foldl (fun L k=>zLD p f k L) L then (dfn p t.id).slots.foldl (fun L s=>zLD p f s.typ L) (t.kids.foldl (fun L k=>zLD p f k L) L++[t.id])
  else t.kids.foldl (fun L k=>zLD p f k L) L
structure Meets (p:Prg)(T:Typ→Prop)(L L':List Id):Prop where
 sub:∀x∈L,x∈L'
 all:∀t x,T t→Nam t x→x∈L'
 clo:∀x∈L',x∉L→∀s∈(dfn p x).slots,∀y,Nam s.typ y→y∈L'
 snd:∀x∈L',x∈L∨Rch p T x
theorem Meets.trans {p:Prg}{T T':Typ→Prop}{L L' L'':List Id}(h:Meets p T L L')(k:Meets p T' L' L''):Meets p (fun t=>T t∨T' t) L L'':=by
 refine⟨fun x hx=>k.sub x (h.sub x hx),fun t x ht hx=>?_,fun x hx hn s hs y hy=>?_,fun x hx=>?_⟩
 ·rcases ht with ht | ht
  ·exact k.sub x (h.all t x ht hx)
  ·exact k.all t x ht hx
 ·by_cases hx':x∈L'
  ·exact k.sub y (h.clo x hx' hn s hs y hy)
  ·exact k.clo x hx hx' s hs y hy
 ·rcases k.snd x hx with hx | hx
  ·rcases h.snd x hx with hx | hx
   ·exact .inl hx
   ·exact .inr (hx.mono fun _ h=>.inl h)
  ·exact .inr (hx.mono fun _ h=>.inr h)
theorem Meets.congr {p:Prg}{T T':Typ→Prop}{L L':List Id}(h:Meets p T L L')(hT:∀t,T t↔T' t):Meets p T' L L' :=
 ⟨h.sub,fun t x ht hx=>h.all t x ((hT t).2 ht) hx,h.clo,fun x hx=>(h.snd x hx).imp (fun h=>h) fun h=>h.mono fun t=>(hT t).1⟩
def zRW (p:Prg)(ss:List Slt)(L:List Id):List Id:=ss.foldl (fun L s=>zLD p 10 s.typ L) L
mutual
def zQc:Typ→List Id→List Id
 | .mk k x l,L=>zLz l (if k=3 then zDj L x else L)
def zLz:List Typ→List Id→List Id
 | [],L=>L
 | t::l,L=>zLz l (zQc t L)
end
mutual
theorem zQd:∀(t:Typ) (L:List Id) (x:Id),x∈zQc t L↔x∈L∨Nam t x
 | .mk k y l,L,x=>by
  rw[zQc,zNh l];constructor
  ·rintro(h | ⟨t,ht,h⟩)
   ·split at h
    ·rename_i hk;rcases zE7.1 h with h | h
     ·exact .inl h
     ·subst h; exact .inr (.here (.mk k x l) hk)
    ·exact .inl h
   ·exact .inr (.kid (.mk k y l) t x ht h)
  ·rintro(h | h)
   ·left;split
    ·exact zE7.2 (.inl h)
    ·exact h
   ·generalize hT:Typ.mk k y l=T at h;cases h with
    | here _ h =>
     subst hT;left;show y∈_;rw[if_pos (show k=3 from h)];exact zE7.2 (.inr rfl)
    | kid _ t _ ht hx =>
     subst hT;exact .inr ⟨t,ht,hx⟩
theorem zNh:∀(l:List Typ) (L:List Id) (x:Id),x∈zLz l L↔x∈L∨∃t∈l,Nam t x
 | [],L,x=>by simp[zLz]
 | t::l,L,x=>by rw[zLz,zNh l,zQd t];simp only[jA5,exists_eq_or_imp,or_assoc]
end
mutual
theorem zTk:∀(t:Typ) (L:List Id),SS L→SS (zQc t L)
 | .mk k y l,L,h=>by
  rw[zQc];refine zQe l _ ?_;split
  ·exact zOd h
  ·exact h
theorem zQe:∀(l:List Typ) (L:List Id),SS L→SS (zLz l L)
 | [],L,h=>h
 | t::l,L,h=>by rw[zLz]; exact zQe l _ (zTk t L h)
end
def namS (ss:List Slt)(L:List Id):List Id:=ss.foldl (fun L s=>zQc s.typ L) L
theorem zKZ {p:Prg}{t:Typ}{v:Val}(ht:zOC p t)(h:TyV p t v):zW v≤7∧yV v≤2:=by
 have one:∀{u:Typ} {w:Val},u=zAU∨u=zAc→TyV p u w→zW w≤1∧yV w≤1:=by
  rintro u w (rfl | rfl) hw
  ·obtain⟨n,rfl,_⟩:=hw.int_inv;simp[zW,qS,yV,yI]
  ·obtain⟨n,rfl,_⟩:=hw.bool_inv;simp[zW,qS,yV,yI]
 rcases ht with ht | ht | ⟨d,hd,rfl⟩
 ·have:=one (.inl ht) h; omega
 ·have:=one (.inr ht) h; omega
 ·rcases h.def_inv hd.find with ⟨_,vs,hl,rfl,hk⟩ | ⟨h1,_⟩
  ·have h6:=hd.few;have hv:∀w∈vs,zW w≤1∧yV w≤1:=by intro w hw;obtain⟨j,hj,rfl⟩:=jAo hw;exact one (hd.flat _ (jA3 _)) (hk j hj)
   have s1:=zEN (c:=1) fun w hw=>(hv w hw).1
   have s2:=zJ7 (c:=1) fun w hw=>(hv w hw).2
   rw[zCm,zCf];simp only[Val.kids];omega
  ·have:=hd.kind;omega
theorem zW8 {p:Prg}{t:Typ}{v:Val}(ht:zOC p t)(h:TyV p t v):¬zHJ v:=by obtain⟨h1,h2⟩:=zKZ ht h;have e1:=zJt v (by omega);have e2:=zHl v (by omega);unfold zHJ;omega
def FlN (s:XS):Prop:=s.fail=0∨s.fail=zE1
section
variable {p:Prg}{ev:Evl}{B:List Bnd}{V:List EVar}
theorem zHG (hst:zDS ev):∀(l:List Exp) (s:XS),(∀e∈l,∀s,s.fail=0→FlN (ev e V s).2)→s.fail=0→FlN (qX ev V l s).2
 | [],s,_,hs=>.inl hs
 | e::l,s,h,hs=>by
  simp only[qX];rcases h e (by simp) s hs with h0 | h0
  ·exact zHG hst l _ (fun x hx=>h x (by simp[hx])) h0
  ·rw[zEy hst V l _ (by rw[h0]; decide)];exact .inr h0
theorem zNi (hp:zT7 p)(fl:Nat):∀(n:Nat) {e:Exp} {t:Typ} {s:XS},WF p B e t→EnvT p B V→s.fail=0→FlN (qH p fl n e V s).2
 | 0,e,t,s,_,_,hs=>by rw[qH,if_neg (by simp[hs])];exact .inr rfl
 | n+1,e,t,s,he,hV,hs=>by
  rw[qH,if_neg (by simp[hs])];split
  ·exact .inr rfl
  ·have hst:=zBn p fl n;have ih:=fun {e:Exp} {t:Typ} {s:XS} (h:WF p B e t) (h0:s.fail=0)=>zNi hp fl n h hV h0
   have hs':(zAF e s).fail=0:=hs;have hv:FlN (qN p fl (qH p fl n) e V (zAF e s)).2:=by
    generalize zAF e s=s' at *
    cases he with
    | int=>exact .inl hs'
    | bool=>exact .inl hs'
    | var=>exact .inl hs'
    | arith i m r u a b ns _ _ ha hb =>
     refine zHG hst _ _ (fun x hx s h0=>?_) hs';simp only[Exp.kids,jA5,jC5,or_false]at hx;rcases hx with rfl | rfl
     ·exact ih ha h0
     ·exact ih hb h0
    | andor i m r u a b ns _ ha hb =>
     refine zHG hst _ _ (fun x hx s h0=>?_) hs';simp only[Exp.kids,jA5,jC5,or_false]at hx;rcases hx with rfl | rfl
     ·exact ih ha h0
     ·exact ih hb h0
    | ite i m r u a b c ns _ ha hb hc =>
     show FlN (yY (qH p fl n) (.mk i 5 m r u [a,b,c] ns) V s').2;unfold yY;show FlN (if (qH p fl n a V s').2.fail≠0 then (vz,(qH p fl n a V s').2) else if (5:Int)=5 then qH p fl n ([a,b,c].getD (if (qH p fl n a V s').1.n=1 then 1 else 2) .zero) V (qH p fl n a V s').2 else _).2;rcases ih ha hs' with h1 | h1
     ·rw[if_neg (by simp[h1]),if_pos rfl];by_cases h2:(qH p fl n a V s').1.n=1
      ·rw[if_pos h2]; exact ih hb h1
      ·rw[if_neg h2]; exact ih hc h1
     ·rw[if_pos (by rw[h1]; decide)];exact .inr h1
    | record i m r u ks ns hn d hd hr hl hw =>
     refine zHG hst _ _ (fun x hx s h0=>?_) hs';obtain⟨j,hj,rfl⟩:=jAo hx;exact ih (hw j hj) h0
    | field i r u a ns d j hd hr hj ha =>
     show FlN (yY (qH p fl n) (.mk i 8 j r u [a] ns) V s').2;unfold yY;show FlN (if (qH p fl n a V s').2.fail≠0 then (vz,(qH p fl n a V s').2) else if (8:Int)=5 then _ else if (8:Int)=6 then _ else if (8:Int)=8 then (_,(qH p fl n a V s').2) else _).2;rcases ih ha hs' with h1 | h1
     ·rw[if_neg (by simp[h1]),if_neg (by decide),if_neg (by decide),if_pos rfl];exact .inl h1
     ·rw[if_pos (by rw[h1]; decide)];exact .inr h1
   show FlN (zCF _);unfold zCF;rcases hv with h0 | h0
   ·have hty:=zQC hp fl hst (zEC hp fl n) he.we hV h0;rw[if_neg fun h=>zW8 he.flat hty.1 h.2];exact .inl h0
   ·rw[if_neg fun h=>by rw[h0]at h; exact absurd h.1 (by decide)];exact .inr h0
end
end Go.Proofs.YtdnelmeboihpkaaGreatDoor
namespace Go.Proofs.YtdnelmeboihpkaaGreatDoor
open Go.Abs
def qDz (l:List Id):List (List Int×A):=l.map fun x=>(zHz x,.lit (.bool true))
@[simp] theorem qMH {rf:Bool→Nat→Nat→A}{g:Nat→Option Nat}(l:List Id):((qDz l).map fun p=>(p.1,vw rf g p.2))=qDz l:=by
 simp only[qDz,jCc];refine jBs fun x _=>?_
 simp
@[simp] theorem qM5 {a:A}:zFn (.bool false) false (some a)=a:=rfl
@[simp] theorem qM4:zFn (.bool false) false none=.lit (.bool false):=rfl
structure RL (p:Prg)(L:List Id):Prop where
 nd:L.Nodup
 sub:∀x∈L,x∈p.defs.map Dfn.id
theorem RL.len {p:Prg}{hs:List Hd}(hf:Fit p hs){L:List Id}(h:RL p L):L.length≤100:=by
 have:=h.nd.length_le_of_subset (l₂:=p.defs.map Dfn.id) h.sub;have:=hf.len8;simp at *
 omega
theorem RL.fold {p:Prg} {α : Type}(g : α→List Id→List Id):∀(l:List α) (L:List Id),(∀a∈l,∀L,RL p L→RL p (g a L))→RL p L→RL p (l.foldl (fun L a=>g a L) L)
 | [],L,_,h=>h
 | a::l,L,hg,h=>by rw[jBe];exact RL.fold g l _ (fun b hb=>hg b (by simp[hb])) (hg a (by simp) L h)
end Go.Proofs.YtdnelmeboihpkaaGreatDoor
namespace Go.Abs
theorem zHZ {ks:List Int}:∀(l m:List (List Int×A)),zBO ks (l++m)=(zBO ks l).or (zBO ks m)
 | [],m=>rfl
 | p::l,m=>by
  simp only[jB5,zBO];split
  ·rfl
  ·exact zHZ l m
end Go.Abs
namespace Go.Proofs.YtdnelmeboihpkaaGreatDoor
open Go.Abs
def zLt (l:List EVar):List (List Int×A):=l.map fun b=>([b.id.a,b.id.b,b.id.c,b.n],.agg [.lit (.int .i64 b.v.k),.lit (.int .i64 b.v.n),.sl b.v.kids.length (zJ b.v.kids)])
@[simp] theorem qMI {rf:Bool→Nat→Nat→A}{g:Nat→Option Nat}(l:List EVar):((zLt l).map fun p=>(p.1,vw rf g p.2))=zLt l:=by
 simp only[zLt,jCc];refine jBs fun x _=>?_
 simp
def Fr (V:List EVar)(i:Id)(n:Int):Prop:=∀b∈V,¬(b.id=i∧b.n=n)
theorem qQb {a b:Id}{n m:Int}:[a.a,a.b,a.c,n]=[b.a,b.b,b.c,m]↔a=b∧n=m:=by obtain⟨x,y,z⟩:=a;obtain⟨x',y',z'⟩:=b;simp[and_assoc]
theorem zPs {i:Id}{n:Int}:∀{V:List EVar},Fr V i n→zBO [i.a,i.b,i.c,n] (zLt V)=none
 | [],_=>rfl
 | b::V,h=>by
  have h1:=h b (by simp);have ih:=zPs (V:=V) fun x hx=>h x (by simp[hx])
  simp only[zLt,jAc,zBO]at ih ⊢;rw[if_neg fun e=>h1 (qQb.1 e)];exact ih
def NdV (V:List EVar):Prop:=V.Pairwise fun a b=>¬(a.id=b.id∧a.n=b.n)
theorem NdV.push {V:List EVar}(h:NdV V){i:Id}{n:Int}{v:Val}(hf:Fr V i n):NdV (V++[⟨i,n,v⟩]):=by unfold NdV;rw[jCs];refine⟨h,by simp,fun a ha b hb=>?_⟩;rw[jAh.1 hb];exact hf a ha
theorem Fr.of {V:List EVar}{i:Id}(h:∀b∈V,b.id≠i)(n:Int):Fr V i n:=fun b hb e=>h b hb e.1
theorem Fr.push {V:List EVar}{i:Id}(h:∀b∈V,b.id≠i){n m:Int}(hne:m≠n)(v:Val):Fr (V++[⟨i,m,v⟩]) i n:=fun b hb e=>by
 rcases jAe.1 hb with hb | hb
 ·exact h b hb e.1
 ·rw[jAh.1 hb]at e;exact hne e.2
theorem EnvT.get {p:Prg}{B:List Bnd}{V:List EVar}(h:EnvT p B V)(hn:NdV V){x:Id}{n:Int}{t:Typ}:zC7 B x n=some t →
 zBO [x.a,x.b,x.c,n] (zLt V)=some (.agg [.lit (.int .i64 (zCH V x n).k),.lit (.int .i64 (zCH V x n).n),.sl (zCH V x n).kids.length (zJ (zCH V x n).kids)]):=by
 induction h with
 | nil=>intro h; simp[zC7]at h
 | snoc B V b v h hi hb ht hz ih =>
  intro hl;unfold NdV at hn;rw[jCs]at hn;have e:zLt (V++[v])=zLt V++zLt [v]:=by simp[zLt]
  rw[e,zHZ,zKY];rw[zLs]at hl;by_cases hc:b.id=x∧b.n=n
  ·have hv:v.id=x∧v.n=n:=⟨hi.trans hc.1,hb.trans hc.2⟩;have hfr:Fr V x n:=fun y hy e=>hn.2.2 y hy v (by simp) ⟨e.1.trans hv.1.symm,e.2.trans hv.2.symm⟩
   rw[zPs hfr,if_pos hv];simp[zLt,zBO,hv.1,hv.2]
  ·rw[if_neg hc]at hl;rw[if_neg (fun e=>hc ⟨hi.symm.trans e.1,hb.symm.trans e.2⟩),ih hn.1 hl];rfl
@[simp] theorem qPU {z:Value}{a:A}:zFn z false (some a)=a:=rfl
@[simp] theorem qM6:zFn (.agg #[(.int .i64 0),(.int .i64 0),(.slice none 0 0)]) true none=.tup [.agg [.lit (.int .i64 0),.lit (.int .i64 0),.nil],.lit (.bool false)]:=by kernel_rfl
def Adm (p:Prg)(e:Exp)(V:List EVar)(s:XS):Prop:=s.fail=0→∃B t,WE p B e t∧EnvT p B V∧NdV V
section
variable {p:Prg}{c:Nat}{m:Int}{ev:Evl}{B:List Bnd}{e:Exp}{V:List EVar}{s:XS}
theorem Adm.of {t:Typ}(h:WE p B e t)(hV:EnvT p B V)(hN:NdV V):Adm p e V s:=fun _=>⟨B,t,h,hV,hN⟩
end
section
variable {p:Prg}{c:Nat}{m:Int}{ev:Evl}{e:Exp}{V:List EVar}{s:XS}
end
end Go.Proofs.YtdnelmeboihpkaaGreatDoor

/-
  The program's operations: numbers, truth values, lists.
  The fields on which a field of a converter's result depends: the two answers agree.
  The reference's operations.
  The maker's programs: their definitions have IDs of their own, their bodies have types, their types have few levels.
  Runs: what each step keeps; where the first failure is.
  The generator of programs of records and converters, as data: its programs are sound.
  The law's calls: a definition with a body, and arguments made of numbers.
  The definitions that types reach: met one by one, or in rounds.
  Programs of flat records: evaluation ends, or the fuel does; nothing gets too large.
  trace: notes, and the definitions that types reach.
  trace: environments as maps.
  trace: branches.
  trace: bodies, values, nodes.
-/
import Derived.Test.YtdnelmeboihpkaaGreatDoorX14
import Derived.Test.YtdnelmeboihpkaaGreatDoorX11
import Derived.Test.YtdnelmeboihpkaaGreatDoorX9
import Derived.Test.YtdnelmeboihpkaaGreatDoorX12
set_option linter.unusedVariables false
set_option maxHeartbeats 8000000
set_option maxRecDepth 100000
set_option linter.unusedSimpArgs false
open Go.Proofs.Tryz (prog)
namespace Go.Proofs.YtdnelmeboihpkaaGreatDoor
open Go.Abs
def qHh:K:=G [kMi 2 0] (G [M 3 0,⟨none,.mm (some 4) true [(kt 3),(kc (-1099511627776))]⟩,⟨none,.mm (some 5) false [(kt 4),(kc 1099511627776)]⟩,M 2 5] kr)
theorem qOs:zQ prog Tryz.f227.ntmps (Tryz.f227.body.getD .skip)=some qHh.erase:=by kernel_rfl
@[simp] theorem qPa:zB prog 227=true:=by kernel_rfl
theorem zP9 (n:Int):Ret prog 227 [int n] [] (int (zBP n)) []:=by
 refine zI Tryz.func227 rfl qOs (rs:=[.slot 2]) (by kernel_rfl) ?_;unfold qHh;by_cases h1:n < -1099511627776
 ·simp[h1];exact zA 0 (by simp[zBP,h1,show ¬1099511627776<n by omega])
 ·by_cases h2:1099511627776<n
  ·simp[h1,h2];exact zA 0 (by simp[zBP,h2])
  ·simp[h1,h2];exact zA 0 (by simp[zBP,h1,h2])
def qHr:K:=G [kZ 2 [ki,ki,kl]] (Z (G [M 3 0] (Y 3 (G [kb 4 [ki,ki,kl] [(0,1,(kc 1)),(1,1,(kc 1))],S 2 4 3] kr) ks)) (G [kb 5 [ki,ki,kl] [(0,1,(kc 1))],S 2 5 3] kr))
theorem qO2:zQ prog Tryz.f174.ntmps (Tryz.f174.body.getD .skip)=some qHr.erase:=by kernel_rfl
@[simp] theorem qPl:zB prog 174=true:=by kernel_rfl
theorem zAU (b:Bool):Ret prog 174 [bl b] [] (.agg (zC (zBZ b))) []:=by
 refine zI Tryz.func174 rfl qO2 (rs:=[.cell 2 3 true]) (by kernel_rfl) ?_;unfold qHr;cases b with
 | true =>
  simp;exact zA 0 (by simp[zC,zBZ,Val.k,Val.n,Val.kids])
 | false =>
  simp;exact zA 0 (by simp[zC,zBZ,Val.k,Val.n,Val.kids])
def Rng (a:Int):Prop:=-1099511627776≤a∧a≤1099511627776
def qHm:K:=G [kMi 4 0] (G [M 5 0,M 6 1,kB 7 5 6 .add,kC 8 227 [(kt 7)],M 4 8] kr)
theorem qOx:zQ prog Tryz.f226.ntmps (Tryz.f226.body.getD .skip)=some qHm.erase:=by kernel_rfl
@[simp] theorem qPg:zB prog 226=true:=by kernel_rfl
def qHn:K:=G [kMi 4 0] (G [M 5 0,M 6 1,kB 7 5 6 .sub,kC 8 227 [(kt 7)],M 4 8] kr)
theorem qOy:zQ prog Tryz.f228.ntmps (Tryz.f228.body.getD .skip)=some qHn.erase:=by kernel_rfl
@[simp] theorem qPh:zB prog 228=true:=by kernel_rfl
def qHq:K:=G [kMi 4 0] (Z (G [M 5 0,kQi 6 5 0 false,M 7 6,T 7 false (M 8 1),T 7 false (kQi 9 8 0 false),kPt 10 7 9] (Y 10 (G [kMi 4 0] kr) ks)) (Z (G [M 11 0,M 12 0,⟨none,.neg (some 13) (kt 12)⟩,⟨none,.mm (some 14) true [(kt 11),(kt 13)]⟩,M 15 1,M 16 1,⟨none,.neg (some 17) (kt 16)⟩,⟨none,.mm (some 18) true [(kt 15),(kt 17)]⟩,⟨none,.bin (some 19) .quo (kc 1099511627776) (kt 18)⟩,kB 20 14 19 .gtr] (Y 20 (Z (G [M 21 0,kBi 22 21 0 .lss,M 23 1,kBi 24 23 0 .lss,⟨none,.eqv (some 25) false .b (kt 22) (kt 24)⟩] (Y 25 (G [kMi 4 1099511627776] kr) ks)) (G [⟨none,.mov (some 4) (kc (-1099511627776))⟩] kr)) ks)) (G [M 26 0,M 27 1,kB 28 26 27 .mul,M 4 28] kr)))
theorem qO1:zQ prog Tryz.f229.ntmps (Tryz.f229.body.getD .skip)=some qHq.erase:=by kernel_rfl
@[simp] theorem qPk:zB prog 229=true:=by kernel_rfl
def qHk:K:=G [kMi 4 0] (Z (G [M 6 1,kQi 7 6 0 false] (Y 7 (G [kMi 4 0] kr) ks)) (G [M 8 0,M 9 1,kB 10 8 9 .quo,M 5 10] (Z (G [M 11 0,M 12 1,kB 13 11 12 .rem,kQi 14 13 0 true,M 15 14,T 15 true (M 16 0),T 15 true (kBi 17 16 0 .lss),T 15 true (M 18 1),T 15 true (kBi 19 18 0 .lss),⟨some (15,true),.eqv (some 20) true .b (kt 17) (kt 19)⟩,kPf 21 15 20] (Y 21 (K.ops [M 22 5,kBi 23 22 1 .sub,M 5 23]) ks)) (G [M 24 5,M 4 24] kr))))
theorem qOv:zQ prog Tryz.f230.ntmps (Tryz.f230.body.getD .skip)=some qHk.erase:=by kernel_rfl
@[simp] theorem qPd:zB prog 230=true:=by kernel_rfl
def qHp:K:=G [kMi 4 0] (Z (G [M 5 1,kQi 6 5 0 false] (Y 6 (G [kMi 4 0] kr) ks)) (G [M 7 0,M 8 1,M 9 0,M 10 1,kC 11 230 [(kt 9),(kt 10)],kB 12 8 11 .mul,kB 13 7 12 .sub,M 4 13] kr))
theorem qO0:zQ prog Tryz.f231.ntmps (Tryz.f231.body.getD .skip)=some qHp.erase:=by kernel_rfl
@[simp] theorem qPj:zB prog 231=true:=by kernel_rfl
theorem zYS {a b:Int}(ha:Rng a)(hb:Rng b):Ret prog 226 [int a,int b] [] (int (zBP (a+b))) []:=by obtain⟨a1,a2⟩:=ha;obtain⟨b1,b2⟩:=hb;refine zI Tryz.func226 rfl qOx (rs:=[.slot 4]) (by kernel_rfl) ?_;unfold qHm;have hw:=jP (a+b) (by omega);simp[hw];refine qA (zP9 (a+b)) (by simp) (by simp) ?_;simp;exact zA 0 (by simp)
theorem zZf {a b:Int}(ha:Rng a)(hb:Rng b):Ret prog 228 [int a,int b] [] (int (zBP (a-b))) []:=by obtain⟨a1,a2⟩:=ha;obtain⟨b1,b2⟩:=hb;refine zI Tryz.func228 rfl qOy (rs:=[.slot 4]) (by kernel_rfl) ?_;unfold qHn;have hw:=jP (a-b) (by omega);simp[hw];refine qA (zP9 (a-b)) (by simp) (by simp) ?_;simp;exact zA 0 (by simp)
theorem zUk {m n q:Nat}(hq:1099511627776 / n=q)(hn:0<n):(q<m→1099511627776<m*n)∧(¬q<m→m*n≤1099511627776):=by
 constructor
 ·intro h;rw[←hq]at h;exact(Nat.div_lt_iff_lt_mul hn).1 h
 ·intro h;rw[←hq]at h;have:=mt (Nat.div_lt_iff_lt_mul hn).2 h;omega
theorem zTO (a:Int)(h:a≠0):∃m:Nat,0<m∧(a=m∨a = -(m:Int)):=⟨a.natAbs,by omega,by omega⟩
theorem zUw {a b:Int}(ha:Rng a)(hb:Rng b):Ret prog 229 [int a,int b] [] (int (zBP (a*b))) []:=by
 obtain⟨a1,a2⟩:=ha;obtain⟨b1,b2⟩:=hb;refine zI Tryz.func229 rfl qO1 (rs:=[.slot 4]) (by kernel_rfl) ?_;unfold qHq;by_cases h0:a=0
 ·subst h0;simp;exact zA 0 (by simp[zBP])
 by_cases h1:b=0
 ·subst h1;simp[h0];exact zA 0 (by simp[zBP])
 obtain⟨m,m0,hm⟩:=zTO a h0;obtain⟨n,n0,hn⟩:=zTO b h1;obtain⟨q,hq⟩:∃q:Nat,1099511627776 / n=q:=⟨_,rfl⟩;obtain⟨c1,c2⟩:=zUk (m:=m) hq n0;have hqd:Int.tdiv 1099511627776 (n:Int)=(q:Int):=by rw[tdN (by omega),←hq]; rfl
 have hqle:q≤1099511627776:=by rw[←hq]; exact Nat.div_le_self _ _
 have wq:=jP (q:Int) (by omega);have wm:=jP (m:Int) (by omega);have wn:=jP (n:Int) (by omega);have wm':IntKind.i64.wrap (-(m:Int)) = -m:=IntWalk.i64_in _ (by omega);have wn':IntKind.i64.wrap (-(n:Int)) = -n:=IntWalk.i64_in _ (by omega);have x1:¬((m:Int) < -m):=by omega
 have x2:(-(m:Int))<m:=by omega
 have y1:¬((n:Int) < -n):=by omega
 have y2:(-(n:Int))<n:=by omega
 have z1:¬((m:Int)<0):=by omega
 have z2:(-(m:Int))<0:=by omega
 have z3:¬((n:Int)<0):=by omega
 have z4:(-(n:Int))<0:=by omega
 have m1:¬m=0:=by omega
 have n1:¬n=0:=by omega
 have p0:(m:Int)*n=((m*n:Nat):Int):=by push_cast; rfl
 generalize hmn:m*n=s at *
 by_cases hc:(q:Int)<m
 ·have hs:=c1 (by omega);have k1:zBP (s:Int)=1099511627776:=by unfold zBP; rw[if_pos (by omega)]
  have k2:zBP (-(s:Int)) = -1099511627776:=by unfold zBP; rw[if_neg (by omega),if_pos (by omega)]
  rcases hm with rfl | rfl<;>rcases hn with rfl | rfl<;>simp[m1,n1,wm,wn,wm',wn',x1,x2,y1,y2,z1,z2,z3,z4,m0,n0,hqd,wq,hc]<;>exact zA 0 (by simp[Int.neg_mul,Int.mul_neg,p0,k1,k2])
 ·have hs:=c2 (by omega);have k1:zBP (s:Int)=s:=by unfold zBP; rw[if_neg (by omega),if_neg (by omega)]
  have k2:zBP (-(s:Int)) = -s:=by unfold zBP; rw[if_neg (by omega),if_neg (by omega)]
  have w1:=jP (s:Int) (by omega);have w2:=jP (-(s:Int)) (by omega);rcases hm with rfl | rfl<;>rcases hn with rfl | rfl<;>simp[m1,n1,wm,wn,wm',wn',x1,x2,y1,y2,z1,z2,z3,z4,m0,n0,hqd,wq,hc]<;>exact zA 0 (by simp[Int.neg_mul,Int.mul_neg,p0,k1,k2,w1,w2])
theorem zLe {a b:Int}(ha:Rng a)(hb:Rng b):Ret prog 230 [int a,int b] [] (int (zJa a b)) []:=by
 obtain⟨a1,a2⟩:=ha;refine zI Tryz.func230 rfl qOv (rs:=[.slot 4]) (by kernel_rfl) ?_;unfold qHk;by_cases h1:b=0
 ·subst h1;simp;exact zA 0 (by simp[zJa])
 have ht:=zTQ (b:=b) a1 a2;have w1:=jP (a.tdiv b) (by omega);have w2:=jP (a.tdiv b-1) (by omega);have e:zJa a b=if a.tmod b≠0∧¬(a<0↔b<0) then a.tdiv b-1 else a.tdiv b:=by unfold zJa; rw[if_neg h1]
 rw[e];by_cases hm:a.tmod b=0
 ·simp[h1,hm,w1];exact zA 0 (by simp[hm])
 by_cases s1:a<0<;>by_cases s2:b<0<;>simp[h1,hm,w1,s1,s2,w2]<;>exact zA 0 (by simp[hm,s1,s2])
theorem zWM {a b:Int}(ha:Rng a)(hb:Rng b):Ret prog 231 [int a,int b] [] (int (zOH a b)) []:=by
 have hd:=zLe ha hb;refine zI Tryz.func231 rfl qO0 (rs:=[.slot 4]) (by kernel_rfl) ?_;unfold qHp;by_cases h1:b=0
 ·subst h1;simp;exact zA 0 (by simp[zOH])
 have hr:=zLW (a:=a) hb.1 hb.2;have e:zOH a b=a-b*zJa a b:=by unfold zOH; rw[if_neg h1]
 obtain⟨a1,a2⟩:=ha;have w1:=jP (b*zJa a b) (by omega);have w2:=jP (a-b*zJa a b) (by omega);simp[h1];refine qA hd (by simp) (by simp) ?_;simp[w1,w2];exact zA 0 (by simp[e])
def zQK:Go.Shelf.Ren:=⟨fun | 4=>204 | n=>n,fun | 0=>0 | 3=>3 | 4=>4 | 9=>9 | 20=>20 | 22=>44 | 25=>46 | n=>n,fun n=>n⟩
theorem zXy:Go.Proofs.Lays8.n4 prog zQK:={
 mixed:=by kernel_rfl,
 f4:=⟨Tryz.f204.name,by decide,Tryz.func204.trans (congrArg some (by kernel_rfl))⟩,
 t0:=Tryz.underlying0,
 a0:=Tryz.isAgg0,
 z0:=Tryz.sizeOf0,
 v0:=Tryz.zeroValue0,
 t3:=Tryz.underlying3,
 a3:=Tryz.isAgg3,
 z3:=Tryz.sizeOf3,
 v3:=Tryz.zeroValue3,
 t4:=Tryz.underlying4,
 a4:=Tryz.isAgg4,
 z4:=Tryz.sizeOf4,
 v4:=Tryz.zeroValue4,
 t9:=Tryz.underlying9,
 a9:=Tryz.isAgg9,
 z9:=Tryz.sizeOf9,
 v9:=Tryz.zeroValue9,
 t20:=Tryz.underlying20,
 a20:=Tryz.isAgg20,
 z20:=Tryz.sizeOf20,
 v20:=Tryz.zeroValue20,
 t22:=Tryz.underlying44,
 a22:=Tryz.isAgg44,
 z22:=Tryz.sizeOf44,
 v22:=Tryz.zeroValue44}
@[simp] theorem qIO:zB prog 204=true:=by kernel_rfl
theorem zQa (n:Nat)(hn:n≤1000000):Ret prog 204 [.nil,int n] [] (.row 0 0) [.row false 46 3 0 []] :=
 zUM (ρ:=zQK) (sz:=3) (bs:=40) (z:=.agg #[.int .i64 0,.int .i64 0,.slice none 0 0]) zXy (by kernel_rfl) rfl (by omega) (by omega) (by omega)
def zPa:K:=G [kMn 2] (G [kMi 3 0] (Z (G [M 9 0,kN 10 9,kMi 11 0] (K.block 0 (K.loop (G [kB 12 11 10 .lss] (Z (Y 12 ks (K.exit 0)) (Z (K.block 1 (G [kX 13 9 11 1,L 14 13 1,M 5 14] (G [M 15 3,M 16 5,kN 17 16,kB 18 15 17 .add,M 3 18] (G [M 19 3,kBi 20 19 0 .lss] (Y 20 (K.ops [⟨none,.mki (some 21) 9 (.const (.string ⟨#[108,101,110,32,111,117,116,32,111,102,32,114,97,110,103,101]⟩))⟩,⟨none,.pan none (kt 21)⟩]) ks))))) (K.ops [kBi 22 11 1 .add,M 11 22]))))))) (G [M 23 3,kC 24 204 [(.const kl),(kt 23)],M 6 24] (Z (G [M 25 0,kN 26 25,kMi 27 0] (K.block 2 (K.loop (G [kB 28 27 26 .lss] (Z (Y 28 ks (K.exit 2)) (Z (K.block 3 (G [kX 29 25 27 1,L 30 29 1,M 8 30] (K.ops [M 31 6,M 32 8,kP 33 46 3 40 31 32,M 6 33]))) (K.ops [kBi 34 27 1 .add,M 27 34]))))))) (G [M 35 6,M 2 35] kr)))))
theorem zWa:zQ prog Tryz.f196.ntmps (Tryz.f196.body.getD .skip)=some zPa.erase:=by kernel_rfl
@[simp] theorem qCD:zB prog 196=true:=by kernel_rfl
def zAX (Ls:List (List Val)):List A:=Ls.map fun l=>A.sl l.length (zN l)
theorem zEu:∀(Ls:List (List Val)),qJ (zAX Ls)
 | []=>qJ.nil
 | l::Ls=>by
  have h1:=zEu Ls;have h2:=zBy l;refine⟨?_,fun rf g=>?_⟩
  ·show jF (A.sl l.length (zN l)::zAX Ls)=_;simp[h1.1];rfl
  ·show vwL rf g (A.sl l.length (zN l)::zAX Ls)=_;simp[h1.2];rfl
@[simp] theorem zZD (l:List (List Val)):jF (zAX l)=zAX l:=(zEu l).1
@[simp] theorem qEE {rf g}(l:List (List Val)):vwL rf g (zAX l)=zAX l:=(zEu l).2 _ _
@[simp] theorem qBc (l:List (List Val)):(zAX l).length=l.length:=by simp[zAX]
theorem zHZ {Ls:List (List Val)}{i:Nat}(h:i<Ls.length):(zAX Ls).drop i=.sl Ls[i].length (zN Ls[i])::zAX (Ls.drop (i+1)):=by rw[zAX,←List.map_drop,jAt h]; rfl
def zEa (Ls:List (List Val)):Nat:=Ls.flatten.length
theorem zNT {Ls:List (List Val)}{i:Nat}(h:i<Ls.length):zEa (Ls.take (i+1))=zEa (Ls.take i)+Ls[i].length:=by rw[zEa,zEa,jA9 h,jD9]; simp
theorem zTR (Ls:List (List Val))(i:Nat):zEa (Ls.take i)≤zEa Ls:=by
 have:Ls.flatten=(Ls.take i).flatten++(Ls.drop i).flatten:=by rw[←jD9,jBn]
 rw[zEa,zEa,this,jA7]; omega
theorem zMv (Ls:List (List Val))(hb:zEa Ls≤1000000):Ret prog 196 [.sl Ls.length (zAX Ls)] [] (.sl (zEa Ls) (zN Ls.flatten)) []:=by
 refine zI Tryz.func196 rfl zWa (rs:=[.slot 2]) (by kernel_rfl) ?_;unfold zPa;simp;intro hl;refine jQ (S:=Nat) (fun i=>[(0,.sl Ls.length (zAX Ls)),(3,int (zEa (Ls.take i))),(9,.sl Ls.length (zAX Ls)),(10,int Ls.length),(11,int i)]) (fun s=>[]) (fun i=>i≤Ls.length) (fun i=>Ls.length-i) 0 (by simp)
  (zT [] 0 (by simp) (by simp) (by simp) (by simp[zEa])) ?_
 intro i hi;by_cases h:i<Ls.length
 ·have ht:=zNT h;have hle:=zTR Ls (i+1);have hw:IntKind.i64.wrap ((zEa (Ls.take i):Int)+(Ls[i].length:Int))=(zEa (Ls.take (i+1)):Nat):=by rw[ht]; push_cast; exact IntWalk.i64_in _ (by omega)
  have h0:¬((zEa (Ls.take (i+1)):Nat):Int)<0:=by omega
  simp[h,zHZ h];intro _;simp[hw,h0];exact zR (i+1) h (by omega) (zT [] 0 (by simp) (by simp) (by simp) (by simp[qD h hl]))
 ·have hil:i=Ls.length:=by omega
  subst hil;have hI:¬(Ls.length:Int)<Ls.length:=by omega
  simp;refine jO (zQa (zEa Ls) hb) [] (by simp) (by simp) (by simp) ?_;simp;intro _;refine jQ (S:=Nat) (fun i=>[(6,.row 0 (zEa (Ls.take i))),(25,.sl Ls.length (zAX Ls)),(26,int Ls.length),(27,int i)]) (fun i=>[.row false 46 3 (zEa (Ls.take i)) (zN (Ls.take i).flatten)]) (fun i=>i≤Ls.length) (fun i=>Ls.length-i) 0 (by simp)
   (zT [0] 0 (by simp) (by simp) (by simp[zEa]) (by simp[zEa])) ?_
  intro i hi;by_cases h:i<Ls.length
  ·have ht:=zNT h;have hle:=zTR Ls (i+1);have hf:(Ls.take (i+1)).flatten=(Ls.take i).flatten++Ls[i]:=by rw[jA9 h,jD9]; simp
   simp[h,zHZ h];refine⟨⟨by simp[maxLen]; omega,by omega⟩,?_⟩;exact zR (i+1) h (by omega) (zT [0] 0 (by simp) (by simp) (by simp[ht,hf,zBg]) (by simp[ht,qD h hl]))
  ·have hil:i=Ls.length:=by omega
   subst hil;simp;exact zA 1 (by simp)
def qHi:K:=G [kMn 2] (G [kMn 3] (Z (G [M 6 0,kN 7 6,kMi 8 0] (K.block 0 (K.loop (G [kB 9 8 7 .lss] (Z (Y 9 ks (K.exit 0)) (Z (K.block 1 (G [kX 10 6 8 3,J 11 10 3,kZ 5 [ki,ki,kl],S 5 11 3] (G [D 12 5 2,L 13 12 1,kC 14 108 [(kt 13)],D 15 5 2,S 15 14 1] (K.ops [M 16 3,J 17 5 3,kd 18 46 3 1 [ki,ki,kl] [(0,3,(kt 17))],kP 19 46 3 40 16 18,M 3 19])))) (K.ops [kBi 20 8 1 .add,M 8 20]))))))) (G [M 21 3,M 2 21] kr)))
theorem qOt:zQ prog Tryz.f108.ntmps (Tryz.f108.body.getD .skip)=some qHi.erase:=by kernel_rfl
@[simp] theorem qPb:zB prog 108=true:=by kernel_rfl
mutual
theorem zHt:∀(l:List Val),qT l≤1000000→Ret prog 108 [.sl l.length (zN l)] [] (.sl l.length (zN l)) []
 | l,hz=>by
  have hl6:=zDV l;refine zI Tryz.func108 rfl qOt (rs:=[.slot 2]) (by kernel_rfl) ?_;unfold qHi;simp;intro hl;refine jQ (S:=Nat) (fun i=>[(3,.row 0 i),(6,.sl l.length (zN l)),(7,int l.length),(8,int i)]) (fun i=>[.row false 46 3 i (zN (l.take i))]) (fun i=>i≤l.length) (fun i=>l.length-i) 0 (by simp)
   ((zAE (t:=3) (by simp) 46 3).trans (zT [0] 0 (by simp) (by simp) (by simp) (by simp))) ?_
  intro i hi;by_cases h:i<l.length
  ·have hk:=zJO l hz l[i] (jA3 h);have ht:zN (l.take (i+1))=zN (l.take i)++[.lit (.int .i64 l[i].k),.lit (.int .i64 l[i].n),.sl l[i].kids.length (zN l[i].kids)]:=by rw[jA9 h,zBg]; simp
   simp[h,jI h];refine qA hk (by simp) (by simp) ?_;simp;refine⟨⟨by simp[maxLen]; omega,by omega⟩,?_⟩;exact zR (i+1) h (by omega) (zT [0] 0 (by simp) (by simp) (by simp[ht]) (by simp[qD h hl]))
  ·have hil:i=l.length:=by omega
   subst hil;simp;exact zA 1 (by simp)
theorem zJO:∀(l:List Val),qT l≤1000000→∀x∈l,Ret prog 108 [.sl x.kids.length (zN x.kids)] [] (.sl x.kids.length (zN x.kids)) []
 | [],_,x,h=>by simp at h
 | .mk k n ks::l,hz,x,h=>by
  simp only[qT,zX]at hz
  if e:x∈l then exact zJO l (by omega) x e
  else
   have:x=.mk k n ks:=(jA6.1 h).resolve_right e;subst this;exact zHt ks (by omega)
end
def qHo:K:=G [kZ 4 [ki,ki,kl]] (Z (G [M 7 0,kBi 8 7 0 .geq,M 9 8,T 9 true (M 10 0),T 9 true (kBi 11 10 5 .lss),kPf 12 9 11,M 13 12,T 13 true (M 14 1),T 13 true (kN 15 14),T 13 true (kQi 16 15 2 false),kPf 17 13 16] (Y 17 (Z (K.dops [(0,0,M 18 0),(1,0,⟨none,.idxarr (some 19) (.global 0) (kt 18) 5 1⟩),(2,0,L 20 19 1),(3,0,M 21 1),(4,0,kXi 22 21 3 0),(5,0,D 23 22 1),(6,0,L 24 23 1),(7,0,M 25 1),(8,0,kXi 26 25 3 1),(9,0,D 27 26 1),(10,0,L 28 27 1),(11,0,⟨none,.call (some 29) (kt 20) [(kt 24),(kt 28)]⟩),(12,0,kb 30 [ki,ki,kl] [(1,1,(kt 29))]),(13,0,S 4 30 3)]) kr) ks)) (Z (K.block 0 (G [M 32 0,kQi 33 32 9 false,M 34 33,T 34 true (M 35 1),T 34 true (kN 36 35),T 34 true (kQi 37 36 1 false),kPf 38 34 37,M 31 38] (Y 31 (G [M 39 1,kXi 40 39 3 0,D 41 40 1,L 42 41 1,kQi 43 42 0 false,kC 44 174 [(kt 43)],S 4 44 3] kr) (G [M 46 0,kQi 47 46 11 false,M 48 47,T 48 true (M 49 1),T 48 true (kN 50 49),T 48 true (kQi 51 50 1 false),kPf 52 48 51,M 45 52] (Y 45 (G [M 53 1,kXi 54 53 3 0,D 55 54 2,L 56 55 1,kN 57 56,kb 58 [ki,ki,kl] [(1,1,(kt 57))],S 4 58 3] kr) (G [M 60 1,kN 61 60,kQi 62 61 2 true,M 59 62] (Y 59 (G [kb 63 [ki,ki,kl] [],S 4 63 3] kr) ks))))))) (Z (K.wk (K.dops [(0,0,M 64 1),(1,2,kXi 65 64 3 0),(2,2,J 66 65 3),(3,0,M 67 1),(4,2,kXi 68 67 3 1),(5,2,J 69 68 3),(6,301,⟨none,.alr (some 5) 1 [ki,ki,kl]⟩),(7,302,⟨none,.alr (some 6) 2 [ki,ki,kl]⟩),(8,0,S 5 66 3),(9,0,S 6 69 3)])) (Z (G [M 70 0] (K.block 1 (G [kQi 72 70 5 false,M 71 72] (Y 71 (G [D 73 5 1,L 74 73 1,D 75 6 1,
 L 76 75 1,kB 77 74 76 .lss,kC 78 174 [(kt 77)],S 4 78 3] kr) (G [kQi 80 70 6 false,M 79 80] (Y 79 (G [J 81 5 3,J 82 6 3,kC 83 60 [(kt 81),(kt 82)],kQi 84 83 0 false,kC 85 174 [(kt 84)],S 4 85 3] kr) (G [kQi 87 70 7 false,M 86 87] (Y 86 (G [D 88 5 1,L 89 88 1,kQi 90 89 0 true,M 91 90,T 91 true (D 92 6 1),T 91 true (L 93 92 1),T 91 true (kQi 94 93 0 true),kPf 95 91 94,kC 96 174 [(kt 95)],S 4 96 3] kr) (G [kQi 98 70 8 false,M 97 98] (Y 97 (G [D 99 5 1,L 100 99 1,kQi 101 100 0 true,M 102 101,T 102 false (D 103 6 1),T 102 false (L 104 103 1),T 102 false (kQi 105 104 0 true),kPt 106 102 105,kC 107 174 [(kt 106)],S 4 107 3] kr) (G [kQi 109 70 10 false,M 108 109] (Y 108 (G [D 110 5 2,L 111 110 1,D 112 6 2,L 113 112 1,kd 114 44 1 2 [kl,kl] [(0,1,(kt 111)),(1,1,(kt 113))],kC 115 196 [(kt 114)],kC 116 108 [(kt 115)],kb 117 [ki,ki,kl] [(0,1,(kc 4)),(2,1,(kt 116))],S 4 117 3] kr) ks)))))))))))) (G [kb 118 [ki,ki,kl] [],S 4 118 3] kr)))))
def qQt:Nat→Option (List (Nat×Nat)):=fun r=>match r with | 9=>some [(0,0),(1,2),(2,2),(3,0),(4,2),(5,2),(6,301),(7,302),(8,0),(9,0)] | _=>none
theorem qOz:qG prog Tryz.f177.ntmps qQt (Tryz.f177.body.getD .skip)=some qHo.erase:=by kernel_rfl
@[simp] theorem qPi:zB prog 177=true:=by kernel_rfl
@[simp] theorem qLu (b:Bool):(zBZ b).k=1:=rfl
@[simp] theorem qLv (b:Bool):(zBZ b).n=if b then 1 else 0:=rfl
@[simp] theorem qCd (b:Bool):(zBZ b).kids=[]:=rfl
@[simp] theorem qDp {env:Env}:ev env (.global 0)=.rptr [.clo 226 [] [],.clo 228 [] [],.clo 229 [] [],.clo 230 [] [],.clo 231 [] []]:=rfl
theorem yY:2≤maxLen:=by simp[maxLen]
theorem zC9:1≤maxLen:=by simp[maxLen]
theorem qDm {p:Prg}{n:Int}{ts:List Typ}{t:Typ}(h:OpT n ts t){vs:List Val}(hv:TyL p ts vs)(hs:∀v∈vs,zX v≤256):Ret prog 177 [int n,.sl vs.length (zN vs)] [] (.agg (zC (opV n vs))) []:=by
 refine qP Tryz.func177 rfl qOz (rs:=[.cell 4 3 true]) (by kernel_rfl) ?_;unfold qHo;cases h with
 | arith n h1 h2 =>
  obtain⟨a,b,rfl,ha,hb⟩:=hv.two;obtain⟨x,rfl,hx⟩:=ha.int_inv;obtain⟨y,rfl,hy⟩:=hb.int_inv;have e:opV n [.mk 0 x [],.mk 0 y []]=.mk 0 (zM4 n x y) []:=by simp only[opV,if_pos h2]; rfl
  rw[e];have hn:n=0∨n=1∨n=2∨n=3∨n=4:=by omega
  rcases hn with rfl | rfl | rfl | rfl | rfl
  ·simp[Val.k,Val.n,Val.kids,yY,zC9];refine qU (zYS hx hy) (by simp) (by simp) ?_;simp;exact zA 0 (by simp[zC,Val.k,Val.n,Val.kids,zM4])
  ·simp[Val.k,Val.n,Val.kids,yY,zC9];refine qU (zZf hx hy) (by simp) (by simp) ?_;simp;exact zA 0 (by simp[zC,Val.k,Val.n,Val.kids,zM4])
  ·simp[Val.k,Val.n,Val.kids,yY,zC9];refine qU (zUw hx hy) (by simp) (by simp) ?_;simp;exact zA 0 (by simp[zC,Val.k,Val.n,Val.kids,zM4])
  ·simp[Val.k,Val.n,Val.kids,yY,zC9];refine qU (zLe hx hy) (by simp) (by simp) ?_;simp;exact zA 0 (by simp[zC,Val.k,Val.n,Val.kids,zM4])
  ·simp[Val.k,Val.n,Val.kids,yY,zC9];refine qU (zWM hx hy) (by simp) (by simp) ?_;simp;exact zA 0 (by simp[zC,Val.k,Val.n,Val.kids,zM4])
 | less =>
  obtain⟨a,b,rfl,ha,hb⟩:=hv.two;obtain⟨x,rfl,hx⟩:=ha.int_inv;obtain⟨y,rfl,hy⟩:=hb.int_inv;simp[Val.k,Val.n,Val.kids,yY,zC9];refine⟨_,_,yM 2,?_⟩;simp[Val.k,Val.n,Val.kids,yY,zC9];refine qA (zAU (decide (x<y))) (by simp) (by simp[zC]) ?_;simp[zC];exact zA 0 (by by_cases hx0:x<y<;>simp[zC,opV,qF,hx0])
 | same u =>
  obtain⟨a,b,rfl,ha,hb⟩:=hv.two;simp[yY];refine⟨_,_,yM 2,?_⟩;simp[yY];refine qA (zK4 a b) (by simp[zC]) (by simp) ?_;simp;refine qA (zAU (decide (zCw a b=0))) (by simp) (by simp[zC]) ?_;simp[zC];exact zA 0 (by simp[zC,opV])
 | andor n h =>
  obtain⟨a,b,rfl,ha,hb⟩:=hv.two;obtain⟨x,rfl,hx⟩:=ha.bool_inv;obtain⟨y,rfl,hy⟩:=hb.bool_inv;rcases h with rfl | rfl
  ·rcases hx with rfl | rfl<;>rcases hy with rfl | rfl
   ·simp[Val.k,Val.n,Val.kids,yY];refine⟨_,_,yM 2,?_⟩;simp[Val.k,Val.n,Val.kids,yY];refine qA (zAU false) (by simp) (by simp[zC]) ?_;simp[zC];exact zA 0 (by simp[zC,opV,qF])
   ·simp[Val.k,Val.n,Val.kids,yY];refine⟨_,_,yM 2,?_⟩;simp[Val.k,Val.n,Val.kids,yY];refine qA (zAU false) (by simp) (by simp[zC]) ?_;simp[zC];exact zA 0 (by simp[zC,opV,qF])
   ·simp[Val.k,Val.n,Val.kids,yY];refine⟨_,_,yM 2,?_⟩;simp[Val.k,Val.n,Val.kids,yY];refine qA (zAU false) (by simp) (by simp[zC]) ?_;simp[zC];exact zA 0 (by simp[zC,opV,qF])
   ·simp[Val.k,Val.n,Val.kids,yY];refine⟨_,_,yM 2,?_⟩;simp[Val.k,Val.n,Val.kids,yY];refine qA (zAU true) (by simp) (by simp[zC]) ?_;simp[zC];exact zA 0 (by simp[zC,opV,qF])
  ·rcases hx with rfl | rfl<;>rcases hy with rfl | rfl
   ·simp[Val.k,Val.n,Val.kids,yY];refine⟨_,_,yM 2,?_⟩;simp[Val.k,Val.n,Val.kids,yY];refine qA (zAU false) (by simp) (by simp[zC]) ?_;simp[zC];exact zA 0 (by simp[zC,opV,qF])
   ·simp[Val.k,Val.n,Val.kids,yY];refine⟨_,_,yM 2,?_⟩;simp[Val.k,Val.n,Val.kids,yY];refine qA (zAU true) (by simp) (by simp[zC]) ?_;simp[zC];exact zA 0 (by simp[zC,opV,qF])
   ·simp[Val.k,Val.n,Val.kids,yY];refine⟨_,_,yM 2,?_⟩;simp[Val.k,Val.n,Val.kids,yY];refine qA (zAU true) (by simp) (by simp[zC]) ?_;simp[zC];exact zA 0 (by simp[zC,opV,qF])
   ·simp[Val.k,Val.n,Val.kids,yY];refine⟨_,_,yM 2,?_⟩;simp[Val.k,Val.n,Val.kids,yY];refine qA (zAU true) (by simp) (by simp[zC]) ?_;simp[zC];exact zA 0 (by simp[zC,opV,qF])
 | not =>
  obtain⟨a,rfl,ha⟩:=hv.one;obtain⟨x,rfl,hx⟩:=ha.bool_inv;simp[Val.k,Val.n,Val.kids,yY,zC9];refine qA (zAU (decide (x=0))) (by simp) (by simp[zC]) ?_;simp[zC];exact zA 0 (by by_cases hx0:x=0<;>simp[zC,opV,qF,hx0])
 | join u =>
  obtain⟨a,b,rfl,ha,hb⟩:=hv.two;have h1:=hs a (by simp);have h2:=hs b (by simp);cases a with | mk k1 n1 l1 =>
  cases b with | mk k2 n2 l2 =>
  simp only[zX]at h1 h2;have z1:=zDV l1;have z2:=zDV l2;have hc:Ret prog 196 [.sl 2 [.sl l1.length (zN l1),.sl l2.length (zN l2)]] [] (.sl (l1.length+l2.length) (zN (l1++l2))) []:=by simpa [zAX,zEa] using zMv [l1,l2] (by simp[zEa]; omega)
  have hk:=zHt (l1++l2) (by rw[zCp]; omega);rw[jA7]at hk;simp[Val.k,Val.n,Val.kids,yY,zC9];refine⟨_,_,yM 2,?_⟩;simp[Val.k,Val.n,Val.kids,yY,zC9];refine qA hc (by simp) (by simp) ?_;simp;refine qA hk (by simp) (by simp) ?_;simp;exact zA 0 (by simp[zC,opV,Val.k,Val.n,Val.kids])
 | len u =>
  obtain⟨a,rfl,ha⟩:=hv.one;simp[zC9];exact fun _=>zA 0 (by simp[zC,opV,Val.k,Val.n,Val.kids])
def zHI (n:Nat):List Int:=(List.range n).map fun(i:Nat)=>(i:Int)
def zGL (s:Id)(e:Exp)(n:Nat):List Int:=(zHI n).filter fun i=>zE2 s e false||decide (i∈zJs s e)
@[simp] theorem qP6:zB prog 208=true:=by kernel_rfl
@[simp] theorem qPB:zB prog 207=true:=by kernel_rfl
@[simp] theorem qPA:zB prog 200=true:=by kernel_rfl
def zVn (f:Int→Id)(x:Id):Id:=if x.b=0 then f x.c else x
def qQ6 (f:Int→Id)(b:Bnd):Bnd:={b with id:=zVn f b.id}
def qOm (f:Int→Id)(env:List Bnd):Prop:=∀b∈env,∀b'∈env,zVn f b.id=zVn f b'.id→b.id=b'.id
theorem zNS:∀l:List Exp,l.length≤(zIH l).length
 | []=>by simp
 | e::l=>by
  have:=zNS l;have h1:1≤(tmps e).length:=by rw[zYl]; simp
  simp only[jAk,zIH,jA7];omega
theorem zMk:∀{l:List Exp} {e:Exp},e∈l→(tmps e).Sublist (zIH l)
 | x::l,e,h=>by
  simp only[zIH];rcases jA6.1 h with rfl | h
  ·exact List.sublist_append_left _ _
  ·exact(zMk h).trans (List.sublist_append_right _ _)
structure Frs (f:Int→Id)(env:List Bnd)(e:Exp):Prop where
 nd:(tmps e).Nodup
 num:e.num0
 inj:∀c∈tmps e,∀c'∈tmps e,f c=f c'→c=c'
 new:∀b∈env,∀c∈tmps e,zVn f b.id≠f c
 len:(tmps e).length≤32768
 ib:qOm f env
section
variable {f:Int→Id}{env:List Bnd}{i:Id}{k n:Int}{r:Id}{u:Typ}{ks:List Exp}{ns:List ByteArray}
theorem Frs.id (h:Frs f env (.mk i k n r u ks ns)):i=⟨0,0,i.c⟩:=by obtain⟨a,b,c⟩:=i;have:=h.num;simp only[Exp.num0]at this;simp[this.1.1,this.1.2]
theorem Frs.kid (h:Frs f env (.mk i k n r u ks ns)){e:Exp}(he:e∈ks):Frs f env e:=by
 obtain⟨h1,h2,h3,h4,h5,h6⟩:=h;simp only[tmps]at h1 h3 h4 h5;simp only[Exp.num0,zN7]at h2;have hs:=zMk he;have hm:∀c∈tmps e,c∈zIH ks++[i.c]:=fun c hc=>jBi _ (hs.subset hc)
 exact⟨(jCg.1 h1).1.sublist hs,h2.2 e he,fun c hc c' hc'=>h3 c (hm c hc) c' (hm c' hc'),fun b hb c hc=>h4 b hb c (hm c hc),by
  have:=hs.length_le;rw[jA7]at h5;omega,h6⟩
theorem Frs.push (h:Frs f env (.mk i k n r u ks ns)){e:Exp}(he:e∈ks)(m:Int)(t:Typ){env':List Bnd}(hb:env'=env∨∃m' t',env'=env++[⟨i,m',t'⟩]):Frs f (env'++[⟨i,m,t⟩]) e:=by
 have hk:=h.kid he;have hi:=h.id;obtain⟨h1,h2,h3,h4,h5,h6⟩:=h;simp only[tmps]at h1 h3 h4;have hic:i.c∈zIH ks++[i.c]:=by simp
 have hri:zVn f i=f i.c:=by unfold zVn; rw[if_pos (by rw[hi])]
 have hmem:∀b∈env'++[(⟨i,m,t⟩:Bnd)],b∈env∨b.id=i:=by
  intro b hb';rcases jAh.1 hb' with hb' | hb'
  ·rcases hb with rfl | ⟨m',t',rfl⟩
   ·exact .inl hb'
   ·rcases jAh.1 hb' with hb' | hb'
    ·exact .inl hb'
    ·rw[jAp.1 hb']; exact .inr rfl
  ·rw[jAp.1 hb']; exact .inr rfl
 refine⟨hk.nd,hk.num,hk.inj,fun b hb' c hc=>?_,hk.len,fun b hb1 b' hb2 e=>?_⟩
 ·rcases hmem b hb' with h' | h'
  ·exact hk.new b h' c hc
  ·rw[h',hri];intro e;have hc':=(zMk he).subset hc;have:=h3 i.c hic c (jBi _ hc') e;exact(jCg.1 h1).2.2 c hc' i.c (by simp) this.symm
 ·rcases hmem b hb1 with h' | h'<;>rcases hmem b' hb2 with h'' | h''
  ·exact h6 b h' b' h'' e
  ·rw[h'',hri]at e;exact(h4 b h' i.c hic e).elim
  ·rw[h',hri]at e;exact(h4 b' h'' i.c hic e.symm).elim
  ·rw[h',h'']
theorem Frs.fresh (h:Frs f env (.mk i k n r u ks ns)):∀x∈env.map (qQ6 f),x.id≠f i.c:=by intro x hx;obtain⟨b,hb,rfl⟩:=jAm.1 hx;exact h.new b hb i.c (by simp[tmps])
theorem Frs.kids (h:Frs f env (.mk i k n r u ks ns)):(ks.map (qKO f)).length≤32768:=by have h1:=h.len;have h2:=zNS ks;simp only[tmps,jA7]at h1;rw[jB5];omega
end
def qCi (P:Prg)(hs:List Hd):Prop:=∀(k:Nat) (h:k<hs.length),∃d,qY P.defs hs[k].id=some d∧d.hd=hs[k]
theorem zGB:∀{ds:List Dfn} (_:ds.Pairwise fun a b=>a.id≠b.id) {k:Nat} (hk:k<ds.length),qY ds ds[k].id=some ds[k]
 | d::ds,h,0,_=>by rw[zH3]; simp
 | d::ds,h,k+1,hk=>by
  rw[jBr]at h;have hk':k<ds.length:=by simpa using hk
  rw[zH3];have:=h.1 ds[k] (jA3 hk');simp only[jDa];rw[if_neg this];exact zGB h.2 hk'
structure Fit (P:Prg)(hs:List Hd):Prop where
 heads:P.defs.map Dfn.hd=hs
 len8:P.defs.length≤100
 nd:P.defs.Pairwise fun a b=>a.id≠b.id
 slots:∀d∈P.defs,1≤d.slots.length∧d.slots.length≤6∧(d.kind=0∨d.kind=1→d.slots.length≤3)∧(d.slots.Pairwise fun a b=>a.id≠b.id)∧∀s∈d.slots,TyOk hs 4 s.typ
 kinds:∀d∈P.defs,0≤d.kind∧d.kind≤5
 bods:zTX P
theorem Fit.hd {P:Prg}{hs:List Hd}(h:Fit P hs):qCi P hs:=fun k hk=>by
 have hk':k<P.defs.length:=by rw[←h.heads]at hk; simpa using hk
 have e:hs[k]=P.defs[k].hd:=by simp[←h.heads]
 refine⟨P.defs[k],?_,e.symm⟩;rw[e];exact zGB h.nd hk'
theorem zAk {ds:List Dfn}{r:Id}{d:Dfn}(h:qY ds r=some d):d∈ds∧d.id=r:=⟨List.mem_of_find?_eq_some h,by simpa using List.find?_some h⟩
section
variable {l:List Int}{mods:Int}(hl:∀x∈l,w64 x=x)
include hl
end
theorem TyOk.valid {P:Prg}{hs:List Hd}(hh:qCi P hs){r:Nat}{t:Typ}(h:TyOk hs r t):∀n,r<n→jN P n t=true:=by
 induction h with
 | int r=>intro n hn; obtain⟨m,rfl⟩:∃m,n=m+1:=⟨n-1,by omega⟩; simp[jN]
 | bool r=>intro n hn; obtain⟨m,rfl⟩:∃m,n=m+1:=⟨n-1,by omega⟩; simp[jN]
 | list r t h ih =>
  intro n hn;obtain⟨m,rfl⟩:∃m,n=m+1:=⟨n-1,by omega⟩;simp[jN,ih m (by omega)]
 | dfn r k h h1 h2 h3 h4 ih =>
  intro n hn;obtain⟨m,rfl⟩:∃m,n=m+1:=⟨n-1,by omega⟩;obtain⟨d,hd,hhd⟩:=hh k h;have e1:d.kind=hs[k].kind:=congrArg Hd.kind hhd;simp[jN,zDM,hd,e1];omega
theorem TyOk.validT {P:Prg}{hs:List Hd}(hh:qCi P hs){r:Nat}{t:Typ}(h:TyOk hs r t)(hr:r<24):validT P t=true:=h.valid hh 24 hr
theorem Fit.at_ {P:Prg}{hs:List Hd}(h:Fit P hs)(k:Nat)(hk:k<hs.length):(dfn P hs[k].id).hd=hs[k]∧dfn P hs[k].id∈P.defs:=by
 obtain⟨d,hd,hhd⟩:=h.hd k hk;have:dfn P hs[k].id=d:=by simp[dfn,hd]
 rw[this];exact⟨hhd,(zAk hd).1⟩
theorem qAk {P:Prg}{hs:List Hd}(hf:Fit P hs){r:Nat}{t:Typ}(h:TyOk hs r t):r<24→∀n,r<n→Wf P n t:=by
 induction h with
 | int r=>intro hr n hn; obtain⟨m,rfl⟩:∃m,n=m+1:=⟨n-1,by omega⟩; exact⟨(TyOk.int r).validT hf.hd hr,.inl rfl⟩
 | bool r=>intro hr n hn; obtain⟨m,rfl⟩:∃m,n=m+1:=⟨n-1,by omega⟩; exact⟨(TyOk.bool r).validT hf.hd hr,.inr (.inl rfl)⟩
 | list r t h ih=>intro hr n hn; obtain⟨m,rfl⟩:∃m,n=m+1:=⟨n-1,by omega⟩; exact⟨(TyOk.list r t h).validT hf.hd hr,.inr (.inr (.inl ⟨rfl,t,rfl,ih (by omega) m (by omega)⟩))⟩
 | dfn r k h h1 h2 h3 h4 ih =>
  intro hr n hn;obtain⟨m,rfl⟩:∃m,n=m+1:=⟨n-1,by omega⟩;obtain⟨hd,hdm⟩:=hf.at_ k h;have e1:(dfn P hs[k].id).kind=hs[k].kind:=congrArg Hd.kind hd;have e2:(dfn P hs[k].id).slots=hs[k].slots:=congrArg Hd.slots hd;have hs':=hf.slots _ hdm;have hkd:hs[k].kind=0∨hs[k].kind=1:=by omega
  refine⟨(TyOk.dfn r k h h1 h2 h3 h4).validT hf.hd hr,.inr (.inr (.inr ⟨rfl,?_⟩))⟩;simp only[Typ.id_mk];refine⟨by rw[e1]; exact hkd,hs'.1,hs'.2.2.1 (by rw[e1]; exact hkd),fun s hs''=>?_⟩;rw[e2]at hs'';exact ih s hs'' (by omega) m (by omega)
theorem qAl {P:Prg}{hs:List Hd}(hf:Fit P hs){r:Nat}{t:Typ}(h:TyOk hs r t):r<24→∀n,r<n→Wz P n t:=by
 induction h with
 | int r=>intro hr n hn; obtain⟨m,rfl⟩:∃m,n=m+1:=⟨n-1,by omega⟩; exact⟨(TyOk.int r).validT hf.hd hr,.inl rfl⟩
 | bool r=>intro hr n hn; obtain⟨m,rfl⟩:∃m,n=m+1:=⟨n-1,by omega⟩; exact⟨(TyOk.bool r).validT hf.hd hr,.inr (.inl rfl)⟩
 | list r t h ih=>intro hr n hn; obtain⟨m,rfl⟩:∃m,n=m+1:=⟨n-1,by omega⟩; exact⟨(TyOk.list r t h).validT hf.hd hr,.inr (.inr (.inl rfl))⟩
 | dfn r k h h1 h2 h3 h4 ih =>
  intro hr n hn;obtain⟨m,rfl⟩:∃m,n=m+1:=⟨n-1,by omega⟩;obtain⟨hd,hdm⟩:=hf.at_ k h;have e1:(dfn P hs[k].id).kind=hs[k].kind:=congrArg Hd.kind hd;have e2:(dfn P hs[k].id).slots=hs[k].slots:=congrArg Hd.slots hd;have hs':=hf.slots _ hdm;have hkd:hs[k].kind=0∨hs[k].kind=1:=by omega
  refine⟨(TyOk.dfn r k h h1 h2 h3 h4).validT hf.hd hr,.inr (.inr (.inr ⟨rfl,?_⟩))⟩;simp only[Typ.id_mk];refine⟨by rw[e1]; exact hkd,hs'.1,hs'.2.2.1 (by rw[e1]; exact hkd),fun s hs''=>?_⟩;rw[e2]at hs'';exact ih s hs'' (by omega) m (by omega)
theorem zGC {P:Prg}:∀{ts:List Typ} {vs:List Val},zAP P ts vs=true→∀(j:Nat) (h1:j<ts.length) (h2:j<vs.length),zAj P ts[j] vs[j]=true
 | t::ts,v::vs,h,j,h1,h2=>by
  rw[zAP,jA4]at h;cases j with
  | zero=>exact h.1
  | succ j=>exact zGC h.2 j (by simpa using h1) (by simpa using h2)
theorem zOn {P:Prg}{hs:List Hd}(hf:Fit P hs){r:Nat}{t:Typ}(h:TyOk hs r t):∀v,zAj P t v=true→TyV P t v:=by
 induction h with
 | int r =>
  intro v hv;rw[zAl]at hv;simp at hv;obtain⟨_,⟨⟨h1,h2⟩,h3⟩,h4⟩:=hv;obtain⟨k,n,l⟩:=v;simp only[Val.k,Val.n,Val.kids]at h1 h2 h3 h4;subst h1 h2;exact .int n h3 h4
 | bool r =>
  intro v hv;rw[zAl]at hv;simp at hv;obtain⟨_,⟨h1,h2⟩,h3⟩:=hv;obtain⟨k,n,l⟩:=v;simp only[Val.k,Val.n,Val.kids]at h1 h2 h3;subst h1 h2;exact .bool n h3
 | list r t h ih =>
  intro v hv;rw[zAl]at hv;simp at hv;obtain⟨_,⟨h1,h2⟩,h3⟩:=hv;obtain⟨k,n,l⟩:=v;simp only[Val.k,Val.n,Val.kids]at h1 h2 h3;subst h1 h2;exact .list _ _ fun x hx=>ih x (h3 x hx)
 | dfn r k h h1 h2 h3 h4 ih =>
  intro v hv;obtain⟨d,hd,hhd⟩:=hf.hd k h;have e1:d.kind=hs[k].kind:=congrArg Hd.kind hhd;have e2:d.slots=hs[k].slots:=congrArg Hd.slots hhd;have ed:dfn P hs[k].id=d:=by simp[dfn,hd]
  rw[zAl]at hv;simp only[Typ.k_mk,Typ.id_mk,ed]at hv;obtain⟨kk,n,l⟩:=v;by_cases hk:d.kind=1
  ·simp[hk,Val.k,Val.n,Val.kids]at hv;obtain⟨_,⟨⟨⟨g1,g2⟩,g3⟩,g4⟩,g5⟩:=hv;replace g1:=of_decide_eq_true g1;replace g2:=of_decide_eq_true g2;replace g3:=of_decide_eq_true g3;replace g4:=of_decide_eq_true g4;obtain⟨x,rfl⟩:=List.length_eq_one_iff.1 g4;obtain⟨j,rfl⟩:∃j:Nat,n=j:=⟨n.toNat,by omega⟩;have hj:j<d.slots.length:=by omega
   rw[jCk,jA2 hj,jCz,zNd]at g5;subst g1;exact .case _ d j x hd hk hj (ih d.slots[j] (by rw[←e2]; exact jA3 hj) x g5)
  ·simp[hk,Val.k,Val.n,Val.kids]at hv;obtain⟨_,⟨⟨g1,g2⟩,g3⟩,g4⟩:=hv;replace g1:=of_decide_eq_true g1;replace g2:=of_decide_eq_true g2;replace g3:=of_decide_eq_true g3;subst g1 g2;refine .record _ d l hd (by omega) g3 fun j hj=>?_
   have hjd:j<d.slots.length:=by omega
   have:=zGC g4 j (by simpa using hjd) hj;rw[jBl]at this;exact ih d.slots[j] (by rw[←e2]; exact jA3 hjd) l[j] this
structure InvX (I:XS→Prop):Prop where
 tick:∀e s,I s→¬s.fuel≤0→I (zDf e s)
 dfn:∀(d:Id) s,I s→I {s with ds:=s.ds++[d]}
 fail:∀(x:Int) s,I s→I {s with fail:=x}
section
variable {p:Prg}{ev:Evl}{I:XS→Prop}
theorem zFM (h:∀e V s,I s→I (ev e V s).2)(V:List EVar):∀(l:List Exp) (s:XS),I s→I (qZ ev V l s).2
 | [],s,hs=>hs
 | e::l,s,hs=>by simp only[qZ]; exact zFM h V l _ (h e V s hs)
theorem zGD (h:∀e V s,I s→I (ev e V s).2)(V:List EVar)(i:Id)(b:Exp):∀(l:List Val) (r:Val×XS),I r.2→I (yH ev V i b l r).2
 | [],r,hs=>hs
 | e::l,r,hs=>by simp only[yH]; exact zGD h V i b l _ (h _ _ _ hs)
theorem zG5 (hI:InvX I)(h:∀e V s,I s→I (ev e V s).2)(d:Dfn)(vs:List Val)(s:XS)(hs:I s):I (zAH ev d vs s).2:=by
 unfold zAH;split
 ·exact hs
 ·exact h _ _ _ (hI.dfn d.id s hs)
theorem zPs (h:∀e V s,I s→I (ev e V s).2)(e:Exp)(V:List EVar)(s:XS)(hs:I s):I (yE ev e V s).2:=by
 unfold yE;have h0:=h (e.kids.headD .zero) V s hs;generalize ev (e.kids.headD .zero) V s=r at *
 repeat' split
 all_goals first
  | exact h0
  | exact h _ _ _ h0
  | exact zGD h _ _ _ _ _ (h _ _ _ h0)
theorem zSI (hI:InvX I)(h:∀e V s,I s→I (ev e V s).2)(fl:Nat)(e:Exp)(V:List EVar)(s:XS)(hs:I s):I (qV p fl ev e V s).2:=by
 unfold qV;have h0:=zFM h V e.kids s hs;generalize qZ ev V e.kids s=r at *
 repeat' split
 all_goals first
  | exact hs
  | exact h0
  | exact zPs h _ _ _ hs
  | exact zG5 hI h _ _ _ h0
theorem zDG (hI:InvX I)(fl:Nat):∀(n:Nat) e V s,I s→I (jU p fl n e V s).2
 | 0,e,V,s,hs=>by
  rw[jU];split
  ·exact hs
  ·exact hI.fail _ _ hs
 | n+1,e,V,s,hs=>by
  rw[jU];split
  ·exact hs
  ·split
   ·exact hI.fail _ _ hs
   ·rename_i h;have:=zSI (p:=p) hI (zDG hI fl n) fl e V _ (hI.tick e s hs h);show I (zBG _);unfold zBG;split
    ·exact hI.fail _ _ this
    ·exact this
def Fu (F:Int)(s:XS):Prop:=0≤s.fuel∧s.fuel≤F
theorem zLs (F:Int):InvX (Fu F) :=
 ⟨fun e s h hf=>⟨by unfold zDf; dsimp only; omega,by unfold zDf; have:=h.2; dsimp only; omega⟩,fun d s h=>h,fun x s h=>h⟩
theorem zKG (h:zDh ev)(V:List EVar):∀(l:List Exp) (s:XS) (i k:Nat),i≤k→(qZ ev V (l.take k) s).2.fail=0→(qZ ev V (l.take i) s).2.fail=0
 | [],s,i,k,_,h0=>by simpa using h0
 | e::l,s,0,k,_,h0=>by
  by_cases hs:s.fail=0
  ·simpa [qZ] using hs
  ·rw[zD5 h V _ _ hs]at h0;exact(hs h0).elim
 | e::l,s,i+1,0,hik,h0=>by omega
 | e::l,s,i+1,k+1,hik,h0=>by simp only[jC2,qZ]at h0 ⊢;exact zKG h V l _ i k (by omega) h0
theorem zKF (h:zDh ev)(V:List EVar):∀(l:List Exp) (s:XS),s.fail=0→(qZ ev V l s).2.fail≠0 →
 ∃(k:Nat) (hk:k<l.length),(qZ ev V (l.take k) s).2.fail=0∧(ev l[k] V (qZ ev V (l.take k) s).2).2=(qZ ev V l s).2
 | [],s,hs,hf=>(hf hs).elim
 | e::l,s,hs,hf=>by
  by_cases h0:(ev e V s).2.fail=0
  ·simp only[qZ]at hf;obtain⟨k,hk,h1,h2⟩:=zKF h V l _ h0 hf;exact⟨k+1,by simpa using hk,by simpa only[jC2,qZ] using h1,by simpa only[jC2,qZ,jDa] using h2⟩
  ·refine⟨0,by simp,hs,?_⟩;simp only[List.take_zero,qZ,jDh];rw[zD5 h V l _ h0]
theorem zJi (h:zDh ev)(V:List EVar)(x:Id)(b:Exp):∀(l:List Val) (r:Val×XS) (i k:Nat),i≤k→(yH ev V x b (l.take k) r).2.fail=0→(yH ev V x b (l.take i) r).2.fail=0
 | [],r,i,k,_,h0=>by simpa using h0
 | v::l,r,0,k,_,h0=>by
  by_cases hs:r.2.fail=0
  ·simpa [yH] using hs
  ·rw[zCP h V _ _ _ _ hs]at h0;exact(hs h0).elim
 | v::l,r,i+1,0,hik,h0=>by omega
 | v::l,r,i+1,k+1,hik,h0=>by simp only[jC2,yH]at h0 ⊢;exact zJi h V x b l _ i k (by omega) h0
theorem zJX (h:zDh ev)(V:List EVar)(x:Id)(b:Exp):∀(l:List Val) (r:Val×XS),r.2.fail=0→(yH ev V x b l r).2.fail≠0 →
 ∃(k:Nat) (_:k<l.length),(yH ev V x b (l.take k) r).2.fail=0∧(yH ev V x b (l.take (k+1)) r).2=(yH ev V x b l r).2
 | [],r,hs,hf=>(hf hs).elim
 | v::l,r,hs,hf=>by
  simp only[yH]at hf;by_cases h0:(ev b (V++[⟨x,0,v⟩]++[⟨x,1,r.1⟩]) r.2).2.fail=0
  ·obtain⟨k,hk,h1,h2⟩:=zJX h V x b l _ h0 hf;exact⟨k+1,by simpa using hk,by simpa only[jC2,yH] using h1,by simpa only[jC2,yH] using h2⟩
  ·refine⟨0,by simp,hs,?_⟩;simp only[jAr,jC2,List.take_zero,yH];rw[zCP h V _ _ _ _ h0]
end
def qCu:List ByteArray:=[⟨#[65]⟩,⟨#[66]⟩,⟨#[67]⟩,⟨#[68]⟩]
def xyT:List ByteArray:=[⟨#[120]⟩,⟨#[121]⟩]
def cT:List ByteArray:=[⟨#[99,48]⟩,⟨#[99,49]⟩,⟨#[99,50]⟩,⟨#[99,51]⟩,⟨#[99,52]⟩,⟨#[99,53]⟩,⟨#[99,54]⟩]
section
variable (l:List Int)
def zNo (i k:Nat)(m:Gm):Slt:=⟨idR ((20+2*i+k:Nat):Int),xyT.getD k ⟨#[]⟩,tK (gN l m 3),0,k⟩
def zAo (i:Nat):Nat→Gm→List Slt×Gm
 | 0,m=>([],m)
 | n+1,m=>((zAo i n m).1++[zNo l i n (zAo i n m).2],(zAo i n m).2.tick)
def zB1 (m:Gm):Nat:=(1+gN l m 2).toNat
def zFC (i:Nat)(m:Gm):Dfn×Gm:=(⟨idR ((1+i:Nat):Int),0,idR 0,qCu.getD i ⟨#[]⟩,(zAo l i (zB1 l m) m.tick).1,.zero,.zero,0,[]⟩,(zAo l i (zB1 l m) m.tick).2)
def yF:Nat→Gm→List Dfn×Gm
 | 0,m=>([],m)
 | n+1,m=>((yF n m).1++[(zFC l n (yF n m).2).1],(zFC l n (yF n m).2).2)
def zB8 (many:Nat)(m:Gm):Nat×Nat×Gm :=
 if gN l m many=gN l m.tick many then
  (if 0<gN l m.tick.tick 3 then ((gN l m many).toNat,((gN l m many).toNat+1) % many,m.tick.tick.tick) else ((gN l m many).toNat,(gN l m many).toNat,m.tick.tick.tick))
 else ((gN l m many).toNat,(gN l m.tick many).toNat,m.tick.tick)
def zBS (a b:Dfn)(s:Id)(m:Gm):Exp×Gm :=
 if gN l (zFl l b a s m).2 5=1 then
  yV (zFl l b a s (zAK l a s 1 1 (zFl l b a s m).2.tick).2).2 5 0 Id.zero [(zAK l a s 1 1 (zFl l b a s m).2.tick).1,(zFl l b a s m).1,(zFl l b a s (zAK l a s 1 1 (zFl l b a s m).2.tick).2).1]
 else ((zFl l b a s m).1,(zFl l b a s m).2.tick)
def zPO (R:List Dfn)(x y:Nat)(s:Id)(m:Gm):Exp×Gm :=
 if x=y then
  (if gN l m 2=1 then yV m.tick 2 0 s [] else zBS l (R.getD x .zero) (R.getD y .zero) s m.tick)
 else zBS l (R.getD x .zero) (R.getD y .zero) s m
def zIp (R:List Dfn)(i:Nat)(m:Gm):Dfn×Gm :=
 (⟨idR ((6+i:Nat):Int),5,idR 0,cT.getD i ⟨#[]⟩,[⟨idR ((30+i:Nat):Int),⟨#[111,108,100]⟩,jS (R.getD (zB8 l R.length m).1 .zero).id,0,0⟩],jS (R.getD (zB8 l R.length m).2.1 .zero).id,
  (zPO l R (zB8 l R.length m).1 (zB8 l R.length m).2.1 (idR ((30+i:Nat):Int)) (zB8 l R.length m).2.2).1,0,[]⟩,
  (zPO l R (zB8 l R.length m).1 (zB8 l R.length m).2.1 (idR ((30+i:Nat):Int)) (zB8 l R.length m).2.2).2)
def zAn (R:List Dfn):Nat→Gm→List Dfn×Gm
 | 0,m=>([],m)
 | n+1,m=>((zAn R n m).1++[(zIp l R n (zAn R n m).2).1],(zIp l R n (zAn R n m).2).2)
def yD:Nat:=(2+atV l 0 3).toNat
def zAe:List Dfn:=(yF l (yD l) ⟨1,40⟩).1++(zAn l (yF l (yD l) ⟨1,40⟩).1 (gN l (yF l (yD l) ⟨1,40⟩).2 8).toNat (yF l (yD l) ⟨1,40⟩).2.tick).1
def zZ:Prg:=⟨[⟨idR 0,⟨#[99,111,114,101]⟩,[],(zAe l).map (·.id)⟩],zAe l⟩
theorem zCR (i:Nat)(m:Gm):∀n,(zAo l i n m).1.length=n
 | 0=>rfl
 | n+1=>by simp[zAo,zCR i m n]
theorem zFn (i:Nat)(m:Gm):∀(n k:Nat) (h:k<(zAo l i n m).1.length),∃m',(zAo l i n m).1[k]=zNo l i k m'
 | 0,k,h=>by simp[zAo]at h
 | n+1,k,h=>by
  have hl:=zCR l i m n;by_cases hk:k<n
  ·obtain⟨m',h'⟩:=zFn i m n k (by omega);exact⟨m',by simp only[zAo]; rw[jBt (by omega)]; exact h'⟩
  ·have hkn:k=n:=by rw[zCR]at h; omega
   subst hkn;exact⟨(zAo l i k m).2,by simp only[zAo]; rw[jCy (by omega)]; simp[hl]⟩
theorem zCd (m:Gm):∀n,(yF l n m).1.length=n
 | 0=>rfl
 | n+1=>by simp[yF,zCd m n]
theorem zNn (m:Gm):∀(n k:Nat) (h:k<(yF l n m).1.length),∃m',(yF l n m).1[k]=(zFC l k m').1
 | 0,k,h=>by simp[yF]at h
 | n+1,k,h=>by
  have hl:=zCd l m n;by_cases hk:k<n
  ·obtain⟨m',h'⟩:=zNn m n k (by omega);exact⟨m',by simp only[yF]; rw[jBt (by omega)]; exact h'⟩
  ·have hkn:k=n:=by rw[zCd]at h; omega
   subst hkn;exact⟨(yF l k m).2,by simp only[yF]; rw[jCy (by omega)]; simp[hl]⟩
theorem zCQ (R:List Dfn)(m:Gm):∀n,(zAn l R n m).1.length=n
 | 0=>rfl
 | n+1=>by simp[zAn,zCQ R m n]
theorem zLt (R:List Dfn)(m:Gm):∀(n k:Nat) (h:k<(zAn l R n m).1.length),∃m',(zAn l R n m).1[k]=(zIp l R k m').1
 | 0,k,h=>by simp[zAn]at h
 | n+1,k,h=>by
  have hl:=zCQ l R m n;by_cases hk:k<n
  ·obtain⟨m',h'⟩:=zLt R m n k (by omega);exact⟨m',by simp only[zAn]; rw[jBt (by omega)]; exact h'⟩
  ·have hkn:k=n:=by rw[zCQ]at h; omega
   subst hkn;exact⟨(zAn l R k m).2,by simp only[zAn]; rw[jCy (by omega)]; simp[hl]⟩
end
theorem qAg (t:Int):tK t=zAS∨tK t=zAd:=by
 unfold tK;split
 ·exact .inr rfl
 ·exact .inl rfl
theorem zOa {α : Type}{A B C:List α}(e:C=A++B)(k:Nat)(h:k<C.length):(∃h':k<A.length,C[k]=A[k])∨(A.length≤k∧∃h':k-A.length<B.length,C[k]=B[k-A.length]):=by
 subst e;by_cases hk:k<A.length
 ·exact .inl ⟨hk,jBt hk⟩
 ·exact .inr ⟨by omega,by rw[jA7]at h; omega,jCy (by omega)⟩
theorem zBL {α : Type}{L:List α}{i:Nat}(h:i<L.length)(z : α):L.getD i z=L[i]:=by rw[jBk,jA2 h,jBa]
section
variable {l:List Int}(hl:∀x∈l,w64 x=x)
include hl
theorem zFj (m:Gm):1≤zB1 l m∧zB1 l m≤2:=by have h:0≤gN l m 2∧gN l m 2<2:=zAz hl (by omega);unfold zB1;omega
theorem zEj:2≤yD l∧yD l≤4:=by have h:0≤atV l 0 3∧atV l 0 3<3:=zAz hl (by omega);unfold yD;omega
theorem zJZ (many:Nat)(hm:0<many)(m:Gm):(zB8 l many m).1<many∧(zB8 l many m).2.1<many:=by
 have h1:0≤gN l m many∧gN l m many<many:=zAz hl (by omega);have h2:0≤gN l m.tick many∧gN l m.tick many<many:=zAz hl (by omega);have h3:=Nat.mod_lt ((gN l m many).toNat+1) hm;unfold zB8;split
 ·split
  ·exact⟨by simp only; omega,h3⟩
  ·exact⟨by simp only; omega,by simp only; omega⟩
 ·exact⟨by simp only; omega,by simp only; omega⟩
theorem zNi {p:Prg}{a b:Dfn}(ha:Flat p a)(hb:Flat p b)(s:Id)(m:Gm):WF p [⟨s,0,jS a.id⟩] (zBS l a b s m).1 (jS b.id):=by
 unfold zBS;split
 ·exact .ite _ _ _ _ _ _ _ _ _ (zE9 hl ha s 1 _ (.inr rfl)) (zOt hl ha s hb _) (zOt hl ha s hb _)
 ·exact zOt hl ha s hb _
theorem zPQ {p:Prg}{R:List Dfn}(hR:∀a∈R,Flat p a){x y:Nat}(hx:x<R.length)(hy:y<R.length)(s:Id)(m:Gm):WF p [⟨s,0,jS (R.getD x .zero).id⟩] (zPO l R x y s m).1 (jS (R.getD y .zero).id):=by
 have ha:Flat p (R.getD x .zero):=by rw[zBL hx]; exact hR _ (jA3 hx)
 have hb:Flat p (R.getD y .zero):=by rw[zBL hy]; exact hR _ (jA3 hy)
 unfold zPO;split
 ·split
  ·rename_i e _;subst e;exact .var _ _ _ _ _ _ (by simp[zED]) (.inr (.inr ⟨_,ha,rfl⟩))
  ·exact zNi hl ha hb s _
 ·exact zNi hl ha hb s _
theorem zNk:(zAe l).length≤11∧2≤(zAe l).length:=by have h1:=zEj hl;have h2:0≤gN l (yF l (yD l) ⟨1,40⟩).2 8∧gN l (yF l (yD l) ⟨1,40⟩).2 8<8:=zAz hl (by omega);unfold zAe;rw[jA7,zCd,zCQ];omega
theorem zDC (k:Nat)(h:k<(zAe l).length) :
 (k<yD l∧∃m,(zAe l)[k]=(zFC l k m).1)∨(yD l≤k∧k-yD l<7∧∃m,(zAe l)[k]=(zIp l (yF l (yD l) ⟨1,40⟩).1 (k-yD l) m).1):=by
 have h2:0≤gN l (yF l (yD l) ⟨1,40⟩).2 8∧gN l (yF l (yD l) ⟨1,40⟩).2 8<8:=zAz hl (by omega);have hlen:=zCd l ⟨1,40⟩ (yD l);rcases zOa (show zAe l=_++_ from rfl) k h with ⟨h',e⟩ | ⟨h',h'',e⟩
 ·obtain⟨m,hm⟩:=zNn l ⟨1,40⟩ (yD l) k h';exact .inl ⟨by omega,m,e.trans hm⟩
 ·obtain⟨m,hm⟩:=zLt l (yF l (yD l) ⟨1,40⟩).1 (yF l (yD l) ⟨1,40⟩).2.tick (gN l (yF l (yD l) ⟨1,40⟩).2 8).toNat _ h'';have e2:=e.trans hm;rw[zCQ]at h'';rw[hlen]at h' h'' e2;exact .inr ⟨h',by omega,m,e2⟩
theorem zPR (k:Nat)(h:k<(zAe l).length):(zAe l)[k].id=idR (if k<yD l then ((1+k:Nat):Int) else ((6+(k-yD l):Nat):Int)):=by
 rcases zDC hl k h with ⟨hk,m,e⟩ | ⟨hk,_,m,e⟩
 ·rw[e,if_pos hk]; rfl
 ·rw[e,if_neg (by omega)]; rfl
theorem zLu:(zAe l).Pairwise fun a b=>a.id≠b.id:=by have h1:=zEj hl;rw[jCl];intro i j hi hj hij e;have h11:=zNk hl;rw[zPR hl i hi,zPR hl j hj]at e;have:=zTx (by split<;>omega) (by split<;>omega) (by split<;>omega) (by split<;>omega) e;split at this<;>split at this<;>omega
theorem zJj {k:Nat}(hk:k<yD l)(h:k<(zAe l).length):Flat (zZ l) (zAe l)[k]:=by
 rcases zDC hl k h with ⟨_,m,e⟩ | ⟨hk',_⟩
 ·have h2:=zFj hl m;have hf:=zGB (zLu hl) h;have h3:(zAe l)[k].kind=0∧(zAe l)[k].slots=(zAo l k (zB1 l m) m.tick).1:=by rw[e]; exact⟨rfl,rfl⟩
  refine⟨hf,h3.1,fun s hs=>?_,?_⟩
  ·rw[h3.2]at hs;obtain⟨j,hj,rfl⟩:=jAz hs;obtain⟨m',e'⟩:=zFn l k m.tick (zB1 l m) j hj;rw[e'];exact qAg _
  ·rw[h3.2,zCR]; omega
 ·omega
theorem zFm:∀a∈(yF l (yD l) ⟨1,40⟩).1,Flat (zZ l) a:=by
 intro a ha;obtain⟨k,hk,rfl⟩:=jAz ha;have hkm:k<yD l:=by rw[zCd]at hk; exact hk
 have hkd:k<(zAe l).length:=by unfold zAe; rw[jA7]; omega
 have:=zJj hl hkm hkd;rcases zOa (show zAe l=(yF l (yD l) ⟨1,40⟩).1++_ from rfl) k hkd with ⟨h',e⟩ | ⟨h',h'',e⟩
 ·rw[e]at this; exact this
 ·omega
theorem zYo {j:Nat}(hj:j<yD l)(h:j<(zAe l).length):TyOk ((zAe l).map Dfn.hd) 4 (jS (zAe l)[j].id):=by
 have h4:=zJj hl hj h;have hnd:=zLu hl;rw[jCl]at hnd;have e:((zAe l).map Dfn.hd)[j]'(by simpa using h)=(zAe l)[j].hd:=by simp
 have hid:(zAe l)[j].id=(((zAe l).map Dfn.hd)[j]'(by simpa using h)).id:=by rw[e]; rfl
 rw[hid];refine .dfn 3 j (by simpa using h) (fun i hi=>?_) (.inl (by rw[e]; exact h4.kind)) (by rw[e]; exact h4.few) fun s hs=>?_
 ·have:=hnd i j (by omega) h hi
  simpa [Dfn.hd] using this
 ·rw[e]at hs;rcases h4.flat s hs with e | e<;>rw[e]
  ·exact .int _
  ·exact .bool _
theorem zGE:Fit (zZ l) ((zAe l).map Dfn.hd):=by
 have h11:=zNk hl;have hm:=zEj hl;have hlen:=zCd l ⟨1,40⟩ (yD l);have hend:=fun m=>zJZ hl (yF l (yD l) ⟨1,40⟩).1.length (by omega) m
 have hdef:∀j (hj:j<yD l),∃hj':j<(zAe l).length,(yF l (yD l) ⟨1,40⟩).1.getD j .zero=(zAe l)[j]:=by
  intro j hj;have hj':j<(zAe l).length:=by unfold zAe; rw[jA7]; omega
  refine⟨hj',?_⟩;rw[zBL (by omega)];rcases zOa (show zAe l=(yF l (yD l) ⟨1,40⟩).1++_ from rfl) j hj' with ⟨h',e⟩ | ⟨h',h'',e⟩
  ·exact e.symm
  ·omega
 refine⟨rfl,by show (zAe l).length≤100; omega,zLu hl,fun d hd=>?_,fun d hd=>?_,fun r d hd hb=>?_⟩
 ·change d∈zAe l at hd;obtain⟨k,hk,rfl⟩:=jAz hd;rcases zDC hl k hk with ⟨_,m,e⟩ | ⟨hk',hk7,m,e⟩
  ·have h2:=zFj hl m;have h3:(zAe l)[k].slots=(zAo l k (zB1 l m) m.tick).1:=by rw[e]; rfl
   have h4:=zJj hl (by omega) hk;have h5:=zCR l k m.tick (zB1 l m);refine⟨by rw[h3]; omega,by rw[h3]; omega,fun _=>by rw[h3]; omega,?_,fun s hs=>?_⟩
   ·rw[h3,jCl];intro i j hi hj hij e;obtain⟨m1,e1⟩:=zFn l k m.tick (zB1 l m) i hi;obtain⟨m2,e2⟩:=zFn l k m.tick (zB1 l m) j hj;rw[e1,e2]at e;have:=zTx (by omega) (by omega) (by omega) (by omega) (show idR _=idR _ from e);omega
   ·rcases h4.flat s hs with e | e<;>rw[e]
    ·exact .int _
    ·exact .bool _
  ·obtain⟨hj,ej⟩:=hdef (zB8 l (yF l (yD l) ⟨1,40⟩).1.length m).1 (by have:=(hend m).1; omega);have h3:(zAe l)[k].slots=[⟨idR ((30+(k-yD l):Nat):Int),⟨#[111,108,100]⟩,jS (zAe l)[(zB8 l (yF l (yD l) ⟨1,40⟩).1.length m).1].id,0,0⟩]:=by rw[e,←ej]; rfl
   rw[h3];refine⟨by simp,by simp,fun _=>by simp,by simp,fun s hs=>?_⟩;rw[jAp]at hs;subst hs;exact zYo hl (by have:=(hend m).1; omega) hj
 ·change d∈zAe l at hd;obtain⟨k,hk,rfl⟩:=jAz hd;rcases zDC hl k hk with ⟨_,m,e⟩ | ⟨hk',hk7,m,e⟩<;>(rw[e]; simp[zFC,zIp])
 ·obtain⟨hd1,rfl⟩:=zAk hd;change d∈zAe l at hd1;obtain⟨k,hk,rfl⟩:=jAz hd1;rcases zDC hl k hk with ⟨_,m,e⟩ | ⟨hk',hk7,m,e⟩
  ·rw[e]at hb;simp[zHp,zFC]at hb
  ·rw[e];exact(zPQ hl (zFm hl) (hend m).1 (hend m).2 _ _).we
end
theorem zJM:∀{l:List Val} {c:Nat},(∀v∈l,yJ v≤c)→yO l≤c
 | [],c,_=>by simp[yO]
 | v::l,c,h=>by
  have h1:=h v (by simp);have h2:=zJM (l:=l) (c:=c) fun x hx=>h x (by simp[hx])
  simp only[yO];omega
inductive Nam:Typ→Id→Prop
 | here (t:Typ) (h:t.k=3):Nam t t.id
 | kid (t k:Typ) (x:Id) (h:k∈t.kids) (hx:Nam k x):Nam t x
inductive Rch (p:Prg)(T:Typ→Prop):Id→Prop
 | base (t:Typ) (x:Id) (ht:T t) (hx:Nam t x):Rch p T x
 | step (y:Id) (s:Slt) (x:Id) (hy:Rch p T y) (hs:s∈(dfn p y).slots) (hx:Nam s.typ x):Rch p T x
theorem Rch.mono {p:Prg}{T T':Typ→Prop}{x:Id}(h:Rch p T x)(hT:∀t,T t→T' t):Rch p T' x:=by
 induction h with
 | base t x ht hx=>exact .base t x (hT t ht) hx
 | step y s x _ hs hx ih=>exact .step y s x ih hs hx
theorem Rch.one {p:Prg}{T:Typ→Prop}{x:Id}(h:Rch p T x):∃t,T t∧Rch p (· = t) x:=by
 induction h with
 | base t x ht hx=>exact⟨t,ht,.base t x rfl hx⟩
 | step y s x _ hs hx ih =>
  obtain⟨t,ht,h⟩:=ih;exact⟨t,ht,.step y s x h hs hx⟩
def zLS (p:Prg):Nat→Typ→List Id→List Id
 | 0,_,L=>L
 | f+1,t,L=>if t.k=3∧t.id∉t.kids.foldl (fun L k=>zLS p f k L) L then (dfn p t.id).slots.foldl (fun L s=>zLS p f s.typ L) (t.kids.foldl (fun L k=>zLS p f k L) L++[t.id])
  else t.kids.foldl (fun L k=>zLS p f k L) L
structure Meets (p:Prg)(T:Typ→Prop)(L L':List Id):Prop where
 sub:∀x∈L,x∈L'
 all:∀t x,T t→Nam t x→x∈L'
 clo:∀x∈L',x∉L→∀s∈(dfn p x).slots,∀y,Nam s.typ y→y∈L'
 snd:∀x∈L',x∈L∨Rch p T x
theorem Meets.trans {p:Prg}{T T':Typ→Prop}{L L' L'':List Id}(h:Meets p T L L')(k:Meets p T' L' L''):Meets p (fun t=>T t∨T' t) L L'':=by
 refine⟨fun x hx=>k.sub x (h.sub x hx),fun t x ht hx=>?_,fun x hx hn s hs y hy=>?_,fun x hx=>?_⟩
 ·rcases ht with ht | ht
  ·exact k.sub x (h.all t x ht hx)
  ·exact k.all t x ht hx
 ·by_cases hx':x∈L'
  ·exact k.sub y (h.clo x hx' hn s hs y hy)
  ·exact k.clo x hx hx' s hs y hy
 ·rcases k.snd x hx with hx | hx
  ·rcases h.snd x hx with hx | hx
   ·exact .inl hx
   ·exact .inr (hx.mono fun _ h=>.inl h)
  ·exact .inr (hx.mono fun _ h=>.inr h)
theorem Meets.congr {p:Prg}{T T':Typ→Prop}{L L':List Id}(h:Meets p T L L')(hT:∀t,T t↔T' t):Meets p T' L L' :=
 ⟨h.sub,fun t x ht hx=>h.all t x ((hT t).2 ht) hx,h.clo,fun x hx=>(h.snd x hx).imp (fun h=>h) fun h=>h.mono fun t=>(hT t).1⟩
def zSu (p:Prg)(ss:List Slt)(L:List Id):List Id:=ss.foldl (fun L s=>zLS p 10 s.typ L) L
mutual
def zQx:Typ→List Id→List Id
 | .mk k x l,L=>zLE l (if k=3 then zDk L x else L)
def zLE:List Typ→List Id→List Id
 | [],L=>L
 | t::l,L=>zLE l (zQx t L)
end
mutual
theorem zQy:∀(t:Typ) (L:List Id) (x:Id),x∈zQx t L↔x∈L∨Nam t x
 | .mk k y l,L,x=>by
  rw[zQx,zN4 l];constructor
  ·rintro(h | ⟨t,ht,h⟩)
   ·split at h
    ·rename_i hk;rcases zEA.1 h with h | h
     ·exact .inl h
     ·subst h; exact .inr (.here (.mk k x l) hk)
    ·exact .inl h
   ·exact .inr (.kid (.mk k y l) t x ht h)
  ·rintro(h | h)
   ·left;split
    ·exact zEA.2 (.inl h)
    ·exact h
   ·generalize hT:Typ.mk k y l=T at h;cases h with
    | here _ h =>
     subst hT;left;show y∈_;rw[if_pos (show k=3 from h)];exact zEA.2 (.inr rfl)
    | kid _ t _ ht hx =>
     subst hT;exact .inr ⟨t,ht,hx⟩
theorem zN4:∀(l:List Typ) (L:List Id) (x:Id),x∈zLE l L↔x∈L∨∃t∈l,Nam t x
 | [],L,x=>by simp[zLE]
 | t::l,L,x=>by rw[zLE,zN4 l,zQy t];simp only[jA6,exists_eq_or_imp,or_assoc]
end
mutual
theorem zTA:∀(t:Typ) (L:List Id),SS L→SS (zQx t L)
 | .mk k y l,L,h=>by
  rw[zQx];refine zQz l _ ?_;split
  ·exact zO0 h
  ·exact h
theorem zQz:∀(l:List Typ) (L:List Id),SS L→SS (zLE l L)
 | [],L,h=>h
 | t::l,L,h=>by rw[zLE]; exact zQz l _ (zTA t L h)
end
def namS (ss:List Slt)(L:List Id):List Id:=ss.foldl (fun L s=>zQx s.typ L) L
theorem zLn {p:Prg}{t:Typ}{v:Val}(ht:zOZ p t)(h:TyV p t v):zX v≤7∧yJ v≤2:=by
 have one:∀{u:Typ} {w:Val},u=zAS∨u=zAd→TyV p u w→zX w≤1∧yJ w≤1:=by
  rintro u w (rfl | rfl) hw
  ·obtain⟨n,rfl,_⟩:=hw.int_inv;simp[zX,qT,yJ,yO]
  ·obtain⟨n,rfl,_⟩:=hw.bool_inv;simp[zX,qT,yJ,yO]
 rcases ht with ht | ht | ⟨d,hd,rfl⟩
 ·have:=one (.inl ht) h; omega
 ·have:=one (.inr ht) h; omega
 ·rcases h.def_inv hd.find with ⟨_,vs,hl,rfl,hk⟩ | ⟨h1,_⟩
  ·have h6:=hd.few;have hv:∀w∈vs,zX w≤1∧yJ w≤1:=by intro w hw;obtain⟨j,hj,rfl⟩:=jAz hw;exact one (hd.flat _ (jA3 _)) (hk j hj)
   have s1:=zEO (c:=1) fun w hw=>(hv w hw).1
   have s2:=zJM (c:=1) fun w hw=>(hv w hw).2
   rw[zCo,zCc];simp only[Val.kids];omega
  ·have:=hd.kind;omega
theorem zWY {p:Prg}{t:Typ}{v:Val}(ht:zOZ p t)(h:TyV p t v):¬zHU v:=by obtain⟨h1,h2⟩:=zLn ht h;have e1:=zJ6 v (by omega);have e2:=zHs v (by omega);unfold zHU;omega
def FlN (s:XS):Prop:=s.fail=0∨s.fail=zCh
section
variable {p:Prg}{ev:Evl}{B:List Bnd}{V:List EVar}
theorem zHP (hst:zDh ev):∀(l:List Exp) (s:XS),(∀e∈l,∀s,s.fail=0→FlN (ev e V s).2)→s.fail=0→FlN (qZ ev V l s).2
 | [],s,_,hs=>.inl hs
 | e::l,s,h,hs=>by
  simp only[qZ];rcases h e (by simp) s hs with h0 | h0
  ·exact zHP hst l _ (fun x hx=>h x (by simp[hx])) h0
  ·rw[zD5 hst V l _ (by rw[h0]; decide)];exact .inr h0
theorem zN5 (hp:zTX p)(fl:Nat):∀(n:Nat) {e:Exp} {t:Typ} {s:XS},WF p B e t→EnvT p B V→s.fail=0→FlN (jU p fl n e V s).2
 | 0,e,t,s,_,_,hs=>by rw[jU,if_neg (by simp[hs])];exact .inr rfl
 | n+1,e,t,s,he,hV,hs=>by
  rw[jU,if_neg (by simp[hs])];split
  ·exact .inr rfl
  ·have hst:=zAL p fl n;have ih:=fun {e:Exp} {t:Typ} {s:XS} (h:WF p B e t) (h0:s.fail=0)=>zN5 hp fl n h hV h0
   have hs':(zDf e s).fail=0:=hs;have hv:FlN (qV p fl (jU p fl n) e V (zDf e s)).2:=by
    generalize zDf e s=s' at *
    cases he with
    | int=>exact .inl hs'
    | bool=>exact .inl hs'
    | var=>exact .inl hs'
    | arith i m r u a b ns _ _ ha hb =>
     refine zHP hst _ _ (fun x hx s h0=>?_) hs';simp only[Exp.kids,jA6,jCm,or_false]at hx;rcases hx with rfl | rfl
     ·exact ih ha h0
     ·exact ih hb h0
    | andor i m r u a b ns _ ha hb =>
     refine zHP hst _ _ (fun x hx s h0=>?_) hs';simp only[Exp.kids,jA6,jCm,or_false]at hx;rcases hx with rfl | rfl
     ·exact ih ha h0
     ·exact ih hb h0
    | ite i m r u a b c ns _ ha hb hc =>
     show FlN (yE (jU p fl n) (.mk i 5 m r u [a,b,c] ns) V s').2;unfold yE;show FlN (if (jU p fl n a V s').2.fail≠0 then (vz,(jU p fl n a V s').2) else if (5:Int)=5 then jU p fl n ([a,b,c].getD (if (jU p fl n a V s').1.n=1 then 1 else 2) .zero) V (jU p fl n a V s').2 else _).2;rcases ih ha hs' with h1 | h1
     ·rw[if_neg (by simp[h1]),if_pos rfl];by_cases h2:(jU p fl n a V s').1.n=1
      ·rw[if_pos h2]; exact ih hb h1
      ·rw[if_neg h2]; exact ih hc h1
     ·rw[if_pos (by rw[h1]; decide)];exact .inr h1
    | record i m r u ks ns hn d hd hr hl hw =>
     refine zHP hst _ _ (fun x hx s h0=>?_) hs';obtain⟨j,hj,rfl⟩:=jAz hx;exact ih (hw j hj) h0
    | field i r u a ns d j hd hr hj ha =>
     show FlN (yE (jU p fl n) (.mk i 8 j r u [a] ns) V s').2;unfold yE;show FlN (if (jU p fl n a V s').2.fail≠0 then (vz,(jU p fl n a V s').2) else if (8:Int)=5 then _ else if (8:Int)=6 then _ else if (8:Int)=8 then (_,(jU p fl n a V s').2) else _).2;rcases ih ha hs' with h1 | h1
     ·rw[if_neg (by simp[h1]),if_neg (by decide),if_neg (by decide),if_pos rfl];exact .inl h1
     ·rw[if_pos (by rw[h1]; decide)];exact .inr h1
   show FlN (zBG _);unfold zBG;rcases hv with h0 | h0
   ·have hty:=zRb hp fl hst (zEE hp fl n) he.we hV h0;rw[if_neg fun h=>zWY he.flat hty.1 h.2];exact .inl h0
   ·rw[if_neg fun h=>by rw[h0]at h; exact absurd h.1 (by decide)];exact .inr h0
end
end Go.Proofs.YtdnelmeboihpkaaGreatDoor
namespace Go.Proofs.YtdnelmeboihpkaaGreatDoor
open Go.Abs
def qDL (l:List Id):List (List Int×A):=l.map fun x=>(zH8 x,.lit (.bool true))
@[simp] theorem qNd {rf:Bool→Nat→Nat→A}{g:Nat→Option Nat}(l:List Id):((qDL l).map fun p=>(p.1,vw rf g p.2))=qDL l:=by
 simp only[qDL,jCc];refine jBs fun x _=>?_
 simp
@[simp] theorem qMR {a:A}:zFo (.bool false) false (some a)=a:=rfl
@[simp] theorem qMQ:zFo (.bool false) false none=.lit (.bool false):=rfl
structure RL (p:Prg)(L:List Id):Prop where
 nd:L.Nodup
 sub:∀x∈L,x∈p.defs.map Dfn.id
theorem RL.len {p:Prg}{hs:List Hd}(hf:Fit p hs){L:List Id}(h:RL p L):L.length≤100:=by
 have:=h.nd.length_le_of_subset (l₂:=p.defs.map Dfn.id) h.sub;have:=hf.len8;simp at *
 omega
theorem RL.fold {p:Prg} {α : Type}(g : α→List Id→List Id):∀(l:List α) (L:List Id),(∀a∈l,∀L,RL p L→RL p (g a L))→RL p L→RL p (l.foldl (fun L a=>g a L) L)
 | [],L,_,h=>h
 | a::l,L,hg,h=>by rw[jBe];exact RL.fold g l _ (fun b hb=>hg b (by simp[hb])) (hg a (by simp) L h)
end Go.Proofs.YtdnelmeboihpkaaGreatDoor
namespace Go.Abs
theorem zIk {ks:List Int}:∀(l m:List (List Int×A)),zBJ ks (l++m)=(zBJ ks l).or (zBJ ks m)
 | [],m=>rfl
 | p::l,m=>by
  simp only[jB4,zBJ];split
  ·rfl
  ·exact zIk l m
end Go.Abs
namespace Go.Proofs.YtdnelmeboihpkaaGreatDoor
open Go.Abs
def zL8 (l:List EVar):List (List Int×A):=l.map fun b=>([b.id.a,b.id.b,b.id.c,b.n],.agg [.lit (.int .i64 b.v.k),.lit (.int .i64 b.v.n),.sl b.v.kids.length (zN b.v.kids)])
@[simp] theorem qNe {rf:Bool→Nat→Nat→A}{g:Nat→Option Nat}(l:List EVar):((zL8 l).map fun p=>(p.1,vw rf g p.2))=zL8 l:=by
 simp only[zL8,jCc];refine jBs fun x _=>?_
 simp
def Fr (V:List EVar)(i:Id)(n:Int):Prop:=∀b∈V,¬(b.id=i∧b.n=n)
theorem qQw {a b:Id}{n m:Int}:[a.a,a.b,a.c,n]=[b.a,b.b,b.c,m]↔a=b∧n=m:=by obtain⟨x,y,z⟩:=a;obtain⟨x',y',z'⟩:=b;simp[and_assoc]
theorem zPF {i:Id}{n:Int}:∀{V:List EVar},Fr V i n→zBJ [i.a,i.b,i.c,n] (zL8 V)=none
 | [],_=>rfl
 | b::V,h=>by
  have h1:=h b (by simp);have ih:=zPF (V:=V) fun x hx=>h x (by simp[hx])
  simp only[zL8,jAd,zBJ]at ih ⊢;rw[if_neg fun e=>h1 (qQw.1 e)];exact ih
def NdV (V:List EVar):Prop:=V.Pairwise fun a b=>¬(a.id=b.id∧a.n=b.n)
theorem NdV.push {V:List EVar}(h:NdV V){i:Id}{n:Int}{v:Val}(hf:Fr V i n):NdV (V++[⟨i,n,v⟩]):=by unfold NdV;rw[jCr];refine⟨h,by simp,fun a ha b hb=>?_⟩;rw[jAp.1 hb];exact hf a ha
theorem Fr.of {V:List EVar}{i:Id}(h:∀b∈V,b.id≠i)(n:Int):Fr V i n:=fun b hb e=>h b hb e.1
theorem Fr.push {V:List EVar}{i:Id}(h:∀b∈V,b.id≠i){n m:Int}(hne:m≠n)(v:Val):Fr (V++[⟨i,m,v⟩]) i n:=fun b hb e=>by
 rcases jAh.1 hb with hb | hb
 ·exact h b hb e.1
 ·rw[jAp.1 hb]at e;exact hne e.2
theorem EnvT.get {p:Prg}{B:List Bnd}{V:List EVar}(h:EnvT p B V)(hn:NdV V){x:Id}{n:Int}{t:Typ}:zED B x n=some t →
 zBJ [x.a,x.b,x.c,n] (zL8 V)=some (.agg [.lit (.int .i64 (zE6 V x n).k),.lit (.int .i64 (zE6 V x n).n),.sl (zE6 V x n).kids.length (zN (zE6 V x n).kids)]):=by
 induction h with
 | nil=>intro h; simp[zED]at h
 | snoc B V b v h hi hb ht hz ih =>
  intro hl;unfold NdV at hn;rw[jCr]at hn;have e:zL8 (V++[v])=zL8 V++zL8 [v]:=by simp[zL8]
  rw[e,zIk,zLm];rw[zL7]at hl;by_cases hc:b.id=x∧b.n=n
  ·have hv:v.id=x∧v.n=n:=⟨hi.trans hc.1,hb.trans hc.2⟩;have hfr:Fr V x n:=fun y hy e=>hn.2.2 y hy v (by simp) ⟨e.1.trans hv.1.symm,e.2.trans hv.2.symm⟩
   rw[zPF hfr,if_pos hv];simp[zL8,zBJ,hv.1,hv.2]
  ·rw[if_neg hc]at hl;rw[if_neg (fun e=>hc ⟨hi.symm.trans e.1,hb.symm.trans e.2⟩),ih hn.1 hl];rfl
@[simp] theorem qQp {z:Value}{a:A}:zFo z false (some a)=a:=rfl
@[simp] theorem qMS:zFo (.agg #[(.int .i64 0),(.int .i64 0),(.slice none 0 0)]) true none=.tup [.agg [.lit (.int .i64 0),.lit (.int .i64 0),.nil],.lit (.bool false)]:=by kernel_rfl
def Adm (p:Prg)(e:Exp)(V:List EVar)(s:XS):Prop:=s.fail=0→∃B t,WE p B e t∧EnvT p B V∧NdV V
section
variable {p:Prg}{c:Nat}{m:Int}{ev:Evl}{B:List Bnd}{e:Exp}{V:List EVar}{s:XS}
theorem Adm.of {t:Typ}(h:WE p B e t)(hV:EnvT p B V)(hN:NdV V):Adm p e V s:=fun _=>⟨B,t,h,hV,hN⟩
end
section
variable {p:Prg}{c:Nat}{m:Int}{ev:Evl}{e:Exp}{V:List EVar}{s:XS}
end
end Go.Proofs.YtdnelmeboihpkaaGreatDoor

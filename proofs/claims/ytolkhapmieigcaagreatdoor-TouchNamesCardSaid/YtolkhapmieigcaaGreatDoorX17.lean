/- The program's operations: numbers, truth values, lists. -/
import Derived.Test.YtolkhapmieigcaaGreatDoorX16
set_option linter.unusedVariables false
set_option maxHeartbeats 8000000
set_option maxRecDepth 100000
set_option linter.unusedSimpArgs false
open Go.Proofs.Tryz
namespace Go.Proofs.YtolkhapmieigcaaGreatDoor
open Go.Abs
def qA4:K:=G [kMi 2 0] (G [M 3 0,⟨none,.mm (some 4) true [(kt 3),(kc (-1099511627776))]⟩,⟨none,.mm (some 5) false [(kt 4),(kc 1099511627776)]⟩,M 2 5] kr)
theorem qIf:ky f69 qA4:=m_ (by kernel_rfl)
theorem zI7(n:Int):my 69 [int n] [] (int (eL n)) []:=by
 refine zG func69 rfl qIf (rs:=[.slot 2]) (by kernel_rfl) ?_;unfold qA4;by_cases h1:n < -1099511627776
 .simp[h1];exact zC 0 (by simp[eL,h1,show ¬1099511627776<n by omega])
 .by_cases h2:1099511627776<n
  .simp[h1,h2];exact zC 0 (by simp[eL,h2])
  .simp[h1,h2];exact zC 0 (by simp[eL,h1,h2])
def qAC:K:=G [kZ 2 [ki,ki,kl]] (Z (G [M 3 0] (Y 3 (G [kb 4 [ki,ki,kl] [(0,1,(kc 1)),(1,1,(kc 1))],S 2 4 3] kr) ks)) (G [kb 5 [ki,ki,kl] [(0,1,(kc 1))],S 2 5 3] kr))
theorem qIn:ky f217 qAC:=m_ (by kernel_rfl)
@[simp]theorem qJm:zA prog 217=true:=by kernel_rfl
theorem fA(b:Bool):my 217 [bl b] [] (.agg (z7 (fM b))) []:=by
 refine zG func217 rfl qIn (rs:=[.cell 2 3 true]) (by kernel_rfl) ?_;unfold qAC;cases b with
 |true =>
  simp;exact zC 0 (by simp[z7,fM,Val.k,Val.n,Val.kids])
 |false =>
  simp;exact zC 0 (by simp[z7,fM,Val.k,Val.n,Val.kids])
def Rng(a:Int):Prop:=-1099511627776<=a/\a<=1099511627776
def qA7:K:=G [kMi 4 0] (G [M 5 0,M 6 1,kB 7 5 6 .add,kC 8 69 [(kt 7)],M 4 8] kr)
theorem qIi:ky f255 qA7:=m_ (by kernel_rfl)
@[simp]theorem qJh:zA prog 255=true:=by kernel_rfl
def qA8:K:=G [kMi 4 0] (G [M 5 0,M 6 1,kB 7 5 6 .sub,kC 8 69 [(kt 7)],M 4 8] kr)
theorem qIj:ky f256 qA8:=m_ (by kernel_rfl)
@[simp]theorem qJi:zA prog 256=true:=by kernel_rfl
def qAB:K:=G [kMi 4 0] (Z (G [M 5 0,kQi 6 5 0 false,M 7 6,T 7 false (M 8 1),T 7 false (kQi 9 8 0 false),kPt 10 7 9] (Y 10 (G [kMi 4 0] kr) ks)) (Z (G [M 11 0,M 12 0,⟨none,.neg (some 13) (kt 12)⟩,⟨none,.mm (some 14) true [(kt 11),(kt 13)]⟩,M 15 1,M 16 1,⟨none,.neg (some 17) (kt 16)⟩,⟨none,.mm (some 18) true [(kt 15),(kt 17)]⟩,⟨none,.bin (some 19) .quo (kc 1099511627776) (kt 18)⟩,kB 20 14 19 .gtr] (Y 20 (Z (G [M 21 0,kBi 22 21 0 .lss,M 23 1,kBi 24 23 0 .lss,⟨none,.eqv (some 25) false .b (kt 22) (kt 24)⟩] (Y 25 (G [kMi 4 1099511627776] kr) ks)) (G [⟨none,.mov (some 4) (kc (-1099511627776))⟩] kr)) ks)) (G [M 26 0,M 27 1,kB 28 26 27 .mul,M 4 28] kr)))
theorem qIm:ky f257 qAB:=m_ (by kernel_rfl)
@[simp]theorem qJl:zA prog 257=true:=by kernel_rfl
def qA6:K:=G [kMi 4 0] (Z (G [M 6 1,kQi 7 6 0 false] (Y 7 (G [kMi 4 0] kr) ks)) (G [M 8 0,M 9 1,kB 10 8 9 .quo,M 5 10] (Z (G [M 11 0,M 12 1,kB 13 11 12 .rem,kQi 14 13 0 true,M 15 14,T 15 true (M 16 0),T 15 true (kBi 17 16 0 .lss),T 15 true (M 18 1),T 15 true (kBi 19 18 0 .lss),⟨some (15,true),.eqv (some 20) true .b (kt 17) (kt 19)⟩,kPf 21 15 20] (Y 21 (K.ops [M 22 5,kBi 23 22 1 .sub,M 5 23]) ks)) (G [M 24 5,M 4 24] kr))))
theorem qIh:ky f258 qA6:=m_ (by kernel_rfl)
@[simp]theorem qJe:zA prog 258=true:=by kernel_rfl
def qAA:K:=G [kMi 4 0] (Z (G [M 5 1,kQi 6 5 0 false] (Y 6 (G [kMi 4 0] kr) ks)) (G [M 7 0,M 8 1,M 9 0,M 10 1,kC 11 258 [(kt 9),(kt 10)],kB 12 8 11 .mul,kB 13 7 12 .sub,M 4 13] kr))
theorem qIl:ky f259 qAA:=m_ (by kernel_rfl)
@[simp]theorem qJk:zA prog 259=true:=by kernel_rfl
variable{a b:Int}
theorem zS8(ha:Rng a)(hb:Rng b):my 255 [int a,int b] [] (int (eL (a+b))) []:=by obtain⟨a1,a2⟩:=ha;obtain⟨b1,b2⟩:=hb;refine zG func255 rfl qIi (rs:=[.slot 4]) (by kernel_rfl) ?_;unfold qA7;have hw:=z8 (a+b) (by omega);simp[hw];refine mu (zI7 (a+b)) (by simp) ?_;simp;exact zC 0 (by simp)
theorem zSG(ha:Rng a)(hb:Rng b):my 256 [int a,int b] [] (int (eL (a-b))) []:=by obtain⟨a1,a2⟩:=ha;obtain⟨b1,b2⟩:=hb;refine zG func256 rfl qIj (rs:=[.slot 4]) (by kernel_rfl) ?_;unfold qA8;have hw:=z8 (a-b) (by omega);simp[hw];refine mu (zI7 (a-b)) (by simp) ?_;simp;exact zC 0 (by simp)
theorem zNG{m n q:Nat}(hq:1099511627776 / n=q)(hn:0<n):(q<m->1099511627776<m*n)/\(¬q<m->m*n<=1099511627776):=by
 constructor
 .intro h;rw[<-hq]at h;exact(Nat.div_lt_iff_lt_mul hn).1 h
 .intro h;rw[<-hq]at h;have:=mt (Nat.div_lt_iff_lt_mul hn).2 h;omega
theorem zNk(a:Int)(h:a≠0):∃m:Nat,0<m/\(a=m\/a = -(m:Int)):=⟨a.natAbs,by omega,by omega⟩
theorem zNS(ha:Rng a)(hb:Rng b):my 257 [int a,int b] [] (int (eL (a*b))) []:=by
 obtain⟨a1,a2⟩:=ha;obtain⟨b1,b2⟩:=hb;refine zG func257 rfl qIm (rs:=[.slot 4]) (by kernel_rfl) ?_;unfold qAB;by_cases h0:a=0
 .subst h0;simp;exact zC 0 (by simp[eL])
 by_cases h1:b=0
 .subst h1;simp[h0];exact zC 0 (by simp[eL])
 obtain⟨m,m0,hm⟩:=zNk a h0;obtain⟨n,n0,hn⟩:=zNk b h1;obtain⟨q,hq⟩:∃q:Nat,1099511627776 / n=q:=⟨_,rfl⟩;obtain⟨c1,c2⟩:=zNG (m:=m) hq n0;have hqd:Int.tdiv 1099511627776 (n:Int)=(q:Int):=by rw[tdN (by omega),<-hq];rfl
 have hqle:q<=1099511627776:=by rw[<-hq];exact Nat.div_le_self _ _
 have wq:=z8 (q:Int) (by omega);have wm:=z8 (m:Int) (by omega);have wn:=z8 (n:Int) (by omega);have wm':IntKind.i64.wrap (-(m:Int)) = -m:=IntWalk.i64_in _ (by omega);have wn':IntKind.i64.wrap (-(n:Int)) = -n:=IntWalk.i64_in _ (by omega);have x1:¬((m:Int) < -m):=by omega
 have x2:(-(m:Int))<m:=by omega
 have y1:¬((n:Int) < -n):=by omega
 have y2:(-(n:Int))<n:=by omega
 have z1:¬((m:Int)<0):=by omega
 have z2:(-(m:Int))<0:=by omega
 have z3:¬((n:Int)<0):=by omega
 have z4:(-(n:Int))<0:=by omega
 have m1:¬m=0:=by omega
 have n1:¬n=0:=by omega
 have p0:(m:Int)*n=((m*n:Nat):Int):=by push_cast;rfl
 generalize hmn:m*n=s at *
 by_cases hc:(q:Int)<m
 .have hs:=c1 (by omega);have k1:eL (s:Int)=1099511627776:=by unfold eL;rw[if_pos (by omega)]
  have k2:eL (-(s:Int)) = -1099511627776:=by unfold eL;rw[if_neg (by omega),if_pos (by omega)]
  rcases hm with rfl|rfl<;>rcases hn with rfl|rfl<;>simp[m1,n1,wm,wn,wm',wn',x1,x2,y1,y2,z1,z2,z3,z4,m0,n0,hqd,wq,hc]<;>exact zC 0 (by simp[Int.neg_mul,Int.mul_neg,p0,k1,k2])
 .have hs:=c2 (by omega);have k1:eL (s:Int)=s:=by unfold eL;rw[if_neg (by omega),if_neg (by omega)]
  have k2:eL (-(s:Int)) = -s:=by unfold eL;rw[if_neg (by omega),if_neg (by omega)]
  have w1:=z8 (s:Int) (by omega);have w2:=z8 (-(s:Int)) (by omega);rcases hm with rfl|rfl<;>rcases hn with rfl|rfl<;>simp[m1,n1,wm,wn,wm',wn',x1,x2,y1,y2,z1,z2,z3,z4,m0,n0,hqd,wq,hc]<;>exact zC 0 (by simp[Int.neg_mul,Int.mul_neg,p0,k1,k2,w1,w2])
theorem zDO(ha:Rng a)(hb:Rng b):my 258 [int a,int b] [] (int (zBG a b)) []:=by
 obtain⟨a1,a2⟩:=ha;refine zG func258 rfl qIh (rs:=[.slot 4]) (by kernel_rfl) ?_;unfold qA6;by_cases h1:b=0
 .subst h1;simp;exact zC 0 (by simp[zBG])
 have ht:=zNn (b:=b) a1 a2;have w1:=z8 (a.tdiv b) (by omega);have w2:=z8 (a.tdiv b-1) (by omega);have e:zBG a b=if a.tmod b≠0/\¬(a<0↔b<0)then a.tdiv b-1 else a.tdiv b:=by unfold zBG;rw[if_neg h1]
 rw[e];by_cases hm:a.tmod b=0
 .simp[h1,hm,w1];exact zC 0 (by simp[hm])
 by_cases s1:a<0<;>by_cases s2:b<0<;>simp[h1,hm,w1,s1,s2,w2]<;>exact zC 0 (by simp[hm,s1,s2])
theorem zQ0(ha:Rng a)(hb:Rng b):my 259 [int a,int b] [] (int (zHF a b)) []:=by
 have hd:=zDO ha hb;refine zG func259 rfl qIl (rs:=[.slot 4]) (by kernel_rfl) ?_;unfold qAA;by_cases h1:b=0
 .subst h1;simp;exact zC 0 (by simp[zHF])
 have hr:=zEE (a:=a) hb.1 hb.2;have e:zHF a b=a-b*zBG a b:=by unfold zHF;rw[if_neg h1]
 obtain⟨a1,a2⟩:=ha;have w1:=z8 (b*zBG a b) (by omega);have w2:=z8 (a-b*zBG a b) (by omega);simp[h1];refine mu hd (by simp) ?_;simp[w1,w2];exact zC 0 (by simp[e])
def zJK:Go.Shelf.Ren:=⟨fun | 4=>238|n=>n,fun | 0=>0 | 3=>3 | 4=>4 | 9=>9 | 20=>20 | 22=>82 | 25=>84|n=>n,fun n=>n⟩
theorem zQV:Go.Proofs.Lays8.n4 prog zJK:={
 mixed:=by kernel_rfl,
 f4:=⟨f238.name,by decide,func238.trans (congrArg some (by kernel_rfl))⟩,
 t0:=underlying0,
 a0:=isAgg0,
 z0:=sizeOf0,
 v0:=zeroValue0,
 t3:=underlying3,
 a3:=isAgg3,
 z3:=sizeOf3,
 v3:=zeroValue3,
 t4:=underlying4,
 a4:=isAgg4,
 z4:=sizeOf4,
 v4:=zeroValue4,
 t9:=underlying9,
 a9:=isAgg9,
 z9:=sizeOf9,
 v9:=zeroValue9,
 t20:=underlying20,
 a20:=isAgg20,
 z20:=sizeOf20,
 v20:=zeroValue20,
 t22:=underlying82,
 a22:=isAgg82,
 z22:=sizeOf82,
 v22:=zeroValue82}
@[simp]theorem qCs:zA prog 238=true:=by kernel_rfl
theorem zIT(n:Nat)(hn:n<=1000000):my 238 [.nil,int n] [] (.row 0 0) [.row false 84 3 0 []] :=
 zGh (ρ:=zJK) (sz:=3) (bs:=40) (z:=.agg #[.int .i64 0,.int .i64 0,.slice none 0 0]) zQV (by kernel_rfl) rfl (by omega) (by omega) (by omega)
def zHY:K:=G [kMn 2] (G [kMi 3 0] (Z (G [M 9 0,kN 10 9,kMi 11 0] (K.block 0 (K.loop (G [kB 12 11 10 .lss] (Z (Y 12 ks (K.exit 0)) (Z (K.block 1 (G [kX 13 9 11 1,L 14 13 1,M 5 14] (G [M 15 3,M 16 5,kN 17 16,kB 18 15 17 .add,M 3 18] (G [M 19 3,kBi 20 19 0 .lss] (Y 20 (K.ops [⟨none,.mki (some 21) 9 (.const (.string ⟨#[108,101,110,32,111,117,116,32,111,102,32,114,97,110,103,101]⟩))⟩,⟨none,.pan none (kt 21)⟩]) ks))))) (K.ops [kBi 22 11 1 .add,M 11 22]))))))) (G [M 23 3,kC 24 238 [(.const kl),(kt 23)],M 6 24] (Z (G [M 25 0,kN 26 25,kMi 27 0] (K.block 2 (K.loop (G [kB 28 27 26 .lss] (Z (Y 28 ks (K.exit 2)) (Z (K.block 3 (G [kX 29 25 27 1,L 30 29 1,M 8 30] (K.ops [M 31 6,M 32 8,kP 33 84 3 40 31 32,M 6 33]))) (K.ops [kBi 34 27 1 .add,M 27 34]))))))) (G [M 35 6,M 2 35] kr)))))
theorem zPW:ky f231 zHY:=m_ (by kernel_rfl)
@[simp]theorem zWi:zA prog 231=true:=by kernel_rfl
def b8(Ls:List wI):wF:=Ls.map fun l=>A.sl l.length (zT l)
theorem oE:∀(Ls:List wI),qT (b8 Ls)
 |[]=>qT.nil
 |l::Ls=>by
  have h1:=oE Ls;have h2:=dL l;refine⟨?_,fun rf g=>?_⟩
  .show jE (A.sl l.length (zT l)::b8 Ls)=_;simp[h1.1];rfl
  .show vwL rf g (A.sl l.length (zT l)::b8 Ls)=_;simp[h1.2];rfl
@[simp]theorem zTy(l:List wI):jE (b8 l)=b8 l:=(oE l).1
@[simp]theorem zXW{rf g}(l:List wI):vwL rf g (b8 l)=b8 l:=(oE l).2 _ _
@[simp]theorem zU6(l:List wI):(b8 l).length=l.length:=by simp[b8]
variable{Ls:List wI}{i:Nat}
theorem zA7(h:i<Ls.length):(b8 Ls).drop i=.sl Ls[i].length (zT Ls[i])::b8 (Ls.drop (i+1)):=by rw[b8,<-List.map_drop,jBb h];rfl
def nJ(Ls:List wI):Nat:=Ls.flatten.length
theorem zGJ(h:i<Ls.length):nJ (Ls.take (i+1))=nJ (Ls.take i)+Ls[i].length:=by rw[nJ,nJ,jA8 h,jCi];simp
theorem zNp(Ls:List wI)(i:Nat):nJ (Ls.take i)<=nJ Ls:=by
 have:Ls.flatten=(Ls.take i).flatten++(Ls.drop i).flatten:=by rw[<-jCi,jBs]
 rw[nJ,nJ,this,jA4];omega
theorem zFz(Ls:List wI)(hb:nJ Ls<=1000000):my 231 [.sl Ls.length (b8 Ls)] [] (.sl (nJ Ls) (zT Ls.flatten)) []:=by
 refine zG func231 rfl zPW (rs:=[.slot 2]) (by kernel_rfl) ?_;unfold zHY;simp;intro hl;refine qH (S:=Nat) (fun i=>[(0,.sl Ls.length (b8 Ls)),(3,int (nJ (Ls.take i))),(9,.sl Ls.length (b8 Ls)),(10,int Ls.length),(11,int i)]) (fun s=>[]) (fun i=>i<=Ls.length) (fun i=>Ls.length-i) 0 (by simp)
  (mw [] 0 (by rfl) (by simp[nJ])) ?_
 intro i hi;by_cases h:i<Ls.length
 .have ht:=zGJ h;have hle:=zNp Ls (i+1);have hw:IntKind.i64.wrap ((nJ (Ls.take i):Int)+(Ls[i].length:Int))=(nJ (Ls.take (i+1)):Nat):=by rw[ht];push_cast;exact IntWalk.i64_in _ (by omega)
  have h0:¬((nJ (Ls.take (i+1)):Nat):Int)<0:=by omega
  simp[h,zA7 h];intro _;simp[hw,h0];exact zN (i+1) h (by omega) (mw [] 0 (by rfl) (by simp[zY h hl]))
 .have hil:i=Ls.length:=by omega
  subst hil;have hI:¬(Ls.length:Int)<Ls.length:=by omega
  simp;refine mr (zIT (nJ Ls) hb) [] (by simp) ?_;simp;intro _;refine qH (S:=Nat) (fun i=>[(6,.row 0 (nJ (Ls.take i))),(25,.sl Ls.length (b8 Ls)),(26,int Ls.length),(27,int i)]) (fun i=>[.row false 84 3 (nJ (Ls.take i)) (zT (Ls.take i).flatten)]) (fun i=>i<=Ls.length) (fun i=>Ls.length-i) 0 (by simp)
   (mw [0] 0 (by rfl) (by simp[nJ])) ?_
  intro i hi;by_cases h:i<Ls.length
  .have ht:=zGJ h;have hle:=zNp Ls (i+1);have hf:(Ls.take (i+1)).flatten=(Ls.take i).flatten++Ls[i]:=by rw[jA8 h,jCi];simp
   simp[h,zA7 h];refine⟨⟨by simp[maxLen];omega,by omega⟩,?_⟩;exact zN (i+1) h (by omega) (mw [0] 0 (by rfl) (by simp[ht,hf,dV,zY h hl]))
  .have hil:i=Ls.length:=by omega
   subst hil;simp;exact zC 1 (by simp)
def qA5:K:=G [kMn 2] (G [kMn 3] (Z (G [M 6 0,kN 7 6,kMi 8 0] (K.block 0 (K.loop (G [kB 9 8 7 .lss] (Z (Y 9 ks (K.exit 0)) (Z (K.block 1 (G [kX 10 6 8 3,J 11 10 3,kZ 5 [ki,ki,kl],S 5 11 3] (G [D 12 5 2,L 13 12 1,kC 14 149 [(kt 13)],D 15 5 2,S 15 14 1] (K.ops [M 16 3,J 17 5 3,kd 18 84 3 1 [ki,ki,kl] [(0,3,(kt 17))],kP 19 84 3 40 16 18,M 3 19])))) (K.ops [kBi 20 8 1 .add,M 8 20]))))))) (G [M 21 3,M 2 21] kr)))
theorem qIg:ky f149 qA5:=m_ (by kernel_rfl)
mutual
theorem zDN:∀(l:wI),jK l<=1000000->my 149 [.sl l.length (zT l)] [] (.sl l.length (zT l)) []
 |l,hz=>by
  have hl6:=nB l;refine zG func149 rfl qIg (rs:=[.slot 2]) (by kernel_rfl) ?_;unfold qA5;simp;intro hl;refine qH (S:=Nat) (fun i=>[(3,.row 0 i),(6,.sl l.length (zT l)),(7,int l.length),(8,int i)]) (fun i=>[.row false 84 3 i (zT (l.take i))]) (fun i=>i<=l.length) (fun i=>l.length-i) 0 (by simp)
   ((jS (t:=3) (by simp) 84 3).trans (mw [0] 0 (by rfl) (by simp))) ?_
  intro i hi;by_cases h:i<l.length
  .have hk:=zC8 l hz l[i] (jA0 h);have ht:zT (l.take (i+1))=zT (l.take i)++[.lit (.int .i64 l[i].k),.lit (.int .i64 l[i].n),.sl l[i].kids.length (zT l[i].kids)]:=by rw[jA8 h,dV];simp
   simp[h,j6 h];refine mu hk (by simp) ?_;simp;refine⟨⟨by simp[maxLen];omega,by omega⟩,?_⟩;exact zN (i+1) h (by omega) (mw [0] 0 (by rfl) (by simp[ht,zY h hl]))
  .have hil:i=l.length:=by omega
   subst hil;simp;exact zC 1 (by simp)
theorem zC8:∀(l:wI),jK l<=1000000->∀x∈l,my 149 [.sl x.kids.length (zT x.kids)] [] (.sl x.kids.length (zT x.kids)) []
 |[],_,x,h=>by simp at h
 | .mk k n ks::l,hz,x,h=>by
  simp only[jK,qU]at hz
  if e:x∈l then exact zC8 l (by omega) x e
  else
   have:x=.mk k n ks:=(jA3.1 h).resolve_right e;subst this;exact zDN ks (by omega)
end
def qA9:K:=G [kZ 4 [ki,ki,kl]] (Z (G [M 7 0,kBi 8 7 0 .geq,M 9 8,T 9 true (M 10 0),T 9 true (kBi 11 10 5 .lss),kPf 12 9 11,M 13 12,T 13 true (M 14 1),T 13 true (kN 15 14),T 13 true (kQi 16 15 2 false),kPf 17 13 16] (Y 17 (Z (K.dops [(0,0,M 18 0),(1,0,⟨none,.idxarr (some 19) (.global 0) (kt 18) 5 1⟩),(2,0,L 20 19 1),(3,0,M 21 1),(4,0,kXi 22 21 3 0),(5,0,D 23 22 1),(6,0,L 24 23 1),(7,0,M 25 1),(8,0,kXi 26 25 3 1),(9,0,D 27 26 1),(10,0,L 28 27 1),(11,0,⟨none,.call (some 29) (kt 20) [(kt 24),(kt 28)]⟩),(12,0,kb 30 [ki,ki,kl] [(1,1,(kt 29))]),(13,0,S 4 30 3)]) kr) ks)) (Z (K.block 0 (G [M 32 0,kQi 33 32 9 false,M 34 33,T 34 true (M 35 1),T 34 true (kN 36 35),T 34 true (kQi 37 36 1 false),kPf 38 34 37,M 31 38] (Y 31 (G [M 39 1,kXi 40 39 3 0,D 41 40 1,L 42 41 1,kQi 43 42 0 false,kC 44 217 [(kt 43)],S 4 44 3] kr) (G [M 46 0,kQi 47 46 11 false,M 48 47,T 48 true (M 49 1),T 48 true (kN 50 49),T 48 true (kQi 51 50 1 false),kPf 52 48 51,M 45 52] (Y 45 (G [M 53 1,kXi 54 53 3 0,D 55 54 2,L 56 55 1,kN 57 56,kb 58 [ki,ki,kl] [(1,1,(kt 57))],S 4 58 3] kr) (G [M 60 1,kN 61 60,kQi 62 61 2 true,M 59 62] (Y 59 (G [kb 63 [ki,ki,kl] [],S 4 63 3] kr) ks))))))) (Z (K.wk (K.dops [(0,0,M 64 1),(1,2,kXi 65 64 3 0),(2,2,J 66 65 3),(3,0,M 67 1),(4,2,kXi 68 67 3 1),(5,2,J 69 68 3),(6,301,⟨none,.alr (some 5) 1 [ki,ki,kl]⟩),(7,302,⟨none,.alr (some 6) 2 [ki,ki,kl]⟩),(8,0,S 5 66 3),(9,0,S 6 69 3)])) (Z (G [M 70 0] (K.block 1 (G [kQi 72 70 5 false,M 71 72] (Y 71 (G [D 73 5 1,L 74 73 1,D 75 6 1,
 L 76 75 1,kB 77 74 76 .lss,kC 78 217 [(kt 77)],S 4 78 3] kr) (G [kQi 80 70 6 false,M 79 80] (Y 79 (G [J 81 5 3,J 82 6 3,kC 83 145 [(kt 81),(kt 82)],kQi 84 83 0 false,kC 85 217 [(kt 84)],S 4 85 3] kr) (G [kQi 87 70 7 false,M 86 87] (Y 86 (G [D 88 5 1,L 89 88 1,kQi 90 89 0 true,M 91 90,T 91 true (D 92 6 1),T 91 true (L 93 92 1),T 91 true (kQi 94 93 0 true),kPf 95 91 94,kC 96 217 [(kt 95)],S 4 96 3] kr) (G [kQi 98 70 8 false,M 97 98] (Y 97 (G [D 99 5 1,L 100 99 1,kQi 101 100 0 true,M 102 101,T 102 false (D 103 6 1),T 102 false (L 104 103 1),T 102 false (kQi 105 104 0 true),kPt 106 102 105,kC 107 217 [(kt 106)],S 4 107 3] kr) (G [kQi 109 70 10 false,M 108 109] (Y 108 (G [D 110 5 2,L 111 110 1,D 112 6 2,L 113 112 1,kd 114 82 1 2 [kl,kl] [(0,1,(kt 111)),(1,1,(kt 113))],kC 115 231 [(kt 114)],kC 116 149 [(kt 115)],kb 117 [ki,ki,kl] [(0,1,(kc 4)),(2,1,(kt 116))],S 4 117 3] kr) ks)))))))))))) (G [kb 118 [ki,ki,kl] [],S 4 118 3] kr)))))
def qKK:Nat->Option wE:=fun|9=>k_ [0,2,2,0,2,2,301,302,0,0]|_=>none
theorem qIk:kx f220 qKK qA9:=mz (by kernel_rfl)
@[simp]theorem qJj:zA prog 220=true:=by kernel_rfl
@[simp]theorem qEM(b:Bool):(fM b).k=1:=rfl
@[simp]theorem qEN(b:Bool):(fM b).n=if b then 1 else 0:=rfl
@[simp]theorem zV5(b:Bool):(fM b).kids=[]:=rfl
@[simp]theorem zWL{env:Env}:ev env (.global 0)=.rptr [.clo 255 [] [],.clo 256 [] [],.clo 257 [] [],.clo 258 [] [],.clo 259 [] []]:=rfl
theorem y9:2<=maxLen:=by simp[maxLen]
theorem gT:1<=maxLen:=by simp[maxLen]
variable{p:Prg}{t:Typ}
theorem zWJ{n:Int}{ts:wT}(h:OpT n ts t){vs:wI}(hv:TyL p ts vs)(hs:∀v∈vs,qU v<=256):my 220 [int n,.sl vs.length (zT vs)] [] (.agg (z7 (opV n vs))) []:=by
 refine zJ func220 rfl qIk (rs:=[.cell 4 3 true]) (by kernel_rfl) ?_;unfold qA9;cases h with
 |arith n h1 h2 =>
  obtain⟨a,b,rfl,ha,hb⟩:=hv.two;obtain⟨x,rfl,hx⟩:=ha.int_inv;obtain⟨y,rfl,hy⟩:=hb.int_inv;have e:opV n [.mk 0 x [],.mk 0 y []]=.mk 0 (zF7 n x y) []:=by simp only[opV,if_pos h2];rfl
  rw[e];have hn:n=0\/n=1\/n=2\/n=3\/n=4:=by omega
  rcases hn with rfl|rfl|rfl|rfl|rfl
  .simp[Val.k,Val.n,Val.kids,y9,gT];refine qB (zS8 hx hy) (by simp) (by simp) ?_;simp;exact zC 0 (by simp[z7,Val.k,Val.n,Val.kids,zF7])
  .simp[Val.k,Val.n,Val.kids,y9,gT];refine qB (zSG hx hy) (by simp) (by simp) ?_;simp;exact zC 0 (by simp[z7,Val.k,Val.n,Val.kids,zF7])
  .simp[Val.k,Val.n,Val.kids,y9,gT];refine qB (zNS hx hy) (by simp) (by simp) ?_;simp;exact zC 0 (by simp[z7,Val.k,Val.n,Val.kids,zF7])
  .simp[Val.k,Val.n,Val.kids,y9,gT];refine qB (zDO hx hy) (by simp) (by simp) ?_;simp;exact zC 0 (by simp[z7,Val.k,Val.n,Val.kids,zF7])
  .simp[Val.k,Val.n,Val.kids,y9,gT];refine qB (zQ0 hx hy) (by simp) (by simp) ?_;simp;exact zC 0 (by simp[z7,Val.k,Val.n,Val.kids,zF7])
 |less =>
  obtain⟨a,b,rfl,ha,hb⟩:=hv.two;obtain⟨x,rfl,hx⟩:=ha.int_inv;obtain⟨y,rfl,hy⟩:=hb.int_inv;simp[Val.k,Val.n,Val.kids,y9,gT];refine⟨_,_,bL 2,?_⟩;simp[Val.k,Val.n,Val.kids,y9,gT];refine mu (fA (decide (x<y))) (by simp[z7]) ?_;simp[z7];exact zC 0 (by by_cases hx0:x<y<;>simp[z7,opV,yL,hx0])
 |same u =>
  obtain⟨a,b,rfl,ha,hb⟩:=hv.two;simp[y9];refine⟨_,_,bL 2,?_⟩;simp[y9];refine mu (zHc a b) (by simp[z7]) ?_;simp;refine mu (fA (decide (nG a b=0))) (by simp[z7]) ?_;simp[z7];exact zC 0 (by simp[z7,opV])
 |andor n h =>
  obtain⟨a,b,rfl,ha,hb⟩:=hv.two;obtain⟨x,rfl,hx⟩:=ha.bool_inv;obtain⟨y,rfl,hy⟩:=hb.bool_inv;rcases h with rfl|rfl
  .rcases hx with rfl|rfl<;>rcases hy with rfl|rfl
   .simp[Val.k,Val.n,Val.kids,y9];refine⟨_,_,bL 2,?_⟩;simp[Val.k,Val.n,Val.kids,y9];refine mu (fA false) (by simp[z7]) ?_;simp[z7];exact zC 0 (by simp[z7,opV,yL])
   .simp[Val.k,Val.n,Val.kids,y9];refine⟨_,_,bL 2,?_⟩;simp[Val.k,Val.n,Val.kids,y9];refine mu (fA false) (by simp[z7]) ?_;simp[z7];exact zC 0 (by simp[z7,opV,yL])
   .simp[Val.k,Val.n,Val.kids,y9];refine⟨_,_,bL 2,?_⟩;simp[Val.k,Val.n,Val.kids,y9];refine mu (fA false) (by simp[z7]) ?_;simp[z7];exact zC 0 (by simp[z7,opV,yL])
   .simp[Val.k,Val.n,Val.kids,y9];refine⟨_,_,bL 2,?_⟩;simp[Val.k,Val.n,Val.kids,y9];refine mu (fA true) (by simp[z7]) ?_;simp[z7];exact zC 0 (by simp[z7,opV,yL])
  .rcases hx with rfl|rfl<;>rcases hy with rfl|rfl
   .simp[Val.k,Val.n,Val.kids,y9];refine⟨_,_,bL 2,?_⟩;simp[Val.k,Val.n,Val.kids,y9];refine mu (fA false) (by simp[z7]) ?_;simp[z7];exact zC 0 (by simp[z7,opV,yL])
   all_goals
    simp[Val.k,Val.n,Val.kids,y9];refine⟨_,_,bL 2,?_⟩;simp[Val.k,Val.n,Val.kids,y9];refine mu (fA true) (by simp[z7]) ?_;simp[z7];exact zC 0 (by simp[z7,opV,yL])
 |not =>
  obtain⟨a,rfl,ha⟩:=hv.one;obtain⟨x,rfl,hx⟩:=ha.bool_inv;simp[Val.k,Val.n,Val.kids,y9,gT];refine mu (fA (decide (x=0))) (by simp[z7]) ?_;simp[z7];exact zC 0 (by by_cases hx0:x=0<;>simp[z7,opV,yL,hx0])
 |join u =>
  obtain⟨a,b,rfl,ha,hb⟩:=hv.two;have h1:=hs a (by simp);have h2:=hs b (by simp);cases a with|mk k1 n1 l1 =>
  cases b with|mk k2 n2 l2 =>
  simp only[qU]at h1 h2;have z1:=nB l1;have z2:=nB l2;have hc:my 231 [.sl 2 [.sl l1.length (zT l1),.sl l2.length (zT l2)]] [] (.sl (l1.length+l2.length) (zT (l1++l2))) []:=by simpa[b8,nJ]using zFz [l1,l2] (by simp[nJ];omega)
  have hk:=zDN (l1++l2) (by rw[fS];omega);rw[jA4]at hk;simp[Val.k,Val.n,Val.kids,y9,gT];refine⟨_,_,bL 2,?_⟩;simp[Val.k,Val.n,Val.kids,y9,gT];refine mu hc (by simp) ?_;simp;refine mu hk (by simp) ?_;simp;exact zC 0 (by simp[z7,opV,Val.k,Val.n,Val.kids])
 |len u =>
  obtain⟨a,rfl,ha⟩:=hv.one;simp[gT];exact fun _=>zC 0 (by simp[z7,opV,Val.k,Val.n,Val.kids])
def qBb:K:=G [kO 3 0,kZ 6 [kl,kl]] (G [kd 10 42 31 0 [] [],D 11 3 1,L 12 11 1,kP 13 42 31 352 10 12,D 14 3 1,S 14 13 1] (Z (G [kMi 7 0] (K.block 0 (K.loop (Z (G [M 15 7,M 16 2,kB 17 15 16 .lss,M 18 17,T 18 true (M 19 7),T 18 true (kBi 20 19 2 .add),T 18 true (M 21 1),T 18 true (kN 22 21),T 18 true (kB 23 20 22 .lss),kPf 24 18 23,M 25 24,T 25 true (D 26 3 1),T 25 true (L 27 26 1),T 25 true (kN 28 27),T 25 true (kBi 29 28 0 .gtr),kPf 30 25 29] (Y 30 ks (K.exit 0))) (Z (K.block 1 (G [M 33 1,M 34 7,D 35 3 1,L 36 35 1,kN 37 36,kC 38 34 [(kt 33),(kt 34),(kt 37)],M 8 38] (G [D 39 3 1,L 40 39 1,M 41 8,kX 42 40 41 31,J 43 42 31,kC 44 113 [(kt 43)]] (Y 44 (G [M 45 1,M 46 7,kBi 47 46 1 .add,D 48 3 1,L 49 48 1,M 50 8,kX 51 49 50 31,D 52 51 14,J 53 52 15,kC 54 114 [(kt 53)],kC 55 34 [(kt 45),(kt 47),(kt 54)],M 9 55] (K.dops [(0,0,D 57 3 1),(1,0,L 58 57 1),(2,0,M 59 8),(3,0,D 60 3 1),(4,0,L 61 60 1),(5,0,M 62 8),(6,0,kX 63 61 62 31),(7,0,D 64 63 14),(8,0,J 65 64 15),(9,0,M 66 9),(10,0,M 67 1),(11,0,M 68 7),(12,0,kBi 69 68 2 .add),(13,0,kC 70 34 [(kt 67),(kt 69),(kc 1000)]),(14,0,kC 71 115 [(kt 65),(kt 66),(kt 70)]),(15,0,M 56 71),(16,0,kE 72 56 0),(17,0,kE 73 56 1),(18,0,kX 74 58 59 31),(19,0,D 75 74 14),(20,0,S 75 72 15)])) ks)))) (K.ops [M 31 7,kBi 32 31 1 .add,M 7 32])))))) (G [J 76 3 2,S 6 76 2] kr)))
theorem qIC:ky f52 qBb:=m_ (by kernel_rfl)
def r9(l:wC)(ds:wS)(i:Nat):wS:=match ds[(atV l i ds.length).toNat]? with
 |some d=>if eV d.kind then ds.set (atV l i ds.length).toNat (d.wb (yT d.body (atV l (i+1) (tmps d.body).length) (atV l (i+2) 1000)).1)else ds
 |none=>ds
def bU(l:wC)(ds:wS):Nat->wS
 | 0=>ds
 |i+1=>r9 l (bU l ds i) i
theorem zMa(l:wC)(ds:wS)(i:Nat):(r9 l ds i).length=ds.length:=by
 unfold r9;split
 .split<;>simp
 .rfl
theorem pM(l:wC)(ds:wS):∀i:Nat,(bU l ds i).length=ds.length
 | 0=>rfl
 |i+1=>by simp only[bU];rw[zMa,pM l ds i]
theorem zKr(l:wC){ds:wS}{P:Dfn->Prop}(h:∀d∈ds,P d)(hs:∀d,P d->∀a x,P (d.wb (yT d.body a x).1)):∀d∈r9 l ds i,P d:=by
 unfold r9;split
 .rename_i d hd;split
  .intro d' hd';rcases List.mem_or_eq_of_mem_set hd' with hd'|rfl
   .exact h d' hd'
   .exact hs _ (h _ (jBu hd)) _ _
  .exact h
 .exact h
theorem zAn(l:wC){ds:wS}{P:Dfn->Prop}(h:∀d∈ds,P d)(hs:∀d,P d->∀a x,P (d.wb (yT d.body a x).1)):∀i:Nat,∀d∈bU l ds i,P d
 | 0=>h
 |i+1=>zKr l (zAn l h hs i) hs
structure FineD(d:Dfn):Prop where
 s1:1<=d.slots.length
 s6:d.slots.length<=6
 nice:d.body.nice
 size:(tmps d.body).length<=32768
theorem FineP.get(h:FineP p):∀d∈p.defs,FineD d:=fun d hd=>⟨(h.slots d hd).1,(h.slots d hd).2,h.nice d hd,h.size d hd⟩
theorem FineP.mk'(h1:p.defs.length<=9)(h2:p.mods.length<=100)(h:∀d∈p.defs,FineD d):FineP p:=⟨h1,h2,fun d hd=>⟨(h d hd).s1,(h d hd).s6⟩,fun d hd=>(h d hd).nice,fun d hd=>(h d hd).size⟩
theorem FineD.tweak{d:Dfn}(h:FineD d)(a x:Int):FineD (d.wb (yT d.body a x).1):=by have:=zFf x d.body a h.nice;exact⟨h.s1,h.s6,this.1,by have:=this.2;have:=h.size;simp only[Dfn.wb];omega⟩
theorem zFd(l:wC)(h:FineP p)(i:Nat):FineP ⟨p.mods,bU l p.defs i⟩ :=
 FineP.mk' (by simp only[pM];exact h.defs) h.mods (zAn l h.get (fun d hd a x=>hd.tweak a x) i)
def oP(l:wC)(most:Nat):Nat:=min most (l.length-2)
theorem zGL(p:Prg)(hf:FineP p)(h0:0<p.defs.length)(l:wC)(hl:∀x∈l,w64 x=x)(most:Nat)(hm:most<=100) :
 my 52 [.agg (zI p),.sl l.length (y3 l),int most] [] (.agg (zI ⟨p.mods,bU l p.defs (oP l most)⟩)) []:=by
 obtain⟨N,hN⟩:∃N,N=oP l most:=⟨_,rfl⟩;rw[<-hN];have hNm:N<=most:=by rw[hN];exact Nat.min_le_left _ _
 have hNl:N<=l.length-2:=by rw[hN];exact Nat.min_le_right _ _
 have hd9:=hf.defs;refine zG func52 rfl qIC (rs:=[.cell 6 2 true]) (by kernel_rfl) ?_;unfold qBb;have hnil:p.defs≠[]:=fun e=>by rw[e]at h0;simp at h0
 simp[zI,hnil];refine⟨⟨by simp[maxLen];omega,by omega⟩,?_⟩;refine qH (S:=Nat) (fun i=>[(1,.sl l.length (y3 l)),(2,int most),(3,.ptr 0 0),(6,.ptr 1 0),(7,int i)])
  (fun i=>[.box [.sl p.mods.length (qC p.mods),.row 2 p.defs.length],.box [.nil,.nil],.row false 42 31 p.defs.length (zV (bU l p.defs i))]) (fun i=>i<=N) (fun i=>N-i) 0 (by simp)
  (mw [0,1,2] 0 (by rfl) (by simp[bU])) ?_
 intro i hi;have wi2:=z8 ((i:Int)+2) (by omega);by_cases h:i<N
 .have c1:(i:Int)<most:=by omega
  have c2:(i:Int)+2<l.length:=by omega
  have wi1:=yU i (by omega);have hlen:=pM l p.defs i;have hfi:=(zFd l hf i).get;have hstep:bU l p.defs (i+1)=r9 l (bU l p.defs i) i:=rfl;simp only at hfi;generalize hTs:bU l p.defs (i+1)=T' at hstep;generalize hT:bU l p.defs i=T at *
  have hat:=dQ l i p.defs.length (by omega);obtain⟨a1,a2⟩:=yN (i:=i) hl (most:=(p.defs.length:Int)) (by omega);obtain⟨k,hk⟩:∃k:Nat,atV l i p.defs.length=k:=⟨(atV l i p.defs.length).toNat,by omega⟩;have hkT:k<T.length:=by omega
  have hkd:k<p.defs.length:=by omega
  rw[hk]at hat;unfold r9 at hstep;rw[hlen,hk,jCm,jA2 hkT]at hstep;have hdr:=j5 hkT;have hwb:=fun e=>uP hkT e
  have hfd:=hfi _ (jA0 hkT);generalize T[k]=d at *
  simp only at hstep;have hb31:k*31+31<=p.defs.length*31:=by omega
  have hb14:k*31+14+15<=p.defs.length*31:=by omega
  have hdr14:List.drop (k*31+14) (zV T)=(zQ d++zV (T.drop (k+1))).drop 14:=by rw[<-jAy,hdr]
  have hhb:=zSS d;simp[c1,c2,wi2,h0]
  intros
  refine mu hat (by simp) ?_;simp[hkd,hdr,hb31,zQ,hlen];refine mu hhb (by simp[zQ]) ?_;cases hbk:eV d.kind
  .rw[hbk]at hstep;simp only[jAj,if_false]at hstep;subst hstep;simp;exact zN (i+1) h (by omega) (mw [0,1,2] 0 (by rfl) (by simp[hT,hTs,wi1]))
  .rw[hbk]at hstep;simp only[if_true]at hstep;have hsz:=hfd.size;have hn1:1<=(tmps d.body).length:=by rw[a7,jA4,jAn];omega
   have hnod:=zEy d.body (by omega);have hat1:=dQ l (i+1) (tmps d.body).length (by omega);obtain⟨b1,b2⟩:=yN (i:=i+1) hl (most:=((tmps d.body).length:Int)) (by omega);have hat2:=dQ l (i+2) 1000 (by omega);have htw:=zKs d.body (zMO _ hfd.nice) (by omega) (atV l (i+1) (tmps d.body).length) (atV l (i+2) 1000) b1 (by omega);simp[hlen,hkd,hdr14,hb14,zQ,wi1];refine mu hnod (by simp[zH]) ?_;simp[wi1];refine mu hat1 (by simp) ?_;simp[hlen,hkd,hdr14,hb14,zQ,wi2];refine qB hat2 (by simp) (by simp) ?_;simp[hlen,hkd,hdr14,hb14,zQ];refine qB htw (by simp[zH]) (by simp[twR]) ?_;simp[hlen,twR,hkd,hb14];exact zN (i+1) h (by omega) (kf [0,1,2] 0 (by rfl) (by simp[hTs,hstep,<-hwb]) (by simp[wi1]))
 .have hie:i=N:=by omega
  subst hie;have hlen:=pM l p.defs i;by_cases c1:(i:Int)<most
  .have c2:¬(i:Int)+2<l.length:=by have:i=min most (l.length-2):=hN;omega
   simp[c1,c2,wi2]
   intros
   exact zC 1 (by simp[zI,hlen])
  .simp[c1];exact zC 1 (by simp[zI,hlen])
@[simp]theorem qJC:zA prog 237=true:=by kernel_rfl
@[simp]theorem qJK:zA prog 236=true:=by kernel_rfl
@[simp]theorem qJI:zA prog 229=true:=by kernel_rfl
def zAf(f:Int->Id)(x:Id):Id:=if x.b=0 then f x.c else x
def zCl(f:Int->Id)(b:Bnd):Bnd:={b with id:=zAf f b.id}
def qAx(f:Int->Id)(env:wJ):Prop:=∀b∈env,∀b'∈env,zAf f b.id=zAf f b'.id->b.id=b'.id
variable{f:Int->Id}{x:Id}
theorem zO4{env:wJ}(h:qAx f env){n:Int}:fG env x n=some t->fG (env.map (zCl f)) (zAf f x) n=some t:=by
 have hmem:fG env x n=some t->∃b∈env,b.id=x:=by intro he;unfold fG at he;rw[jAe]at he;obtain⟨b,hb,_⟩:=he;have h1:=jD6 hb;have h2:=jD7 hb;rw[jA7]at h1;exact⟨b,List.mem_reverse.1 h2,of_decide_eq_true h1.1⟩
 intro he;obtain⟨b0,hb0,rfl⟩:=hmem he;clear hmem;have key:∀l:wJ,(∀b∈l,b∈env)->fG l b0.id n=some t->fG (l.map (zCl f)) (zAf f b0.id) n=some t:=by
  intro l;induction l using eI with
  |nil=>intro _ h;simp[fG]at h
  |snoc l y ih =>
   intro hl hk;rw[rL]at hk;rw[jBh,jDc,rL];have hy:=hl y (by simp);by_cases c1:y.id=b0.id
   .by_cases c2:y.n=n
    .rw[if_pos ⟨c1,c2⟩]at hk;rw[if_pos ⟨by simp only[zCl];rw[c1],c2⟩];exact hk
    .rw[if_neg fun h=>c2 h.2]at hk;rw[if_neg fun h=>c2 h.2];exact ih (fun b hb=>hl b (jBq _ hb)) hk
   .rw[if_neg fun h=>c1 h.1]at hk;rw[if_neg fun e=>c1 (h y hy b0 hb0 e.1)];exact ih (fun b hb=>hl b (jBq _ hb)) hk
 exact key env (fun _ h=>h) he
theorem zGI:∀l:wH,l.length<=(jG l).length
 |[]=>by simp
 |e::l=>by
  have:=zGI l;have h1:1<=(tmps e).length:=by rw[a7];simp
  simp only[jAb,jG,jA4];omega
theorem zFc:∀{l:wH} {e:Exp},e∈l->(tmps e).Sublist (jG l)
 |x::l,e,h=>by
  simp only[jG];rcases jA3.1 h with rfl|h
  .exact List.sublist_append_left _ _
  .exact(zFc h).trans (List.sublist_append_right _ _)
structure Frs(f:Int->Id)(env:List Bnd)(e:Exp):Prop where
 nd:(tmps e).Nodup
 num:e.num0
 inj:∀c∈tmps e,∀c'∈tmps e,f c=f c'->c=c'
 new:∀b∈env,∀c∈tmps e,zAf f b.id≠f c
 len:(tmps e).length<=32768
 ib:qAx f env
section
variable{f:Int->Id}{env:wJ}{i:Id}{k n:Int}{r:Id}{u:Typ}{ks:wH}{ns:List ByteArray}
theorem Frs.id(h:Frs f env (.mk i k n r u ks ns)):i=⟨0,0,i.c⟩:=by obtain⟨a,b,c⟩:=i;have:=h.num;simp only[Exp.num0]at this;simp[this.1.1,this.1.2]
theorem Frs.kid(h:Frs f env (.mk i k n r u ks ns)){e:Exp}(he:e∈ks):Frs f env e:=by
 obtain⟨h1,h2,h3,h4,h5,h6⟩:=h;simp only[tmps]at h1 h3 h4 h5;simp only[Exp.num0,zBZ]at h2;have hs:=zFc he;have hm:∀c∈tmps e,c∈jG ks++[i.c]:=fun c hc=>jBq _ (hs.subset hc)
 exact⟨(jD.1 h1).1.sublist hs,h2.2 e he,fun c hc c' hc'=>h3 c (hm c hc) c' (hm c' hc'),fun b hb c hc=>h4 b hb c (hm c hc),by
  have:=hs.length_le;rw[jA4]at h5;omega,h6⟩
theorem Frs.push(h:Frs f env (.mk i k n r u ks ns)){e:Exp}(he:e∈ks)(m:Int)(t:Typ){env':wJ}(hb:env'=env\/∃m' t',env'=env++[⟨i,m',t'⟩]):Frs f (env'++[⟨i,m,t⟩]) e:=by
 have hk:=h.kid he;have hi:=h.id;obtain⟨h1,h2,h3,h4,h5,h6⟩:=h;simp only[tmps]at h1 h3 h4;have hic:i.c∈jG ks++[i.c]:=by simp
 have hri:zAf f i=f i.c:=by unfold zAf;rw[if_pos (by rw[hi])]
 have hmem:∀b∈env'++[(⟨i,m,t⟩:Bnd)],b∈env\/b.id=i:=by
  intro b hb';rcases jA6.1 hb' with hb'|hb'
  .rcases hb with rfl|⟨m',t',rfl⟩
   .exact .inl hb'
   .rcases jA6.1 hb' with hb'|hb'
    .exact .inl hb'
    .rw[jAk.1 hb'];exact .inr rfl
  .rw[jAk.1 hb'];exact .inr rfl
 refine⟨hk.nd,hk.num,hk.inj,fun b hb' c hc=>?_,hk.len,fun b hb1 b' hb2 e=>?_⟩
 .rcases hmem b hb' with h'|h'
  .exact hk.new b h' c hc
  .rw[h',hri];intro e;have hc':=(zFc he).subset hc;have:=h3 i.c hic c (jBq _ hc') e;exact(jD.1 h1).2.2 c hc' i.c (by simp) this.symm
 .rcases hmem b hb1 with h'|h'<;>rcases hmem b' hb2 with h''|h''
  .exact h6 b h' b' h'' e
  .rw[h'',hri]at e;exact(h4 b h' i.c hic e).elim
  .rw[h',hri]at e;exact(h4 b' h'' i.c hic e.symm).elim
  .rw[h',h'']
theorem Frs.fresh(h:Frs f env (.mk i k n r u ks ns)):∀x∈env.map (zCl f),x.id≠f i.c:=by intro x hx;obtain⟨b,hb,rfl⟩:=jAf.1 hx;exact h.new b hb i.c (by simp[tmps])
theorem Frs.kids(h:Frs f env (.mk i k n r u ks ns)):(ks.map (fK f)).length<=32768:=by have h1:=h.len;have h2:=zGI ks;simp only[tmps,jA4]at h1;rw[jAa];omega
end
theorem bV{i:Id}{k n:Int}{r:Id}{u:Typ}{ks:wH}{ns:List ByteArray}(h:k≠2):fK f (.mk i k n r u ks ns)=.mk (f i.c) k n r u (ks.map (fK f)) ns:=by simp only[fK,pA,h,false_and,if_false]
def zPo(P:Prg)(hs:wQ):Prop:=∀(k:Nat) (h:k<hs.length),∃d,qM P.defs hs[k].id=some d/\d.hd=hs[k]
variable{P:Prg}{hs:wQ}
theorem qEV(hh:zPo P hs){own:Int}{env:wJ}{e:Exp}(h:WT hs own env e t):Frs f env e->WE P (env.map (zCl f)) (fK f e) t:=by
 induction h with
 |int env i n h1 h2=>intro hF;rw[bV (by decide)];exact .int _ _ _ _ _ _ h1 h2
 |bool env i n h=>intro hF;rw[bV (by decide)];exact .bool _ _ _ _ _ _ h
 |var env i n x t h =>
  intro hF;have e:fK f (.mk i 2 n x Typ.zero [] [])=.mk (f i.c) 2 n (zAf f x) Typ.zero [] []:=by simp only[fK,zBk,true_and,zAf]
  rw[e];exact .var _ _ _ _ _ _ _ (zO4 hF.ib h)
 |call env i k h ks ho hk hl hw ih =>
  intro hF;obtain⟨d,hd,hhd⟩:=hh k h;have e1:d.kind=hs[k].kind:=congrArg Hd.kind hhd;have e2:d.slots=hs[k].slots:=congrArg Hd.slots hhd;have e3:d.res=hs[k].res:=congrArg Hd.res hhd;rw[bV (by decide),<-e3];refine .call _ _ _ _ _ _ _ hF.kids d hd (by rw[e1];exact hk) (by simp only[jAa,e2];exact hl) fun j hj=>?_
  simp only[jB5,e2];rw[jAa]at hj;exact ih j hj (hF.kid (jA0 hj))
 |arith env i n a b h1 h2 ha hb iha ihb =>
  intro hF;rw[bV (by decide)];refine .op _ _ _ _ _ _ _ hF.kids [jI,jI] jI (.arith n h1 h2) rfl fun j hj=>?_
  match j,hj with
  | 0,_=>exact iha (hF.kid (by simp))
  | 1,_=>exact ihb (hF.kid (by simp))
 |less env i a b ha hb iha ihb =>
  intro hF;rw[bV (by decide)];refine .op _ _ _ _ _ _ _ hF.kids [jI,jI] jV .less rfl fun j hj=>?_
  match j,hj with
  | 0,_=>exact iha (hF.kid (by simp))
  | 1,_=>exact ihb (hF.kid (by simp))
 |same env i a b u ha hb iha ihb =>
  intro hF;rw[bV (by decide)];refine .op _ _ _ _ _ _ _ hF.kids [u,u] jV (.same u) rfl fun j hj=>?_
  match j,hj with
  | 0,_=>exact iha (hF.kid (by simp))
  | 1,_=>exact ihb (hF.kid (by simp))
 |andor env i n a b h ha hb iha ihb =>
  intro hF;rw[bV (by decide)];refine .op _ _ _ _ _ _ _ hF.kids [jV,jV] jV (.andor n h) rfl fun j hj=>?_
  match j,hj with
  | 0,_=>exact iha (hF.kid (by simp))
  | 1,_=>exact ihb (hF.kid (by simp))
 |not env i a ha iha =>
  intro hF;rw[bV (by decide)];refine .op _ _ _ _ _ _ _ hF.kids [jV] jV .not rfl fun j hj=>?_
  match j,hj with
  | 0,_=>exact iha (hF.kid (by simp))
 |join env i a b t ha hb iha ihb =>
  intro hF;rw[bV (by decide)];refine .op _ _ _ _ _ _ _ hF.kids [jP t,jP t] (jP t) (.join t) rfl fun j hj=>?_
  match j,hj with
  | 0,_=>exact iha (hF.kid (by simp))
  | 1,_=>exact ihb (hF.kid (by simp))
 |len env i a t ha iha =>
  intro hF;rw[bV (by decide)];refine .op _ _ _ _ _ _ _ hF.kids [jP t] jI (.len t) rfl fun j hj=>?_
  match j,hj with
  | 0,_=>exact iha (hF.kid (by simp))
 |ite env i a b c t ha hb hc iha ihb ihc =>
  intro hF;rw[bV (by decide)];exact .ite _ _ _ _ _ _ _ _ _ _ (iha (hF.kid (by simp))) (ihb (hF.kid (by simp))) (ihc (hF.kid (by simp)))
 |lets env i a b u t ns hn ha hb iha ihb =>
  intro hF;rw[bV (by decide)];have hb':=ihb (hF.push (by simp) 0 u (.inl rfl));rw[jBh,jDc]at hb';have hi:=hF.id;have e:zCl f ⟨i,0,u⟩=⟨f i.c,0,u⟩:=by simp only[zCl,zAf];rw[if_pos (by rw[hi])]
  rw[e]at hb';exact .lets _ _ _ _ _ _ _ _ _ _ hF.fresh (iha (hF.kid (by simp))) hb'
 |record env i k h ks hk hl hw ih =>
  intro hF;obtain⟨d,hd,hhd⟩:=hh k h;have e1:d.kind=hs[k].kind:=congrArg Hd.kind hhd;have e2:d.slots=hs[k].slots:=congrArg Hd.slots hhd;rw[bV (by decide)];refine .record _ _ _ _ _ _ _ hF.kids d hd (by rw[e1];exact hk) (by simp only[jAa,e2];exact hl) fun j hj=>?_
  simp only[jB5,e2];rw[jAa]at hj;exact ih j hj (hF.kid (jA0 hj))
 |field env i k h j hj a hk ha iha =>
  intro hF;obtain⟨d,hd,hhd⟩:=hh k h;have e1:d.kind=hs[k].kind:=congrArg Hd.kind hhd;have e2:hs[k].slots=d.slots:=(congrArg Hd.slots hhd).symm;rw[bV (by decide)];have hjd:j<d.slots.length:=by rw[<-e2];exact hj
  have et:hs[k].slots[j]=d.slots[j]:=by simp only[e2]
  rw[et];exact .field _ _ _ _ _ _ d j hd (by rw[e1];exact hk) hjd (iha (hF.kid (by simp)))
 |case env i k h j hj a hk ha iha =>
  intro hF;obtain⟨d,hd,hhd⟩:=hh k h;have e1:d.kind=hs[k].kind:=congrArg Hd.kind hhd;have e2:hs[k].slots=d.slots:=(congrArg Hd.slots hhd).symm;rw[bV (by decide)];have hjd:j<d.slots.length:=by rw[<-e2];exact hj
  have et:hs[k].slots[j]=d.slots[j]:=by simp only[e2]
  have ih:=iha (hF.kid (by simp));rw[et]at ih;exact .case _ _ _ _ _ _ d j hd (by rw[e1];exact hk) hjd ih
 |mtch env i k h a ks t ns hn hk hl ha hw iha ih =>
  intro hF;obtain⟨d,hd,hhd⟩:=hh k h;have e1:d.kind=hs[k].kind:=congrArg Hd.kind hhd;have e2:d.slots=hs[k].slots:=congrArg Hd.slots hhd;rw[bV (by decide),jAc];have hi:=hF.id;refine .mtch _ _ _ _ _ _ _ _ d _ hF.fresh hd (by rw[e1];exact hk) (by simp only[jAa,e2];exact hl) (iha (hF.kid (by simp))) fun j hj=>?_
  have hj':j<ks.length:=by rw[jAa]at hj;exact hj
  have:=ih j hj' (hF.push (jAi _ (jA0 hj')) _ _ (.inl rfl));rw[jBh,jDc]at this;have e:∀t,zCl f ⟨i,j,t⟩=⟨f i.c,j,t⟩:=fun t=>by simp only[zCl,zAf];rw[if_pos (by rw[hi])]
  rw[e]at this;simp only[jB5,e2];exact this
 |list env i t ks hw ih =>
  intro hF;rw[bV (by decide)];refine .list _ _ _ _ _ _ _ _ hF.kids fun j hj=>?_
  rw[jAa]at hj;rw[jB5];exact ih j hj (hF.kid (jA0 hj))
 |fold env i l s b u t ns hn hl hs' hb ihl ihs ihb =>
  intro hF;rw[bV (by decide)];have hb':=ihb (hF.push (by simp) 1 t (.inr ⟨0,u,rfl⟩));rw[jBh,jDc,jBh,jDc]at hb';have hi:=hF.id;have e:∀m t,zCl f ⟨i,m,t⟩=⟨f i.c,m,t⟩:=fun m t=>by simp only[zCl,zAf];rw[if_pos (by rw[hi])]
  rw[e,e]at hb';exact .fold _ _ _ _ _ _ _ _ _ _ _ hF.fresh (ihl (hF.kid (by simp))) (ihs (hF.kid (by simp))) hb'
theorem zDm:∀{ds:wS} (_:ds.Pairwise fun a b=>a.id≠b.id) {k:Nat} (hk:k<ds.length),qM ds ds[k].id=some ds[k]
 |d::ds,h,0,_=>by rw[xW];simp
 |d::ds,h,k+1,hk=>by
  rw[jBx]at h;have hk':k<ds.length:=by simpa using hk
  rw[xW];have:=h.1 ds[k] (jA0 hk');simp only[List.getElem_cons_succ];rw[if_neg this];exact zDm h.2 hk'
structure Fit(P:Prg)(hs:List Hd):Prop where
 heads:P.defs.map Dfn.hd=hs
 len8:P.defs.length<=100
 nd:P.defs.Pairwise fun a b=>a.id≠b.id
 slots:∀d∈P.defs,1<=d.slots.length/\d.slots.length<=6/\(d.kind=0\/d.kind=1->d.slots.length<=3)/\(d.slots.Pairwise fun a b=>a.id≠b.id)/\∀s∈d.slots,TyOk hs 4 s.typ
 kinds:∀d∈P.defs,0<=d.kind/\d.kind<=5
 bods:zPn P
theorem Fit.hd(h:Fit P hs):zPo P hs:=fun k hk=>by
 have hk':k<P.defs.length:=by rw[<-h.heads]at hk;simpa using hk
 have e:hs[k]=P.defs[k].hd:=by simp[<-h.heads]
 refine⟨P.defs[k],?_,e.symm⟩;rw[e];exact zDm h.nd hk'
theorem y8{ds:wS}{r:Id}{d:Dfn}(h:qM ds r=some d):d∈ds/\d.id=r:=⟨jD7 h,by simpa using jD6 h⟩
section
variable{l:wC}{mods:Int}(hl:∀x∈l,w64 x=x)
include hl
theorem zOI:∀p∈qA l mods,p.kind=0\/p.kind=1->p.types.length<=3:=by
 intro p hp;have a2:=yN (i:=2) hl (most:=3) (by omega);have a6:=yN (i:=6) hl (most:=2) (by omega);have a9:=yN (i:=9) hl (most:=3) (by omega);have hp':p=cP l mods\/p=c6 l mods\/p=gU l mods\/p=zCb mods\/p.kind=2\/p.kind=3\/p.kind=4\/p.kind=5:=by
  simp only[qA,plB,plC,plD,plE,jA6,jA3]at hp;rcases hp with ((h|h|h)|h)|h|h|h|h
  .simp[h]
  .simp[h]
  .simp at h
  .split at h
   .simp at h;rcases h with h|h<;>simp[h]
   .simp at h
  .simp[h,pF]
  .split at h<;>simp[h,vX,pG]
  .simp[h,pT]
  .split at h
   .simp at h;simp[h,pC]
   .simp at h
 rcases hp' with rfl|rfl|rfl|rfl|h
 .intro _;simp only[cP,iW];omega
 .intro _;simp only[c6,jAb,iW];omega
 .intro _;simp only[gU,jAb,iW];omega
 .intro _;simp only[zCb,jAb,jB4];omega
 .omega
end
theorem PrgOk.fit{l:wC}(hl:∀x∈l,w64 x=x)(h:PrgOk l P):Fit P (hsV l (nmV l)):=by
 obtain⟨hnm,hnm2⟩:=zL8 l hl;generalize hN:nmV l=nm at *
 have m1:1<=(nm:Int):=by omega
 have m2:(nm:Int)<=2:=by omega
 obtain⟨n5,n8⟩:=bR l (nm:Int);have hh:=h.heads;rw[hN]at hh;have hlen:P.defs.length=(qA l nm).length:=by have:=congrArg List.length hh;simpa using this
 have hget:∀(k:Nat) (hk:k<P.defs.length),P.defs[k].hd=⟨idR (nm+k),((qA l nm)[k]'(by omega)).kind,dA (a8 nm (qA l nm) k) ((qA l nm)[k]'(by omega)),((qA l nm)[k]'(by omega)).out⟩:=fun k hk=>by
  rw[<-mW nm (qA l nm) (by omega)];have:(P.defs.map Dfn.hd)[k]'(by simpa using hk)=(zF2 nm (qA l nm))[k]'(by simpa using (by omega:k<(qA l nm).length)):=by simp only[hh]
  rwa[jB5]at this
 have hnd:P.defs.Pairwise fun a b=>a.id≠b.id:=by rw[jC0];intro i j hi hj hij e;have e1:P.defs[i].id=idR (nm+i):=congrArg Hd.id (hget i hi);have e2:P.defs[j].id=idR (nm+j):=congrArg Hd.id (hget j hj);rw[e1,e2]at e;have:=zAQ (by omega) (by omega) (by omega) (by omega) e;omega
 have hpl:=dX l nm m1 m2 hl;have hrange:=fun i=>lK (show 0<=(nm:Int) by omega) (fun p hp=>(hpl p hp).t6) i
 have henv:∀(k:Nat) (hk:k<P.defs.length),EnvOk (hsV l nm) 4 0 (cC P.defs[k])/\1<=(cC P.defs[k]).length/\(cC P.defs[k]).length<=6/\TyOk (hsV l nm) 4 P.defs[k].res:=fun k hk=>xT m1 m2 hl (i:=k) (by rw[<-hh,jBn,jA2 hk];rfl) 0
 have hslot:∀(k:Nat) (hk:k<P.defs.length),∀s∈P.defs[k].slots,∃j:Int,s.id=idR j/\0<=j/\j<a8 nm (qA l nm) (qA l nm).length:=fun k hk s hs=>by have e:P.defs[k].slots=dA (a8 nm (qA l nm) k) ((qA l nm)[k]'(by omega)):=congrArg Hd.slots (hget k hk);rw[e]at hs;simp only[dA,jAf,jC]at hs;obtain⟨j,hj,rfl⟩:=hs;have h1:=hrange k;have h2:=zEv nm (qA l nm) (i:=k) (by omega);have h3:=zL7 (mods:=nm) (ps:=qA l nm) (show k+1<=(qA l nm).length by omega);exact⟨_,rfl,by omega,by omega⟩
 refine⟨hh,by omega,hnd,fun d hd=>?_,fun d hd=>?_,fun r d hd hb=>?_⟩
 .obtain⟨k,hk,rfl⟩:=jAl hd;obtain⟨a1,a2,a3,a4⟩:=henv k hk;rw[tD]at a2 a3;refine⟨a2,a3,fun hkd=>?_,?_,fun s hs=>a1.typs ⟨s.id,0,s.typ⟩ (jAf.2 ⟨s,hs,rfl⟩)⟩
  .have e1:P.defs[k].kind=((qA l nm)[k]'(by omega)).kind:=congrArg Hd.kind (hget k hk);have e2:P.defs[k].slots=dA (a8 nm (qA l nm) k) ((qA l nm)[k]'(by omega)):=congrArg Hd.slots (hget k hk);rw[e2,iT];exact zOI hl _ (jA0 _) (by rw[<-e1];exact hkd)
  .have:=a1.nd;simp only[cC]at this;rw[jCw]at this;exact this.imp fun h e=>h ⟨e,rfl⟩
 .obtain⟨k,hk,rfl⟩:=jAl hd;have e1:P.defs[k].kind=((qA l nm)[k]'(by omega)).kind:=congrArg Hd.kind (hget k hk);rw[e1];have:=hpl _ (jA0 (show k<(qA l nm).length by omega));exact⟨this.kind0,this.kind5⟩
 .obtain⟨hd1,rfl⟩:=y8 hd;obtain⟨k,hk,rfl⟩:=jAl hd1;obtain⟨base,hb0,hbs⟩:=h.bodies;rw[hN]at hb0 hbs;have hbase:∀k,k<=P.defs.length->a8 nm (qA l nm) (qA l nm).length<=base k/\base k<=a8 nm (qA l nm) (qA l nm).length+32768*k:=by
   intro k;induction k with
   |zero=>intro _;rw[hb0];omega
   |succ k ih =>
    intro hk;have ih:=ih (by omega);rcases hbs k P.defs[k] (jA2 (by omega))with ⟨_,_,e⟩|⟨_,e,f,hr,e'⟩
    .rw[e];omega
    .rw[e'];have:=hr.len;omega
  have hbk:=hbase k (by omega);have hr0:=hrange (qA l nm).length;rcases hbs k P.defs[k] (jA2 hk)with ⟨h0,_,_⟩|⟨_,e,f,hr,_⟩
  .rw[h0]at hb;cases hb
  .have hlt:=hr.len;have hfc:∀c∈tmps e,∃j:Nat,∃hj:j<(tmps e).length,(tmps e)[j]=c/\f c=idR (base k+j):=fun c hc=>by obtain⟨j,hj,rfl⟩:=jAl hc;exact⟨j,hj,rfl,hr.ids j hj⟩
   have hsb:∀b∈cC P.defs[k],∃j:Int,b.id=idR j/\zAf f b.id=idR j/\0<=j/\j<a8 nm (qA l nm) (qA l nm).length:=fun b hb=>by simp only[cC,jAf]at hb;obtain⟨s,hs,rfl⟩:=hb;obtain⟨j,h1,h2,h3⟩:=hslot k hk s hs;have:=zUU (k:=j) h2 (by omega);refine⟨j,h1,?_,h2,h3⟩;simp only[zAf,h1];rw[if_neg (by omega)]
   have hF:Frs f (cC P.defs[k]) e:=by
    refine⟨hr.nd,hr.num,fun c hc c' hc' he=>?_,fun b hb' c hc he=>?_,hr.len,fun b hb1 b' hb2 he=>?_⟩
    .obtain⟨j,hj,e1,e2⟩:=hfc c hc;obtain⟨j',hj',e1',e2'⟩:=hfc c' hc';rw[e2,e2']at he;have:=zAQ (by omega) (by omega) (by omega) (by omega) he;have:j=j':=by omega
     subst this;rw[<-e1,<-e1']
    .obtain⟨j,hj,e1,e2⟩:=hfc c hc;obtain⟨j',_,e3,h0,h1⟩:=hsb b hb';rw[e3,e2]at he;have:=zAQ (by omega) (by omega) (by omega) (by omega) he;omega
    .obtain⟨j,e1,e2,h0,h1⟩:=hsb b hb1;obtain⟨j',e1',e2',h0',h1'⟩:=hsb b' hb2;rw[e2,e2']at he;rw[e1,e1',he]
   have hho:zPo P (hsV l nm):=fun k hk=>by
    have hk':k<P.defs.length:=by rw[<-hh]at hk;simpa using hk
    have e:(hsV l nm)[k]=P.defs[k].hd:=by simp[<-hh]
    exact⟨P.defs[k],by rw[e];exact zDm hnd hk',e.symm⟩
   have:=qEV hho hr.wt hF;rw[<-hr.body]at this;have e2:(cC P.defs[k]).map (zCl f)=cC P.defs[k]:=by
    rw[jC6 (g:=id)]
    .simp
    .intro b hb';obtain⟨j,e1,e2,_,_⟩:=hsb b hb';simp only[zCl,id,e2];rw[<-e1]
   rw[e2]at this;exact this
variable{r:Nat}
theorem TyOk.valid(hh:zPo P hs)(h:TyOk hs r t):∀n,r<n->yA P n t=true:=by
 induction h with
 |int r=>intro n hn;obtain⟨m,rfl⟩:∃m,n=m+1:=⟨n-1,by omega⟩;simp[yA]
 |bool r=>intro n hn;obtain⟨m,rfl⟩:∃m,n=m+1:=⟨n-1,by omega⟩;simp[yA]
 |list r t h ih =>
  intro n hn;obtain⟨m,rfl⟩:∃m,n=m+1:=⟨n-1,by omega⟩;simp[yA,ih m (by omega)]
 |dfn r k h h1 h2 h3 h4 ih =>
  intro n hn;obtain⟨m,rfl⟩:∃m,n=m+1:=⟨n-1,by omega⟩;obtain⟨d,hd,hhd⟩:=hh k h;have e1:d.kind=hs[k].kind:=congrArg Hd.kind hhd;simp[yA,iM,hd,e1];omega
theorem TyOk.validT(hh:zPo P hs)(h:TyOk hs r t)(hr:r<24):validT P t=true:=h.valid hh 24 hr
theorem Fit.at_(h:Fit P hs)(k:Nat)(hk:k<hs.length):(dfn P hs[k].id).hd=hs[k]/\dfn P hs[k].id∈P.defs:=by
 obtain⟨d,hd,hhd⟩:=h.hd k hk;have:dfn P hs[k].id=d:=by simp[dfn,hd]
 rw[this];exact⟨hhd,(y8 hd).1⟩
theorem zBK{P:Prg}:∀{ts:wT} {vs:wI},aH P ts vs=true->∀(j:Nat) (h1:j<ts.length) (h2:j<vs.length),cD P ts[j] vs[j]=true
 |t::ts,v::vs,h,j,h1,h2=>by
  rw[aH,jA7]at h;cases j with
  |zero=>exact h.1
  |succ j=>exact zBK h.2 j (by simpa using h1) (by simpa using h2)
theorem zSP(hf:Fit P hs)(h:TyOk hs r t):∀v,cD P t v=true->TyV P t v:=by
 induction h with
 |int r =>
  intro v hv;rw[gO]at hv;simp at hv;obtain⟨_,⟨⟨h1,h2⟩,h3⟩,h4⟩:=hv;obtain⟨k,n,l⟩:=v;simp only[Val.k,Val.n,Val.kids]at h1 h2 h3 h4;subst h1 h2;exact .int n h3 h4
 |bool r =>
  intro v hv;rw[gO]at hv;simp at hv;obtain⟨_,⟨h1,h2⟩,h3⟩:=hv;obtain⟨k,n,l⟩:=v;simp only[Val.k,Val.n,Val.kids]at h1 h2 h3;subst h1 h2;exact .bool n h3
 |list r t h ih =>
  intro v hv;rw[gO]at hv;simp at hv;obtain⟨_,⟨h1,h2⟩,h3⟩:=hv;obtain⟨k,n,l⟩:=v;simp only[Val.k,Val.n,Val.kids]at h1 h2 h3;subst h1 h2;exact .list _ _ fun x hx=>ih x (h3 x hx)
 |dfn r k h h1 h2 h3 h4 ih =>
  intro v hv;obtain⟨d,hd,hhd⟩:=hf.hd k h;have e1:d.kind=hs[k].kind:=congrArg Hd.kind hhd;have e2:d.slots=hs[k].slots:=congrArg Hd.slots hhd;have ed:dfn P hs[k].id=d:=by simp[dfn,hd]
  rw[gO]at hv;simp only[Typ.k_mk,Typ.id_mk,ed]at hv;obtain⟨kk,n,l⟩:=v;by_cases hk:d.kind=1
  .simp[hk,Val.k,Val.n,Val.kids]at hv;obtain⟨_,⟨⟨⟨g1,g2⟩,g3⟩,g4⟩,g5⟩:=hv;replace g1:=of_decide_eq_true g1;replace g2:=of_decide_eq_true g2;replace g3:=of_decide_eq_true g3;replace g4:=of_decide_eq_true g4;obtain⟨x,rfl⟩:=List.length_eq_one_iff.1 g4;obtain⟨j,rfl⟩:∃j:Nat,n=j:=⟨n.toNat,by omega⟩;have hj:j<d.slots.length:=by omega
   rw[jCm,jA2 hj,jC7,eE]at g5;subst g1;exact .case _ d j x hd hk hj (ih d.slots[j] (by rw[<-e2];exact jA0 hj) x g5)
  .simp[hk,Val.k,Val.n,Val.kids]at hv;obtain⟨_,⟨⟨g1,g2⟩,g3⟩,g4⟩:=hv;replace g1:=of_decide_eq_true g1;replace g2:=of_decide_eq_true g2;replace g3:=of_decide_eq_true g3;subst g1 g2;refine .record _ d l hd (by omega) g3 fun j hj=>?_
   have hjd:j<d.slots.length:=by omega
   have:=zBK g4 j (by simpa using hjd) hj;rw[jB5]at this;exact ih d.slots[j] (by rw[<-e2];exact jA0 hjd) l[j] this
structure InvX(I:XS->Prop):Prop where
 tick:∀e s,I s->¬s.fuel<=0->I (gH e s)
 dfn:∀(d:Id) s,I s->I {s with ds:=s.ds++[d]}
 fail:∀(x:Int) s,I s->I {s with fail:=x}
section
variable{p:Prg}{ev:Evl}{I:XS->Prop}
theorem zD3(h:∀e V s,I s->I (ev e V s).2)(V:wP):∀(l:wH) (s:XS),I s->I (jQ ev V l s).2
 |[],s,hs=>hs
 |e::l,s,hs=>by simp only[jQ];exact zD3 h V l _ (h e V s hs)
theorem zBL(h:∀e V s,I s->I (ev e V s).2)(V:wP)(i:Id)(b:Exp):∀(l:wI) (r:Val×XS),I r.2->I (aN ev V i b l r).2
 |[],r,hs=>hs
 |e::l,r,hs=>by simp only[aN];exact zBL h V i b l _ (h _ _ _ hs)
theorem zFJ(hI:InvX I)(h:∀e V s,I s->I (ev e V s).2)(d:Dfn)(vs:wI)(s:XS)(hs:I s):I (dR ev d vs s).2:=by
 unfold dR;split
 .exact hs
 .exact h _ _ _ (hI.dfn d.id s hs)
theorem zIl(h:∀e V s,I s->I (ev e V s).2)(e:Exp)(V:wP)(s:XS)(hs:I s):I (jO ev e V s).2:=by
 unfold jO;have h0:=h (e.kids.headD .zero) V s hs;generalize ev (e.kids.headD .zero) V s=r at *
 repeat' split
 all_goals first
  |exact h0
  |exact h _ _ _ h0
  |exact zBL h _ _ _ _ _ (h _ _ _ h0)
theorem zFj(hI:InvX I)(h:∀e V s,I s->I (ev e V s).2)(fl:Nat)(e:Exp)(V:wP)(s:XS)(hs:I s):I (qP p fl ev e V s).2:=by
 unfold qP;have h0:=zD3 h V e.kids s hs;generalize jQ ev V e.kids s=r at *
 repeat' split
 all_goals first
  |exact hs
  |exact h0
  |exact zIl h _ _ _ hs
  |exact zFJ hI h _ _ _ h0
theorem zGw(hI:InvX I)(fl:Nat):∀(n:Nat) e V s,I s->I (bD p fl n e V s).2
 | 0,e,V,s,hs=>by
  rw[bD];split
  .exact hs
  .exact hI.fail _ _ hs
 |n+1,e,V,s,hs=>by
  rw[bD];split
  .exact hs
  .split
   .exact hI.fail _ _ hs
   .rename_i h;have:=zFj (p:=p) hI (zGw hI fl n) fl e V _ (hI.tick e s hs h);show I (oZ _);unfold oZ;split
    .exact hI.fail _ _ this
    .exact this
end
def txt(c:UInt8)(x:Int):ByteArray:=⟨#[c]⟩++strOfNums [IntKind.u8.wrap (IntKind.i64.wrap (97+x.tmod 26))]
@[simp]theorem zYW{x:Int}:tT [.lit (.int .u8 x)]=some [x]:=rfl
def qKH(x:Int):ByteArray:=[(⟨#[108,101,102,116]⟩:ByteArray),⟨#[114,105,103,104,116]⟩,⟨#[110,111,114,116,104]⟩,⟨#[115,111,117,116,104]⟩].getD (x.tmod 4).toNat ⟨#[]⟩
def zWG(m:Md):wF:=[.lit (.int .i64 m.id.a),.lit (.int .i64 m.id.b),.lit (.int .i64 m.id.c),.lit (.string m.name),.sl m.uses.length (zS m.uses),.nil]
def zB8(l:List Md):wF:=l.flatMap zWG
@[simp]theorem zW3(l:List Md):(zB8 l).length=l.length*6:=by rw[zB8,dS (k:=6) (fun _=>rfl)]
@[simp]theorem zZS{rf g}(l:List Md):vwL rf g (zB8 l)=zB8 l:=by
 induction l with
 |nil=>rfl
 |cons m l ih =>
  have e:zB8 (m::l)=zWG m++zB8 l:=rfl;rw[e,zFm,ih];simp[zWG]
theorem zBb(a b:wF):jE (a++b)=jE a++jE b:=by
 induction a with
 |nil=>simp
 |cons x a ih=>simp[ih]
def qLe(n:Int)(k:Nat)(s:Slt):Slt:={s with name:=txt 115 (IntKind.i64.wrap (k+n))}
def slN(n:Int)(l:List Slt)(j:Nat):List Slt:=l.mapIdx fun k s=>if k<j then qLe n k s else s
@[simp]theorem qHi(n:Int)(l:List Slt)(j:Nat):(slN n l j).length=l.length:=by simp[slN]
def qLd(n:Int)(len:Nat)(md:Id)(i:Nat)(d:Dfn):Dfn :=
 ⟨d.id,d.kind,md,txt 122 (IntKind.i64.wrap (i+n)),slN n d.slots d.slots.length,d.res,zH0 (txt 118 n) d.body,IntKind.i64.wrap (len-i),[⟨#[35,32,120,10]⟩]⟩
def zVy(n:Int)(md:Id)(ds:wS):wS:=ds.mapIdx fun i d=>qLd n ds.length md i d
@[simp]theorem zZx(n:Int)(md:Id)(ds:wS):(zVy n md ds).length=ds.length:=by simp[zVy]
inductive Nam:Typ->Id->Prop
 |here (t:Typ) (h:t.k=3):Nam t t.id
 |kid (t k:Typ) (x:Id) (h:k∈t.kids) (hx:Nam k x):Nam t x
inductive Rch(p:Prg)(T:Typ->Prop):Id->Prop
 |base (t:Typ) (x:Id) (ht:T t) (hx:Nam t x):Rch p T x
 |step (y:Id) (s:Slt) (x:Id) (hy:Rch p T y) (hs:s∈(dfn p y).slots) (hx:Nam s.typ x):Rch p T x
variable{T T':Typ->Prop}
theorem Rch.mono(h:Rch p T x)(hT:∀t,T t->T' t):Rch p T' x:=by
 induction h with
 |base t x ht hx=>exact .base t x (hT t ht) hx
 |step y s x _ hs hx ih=>exact .step y s x ih hs hx
theorem Rch.one(h:Rch p T x):∃t,T t/\Rch p (· = t) x:=by
 induction h with
 |base t x ht hx=>exact⟨t,ht,.base t x rfl hx⟩
 |step y s x _ hs hx ih =>
  obtain⟨t,ht,h⟩:=ih;exact⟨t,ht,.step y s x h hs hx⟩
def j3(p:Prg):Nat->Typ->List Id->wG
 | 0,_,L=>L
 |f+1,t,L=>if t.k=3/\t.id∉t.kids.foldl (fun L k=>j3 p f k L) L then (dfn p t.id).slots.foldl (fun L s=>j3 p f s.typ L) (t.kids.foldl (fun L k=>j3 p f k L) L++[t.id])
  else t.kids.foldl (fun L k=>j3 p f k L) L
structure Meets(p:Prg)(T:Typ->Prop)(L L':List Id):Prop where
 sub:∀x∈L,x∈L'
 all:∀t x,T t->Nam t x->x∈L'
 clo:∀x∈L',x∉L->∀s∈(dfn p x).slots,∀y,Nam s.typ y->y∈L'
 snd:∀x∈L',x∈L\/Rch p T x
theorem Meets.trans{L L' L'':wG}(h:Meets p T L L')(k:Meets p T' L' L''):Meets p (fun t=>T t\/T' t) L L'':=by
 refine⟨fun x hx=>k.sub x (h.sub x hx),fun t x ht hx=>?_,fun x hx hn s hs y hy=>?_,fun x hx=>?_⟩
 .rcases ht with ht|ht
  .exact k.sub x (h.all t x ht hx)
  .exact k.all t x ht hx
 .by_cases hx':x∈L'
  .exact k.sub y (h.clo x hx' hn s hs y hy)
  .exact k.clo x hx hx' s hs y hy
 .rcases k.snd x hx with hx|hx
  .rcases h.snd x hx with hx|hx
   .exact .inl hx
   .exact .inr (hx.mono fun _ h=>.inl h)
  .exact .inr (hx.mono fun _ h=>.inr h)
theorem Meets.congr{L L':wG}(h:Meets p T L L')(hT:∀t,T t↔T' t):Meets p T' L L' :=
 ⟨h.sub,fun t x ht hx=>h.all t x ((hT t).2 ht) hx,h.clo,fun x hx=>(h.snd x hx).imp (fun h=>h) fun h=>h.mono fun t=>(hT t).1⟩
def c7(p:Prg)(ss:List Slt)(L:wG):wG:=ss.foldl (fun L s=>j3 p 10 s.typ L) L
mutual
def zJu:Typ->List Id->wG
 | .mk k x l,L=>zEu l (if k=3 then mC L x else L)
def zEu:List Typ->List Id->wG
 |[],L=>L
 |t::l,L=>zEu l (zJu t L)
end
mutual
theorem zJv:∀(t:Typ) (L:wG) (x:Id),x∈zJu t L↔x∈L\/Nam t x
 | .mk k y l,L,x=>by
  rw[zJu,zGv l];constructor
  .rintro(h|⟨t,ht,h⟩)
   .split at h
    .rename_i hk;rcases oT.1 h with h|h
     .exact .inl h
     .subst h;exact .inr (.here (.mk k x l) hk)
    .exact .inl h
   .exact .inr (.kid (.mk k y l) t x ht h)
  .rintro(h|h)
   .left;split
    .exact oT.2 (.inl h)
    .exact h
   .generalize hT:Typ.mk k y l=T at h;cases h with
    |here _ h =>
     subst hT;left;show y∈_;rw[if_pos (show k=3 from h)];exact oT.2 (.inr rfl)
    |kid _ t _ ht hx =>
     subst hT;exact .inr ⟨t,ht,hx⟩
theorem zGv:∀(l:wT) (L:wG) (x:Id),x∈zEu l L↔x∈L\/∃t∈l,Nam t x
 |[],L,x=>by simp[zEu]
 |t::l,L,x=>by rw[zEu,zGv l,zJv t];simp only[jA3,exists_eq_or_imp,or_assoc]
end
mutual
theorem zMN:∀(t:Typ) (L:wG),SS L->SS (zJu t L)
 | .mk k y l,L,h=>by
  rw[zJu];refine zJw l _ ?_;split
  .exact zHu h
  .exact h
theorem zJw:∀(l:wT) (L:wG),SS L->SS (zEu l L)
 |[],L,h=>h
 |t::l,L,h=>by rw[zEu];exact zJw l _ (zMN t L h)
end
def namS(ss:List Slt)(L:wG):wG:=ss.foldl (fun L s=>zJu s.typ L) L
theorem PrgOk.fine{l:wC}(hl:∀x∈l,w64 x=x)(h:PrgOk l P):FineP P/\5<=P.defs.length/\P.defs.length<=8/\0<P.mods.length:=by
 obtain⟨hnm,hnm2⟩:=zL8 l hl;have m1:1<=(nmV l:Int):=by omega
 have m2:(nmV l:Int)<=2:=by omega
 obtain⟨n5,n8⟩:=bR l (nmV l:Int);have hlen:P.defs.length=(qA l (nmV l)).length:=by have:=congrArg List.length h.heads;simpa using this
 have hml:0<P.mods.length/\P.mods.length<=2:=by rw[h.mods,zAY];split<;>simp
 obtain⟨base,_,hb⟩:=h.bodies;have key:∀d∈P.defs,FineD d:=fun d hd=>by
  obtain⟨k,hk,rfl⟩:=jAl hd;have hg:P.defs[k]?=some P.defs[k]:=jA2 hk;obtain⟨_,e1,e6,_⟩:=xT m1 m2 hl (i:=k) (d:=P.defs[k]) (by rw[<-h.heads,jBn,hg];rfl) 0;rw[tD]at e1 e6;rcases hb k _ hg with ⟨_,h2,_⟩|⟨_,e,f,hr,_⟩
  .exact⟨e1,e6,by rw[h2];exact zOA,by rw[h2];simp[Exp.zero,tmps,jG]⟩
  .have:=zJL f e (zTT hr.wt);exact⟨e1,e6,by rw[hr.body];exact this.1,by rw[hr.body,this.2];exact hr.len⟩
 exact⟨FineP.mk' (by omega) (by omega) key,by omega,by omega,hml.1⟩
def xF(l:List Prg):wF:=l.flatMap zI
theorem zKX(p:Prg):qT (zI p):=by have h1:=lZ p.mods;have h2:=lX p.defs;exact⟨by simp[zI,h1.1],fun rf g=>by simp[zI,h1.2]⟩
theorem zA8(l:List Prg):qT (xF l):=cN zKX l
@[simp]theorem zVl(l:List Prg):jE (xF l)=xF l:=(zA8 l).1
@[simp]theorem zZR{rf g}(l:List Prg):vwL rf g (xF l)=xF l:=(zA8 l).2 _ _
@[simp]theorem zW2(l:List Prg):(xF l).length=l.length*2:=by rw[xF,dS (k:=2) (fun _=>rfl)]
def vU(l:wA):wF:=l.map fun(i:Nat)=>A.lit (.int .i64 (i:Int))
@[simp]theorem zXp(l:wA):jE (vU l)=vU l:=by
 have:vU l=y3 (l.map fun(i:Nat)=>(i:Int)):=by simp[vU,y3,Function.comp_def]
 rw[this];simp
@[simp]theorem qEU{rf:Bool->Nat->Nat->A}{g:Nat->wD}(l:wA):vwL rf g (vU l)=vU l:=by
 have:vU l=y3 (l.map fun(i:Nat)=>(i:Int)):=by simp[vU,y3,Function.comp_def]
 rw[this];simp
@[simp]theorem zYO(l:wA):(vU l).length=l.length:=by simp[vU]
end Go.Proofs.YtolkhapmieigcaaGreatDoor
namespace Go.Proofs.YtolkhapmieigcaaGreatDoor
open Go.Abs
def ddI(L:wG)(x:Id):wG:=if x∈L then L else L++[x]
def ddL(l:wG):wG:=l.foldl ddI []
theorem zDH(l:wG)(x:Id):ddL (l++[x])=ddI (ddL l) x:=by simp[ddL]
theorem zS4{L:wG}{x y:Id}:y∈ddI L x↔y∈L\/y=x:=by
 unfold ddI;split
 .rename_i h;constructor
  .exact .inl
  .rintro(h'|rfl)
   .exact h'
   .exact h
 .simp
theorem zS5{l:wG}{y:Id}:y∈ddL l↔y∈l:=by
 induction l using eI with
 |nil=>simp[ddL]
 |snoc l x ih=>rw[zDH,zS4,ih];simp
theorem zS3(L:wG)(x:Id):(ddI L x).length<=L.length+1:=by
 unfold ddI;split
 .omega
 .simp
theorem zHf(l:wG):(ddL l).length<=l.length:=by
 induction l using eI with
 |nil=>simp[ddL]
 |snoc l x ih=>rw[zDH];have:=zS3 (ddL l) x;simp;omega
theorem zNj(l:wG):aP (ddL l)=aP l:=(i7 _).unique (i7 _) fun x=>by rw[aQ,aQ,zS5]
def zAX(l:wG):List (wC×A):=l.map fun x=>(dE x,.lit (.bool true))
@[simp]theorem qGN{rf:Bool->Nat->Nat->A}{g:Nat->wD}(l:wG):((zAX l).map fun p=>(p.1,vw rf g p.2))=zAX l:=by
 simp only[zAX,jCb];refine jC6 fun x _=>?_
 simp
theorem xX{i:Id}:∀(l:wG),bP (dE i) (zAX l)=if i∈l then some (.lit (.bool true))else none
 |[]=>rfl
 |x::l=>by
  have ih:=xX (i:=i) l;simp only[zAX,jAc,bP]at ih ⊢;by_cases h:x=i
  .simp[h]
  .have h':¬dE x=dE i:=fun e=>h (tO.1 e)
   rw[if_neg h',ih];simp[Ne.symm h]
theorem zCi{x:Id}:∀(l:wG),x∉l->mG (dE x) (.lit (.bool true)) (zAX l)=zAX (l++[x])
 |[],_=>rfl
 |y::l,h=>by
  have ih:=zCi (x:=x) l (fun h'=>h (by simp[h']));have h':¬dE y=dE x:=fun e=>h (by simp[tO.1 e])
  simp only[zAX,jAc,mG,h',if_false,jBf]at ih ⊢;rw[ih]
@[simp]theorem qGB{a:A}:tJ (.bool false) false (some a)=a:=rfl
@[simp]theorem qGA:tJ (.bool false) false none=.lit (.bool false):=rfl
def nS(ds ns:wG):St:=[.box [.row 2 ds.length,.row 3 ns.length],.box [.map 4],.row false 32 3 ds.length (zS ds),.row false 32 3 ns.length (zS ns),.mp true 3 (zAX ns)]
def qAX:K:=G [kO 5 1] (G [M 6 0] (Y 6 (K.ops [D 7 2 0,L 8 7 1,J 9 5 3,kd 10 32 3 1 [ki,ki,ki] [(0,3,(kt 9))],kP 11 32 3 24 8 10,D 12 2 0,S 12 11 1]) (G [L 13 3 1,J 14 5 3,⟨none,.mop (some 15) (.get 3 (.bool false) false) [(kt 13),(kt 14)]⟩,kR 16 15] (Y 16 (G [L 17 3 1,J 18 5 3,⟨none,.mop none (.set 3) [(kt 17),(kt 18),(.const (.bool true))]⟩] (K.ops [D 19 2 1,L 20 19 1,J 21 5 3,kd 22 32 3 1 [ki,ki,ki] [(0,3,(kt 21))],kP 23 32 3 24 20 22,D 24 2 1,S 24 23 1])) ks))))
theorem qI8:ky f102 qAX:=m_ (by kernel_rfl)
theorem zH4(b:Bool)(x:Id)(ds ns:wG)(hd:ds.length<=1000000)(hn:ns.length<=1000000) :
 my 102 [bl b,.agg (zX x),.ptr 0 0,.ptr 1 0] (nS ds ns) (.tup []) (nS (if b then ds++[x]else ds) (if b then ns else ddI ns x)):=by
 refine zG func102 rfl qI8 (rs:=[]) (by kernel_rfl) ?_;unfold qAX;cases b with
 |true =>
  simp[nS,zX];refine⟨⟨by simp[maxLen];omega,by omega⟩,?_⟩;exact mv [0,1,2,3,4] 0 (by rfl) (by simp[qD,zS])
 |false =>
  have hf:=xX (i:=x) ns;simp only[dE]at hf;by_cases h:x∈ns
  .rw[if_pos h]at hf;simp[nS,zX,hf];exact mv [0,1,2,3,4] 0 (by rfl) (by simp[ddI,h])
  .rw[if_neg h]at hf;have hp:=zCi ns h;simp only[dE]at hp;simp[nS,zX,hf,hp];refine⟨⟨by simp[maxLen];omega,by omega⟩,?_⟩;exact mv [0,1,2,3,4] 0 (by rfl) (by simp[ddI,h,qD,zS])
def tS(p:Prg)(s:XS):St:=[.box (zI p++[int s.fuel,int s.fail,.clo 102 [] [.ptr 1 0,.ptr 2 0]]),.box [.row 3 s.ds.length,.row 4 (ddL s.ns).length],.box [.map 5],
 .row false 32 3 s.ds.length (zS s.ds),.row false 32 3 (ddL s.ns).length (zS (ddL s.ns)),.mp true 3 (zAX (ddL s.ns))]
def rS(p:Prg)(s:XS)(L:wG):St:=tS p {s with ds:=L}++[.mp true 3 (zAX L)]
structure RL(p:Prg)(L:List Id):Prop where
 nd:L.Nodup
 sub:∀x∈L,x∈p.defs.map Dfn.id
variable{p:Prg}{hs:wQ}
theorem RL.len(hf:Fit p hs){L:wG}(h:RL p L):L.length<=100:=by
 have:=h.nd.length_le_of_subset (l₂:=p.defs.map Dfn.id) h.sub;have:=hf.len8;simp at *
 omega
theorem RL.fold{p:Prg} {α:Type}(g : α->List Id->wG):∀(l:List α) (L:wG),(∀a∈l,∀L,RL p L->RL p (g a L))->RL p L->RL p (l.foldl (fun L a=>g a L) L)
 |[],L,_,h=>h
 |a::l,L,hg,h=>by rw[jAt];exact RL.fold g l _ (fun b hb=>hg b (by simp[hb])) (hg a (by simp) L h)
theorem uV{α β:Type}(g : β->α->β)(b : β){l:List α}{i:Nat}(h:i<l.length):(l.take (i+1)).foldl g b=g ((l.take i).foldl g b) l[i]:=by rw[jA8 h,jBr];rfl
def qAY:K:=G [kO 4 1] (Z (G [D 12 4 4,L 13 12 1,kN 14 13,kMi 15 0] (K.block 0 (K.loop (G [kB 16 15 14 .lss] (Z (Y 16 ks (K.exit 0)) (Z (K.block 1 (G [kX 17 13 15 5,J 18 17 5,kZ 7 kz2,S 7 18 5] (K.ops [M 19 0,J 20 7 5,M 21 2,kC 22 103 [(kt 19),(kt 20),(kt 21)]]))) (K.ops [kBi 23 15 1 .add,M 15 23]))))))) (Z (G [D 24 4 0,L 25 24 1,kQi 26 25 3 true,M 27 26,T 27 false (M 28 2),T 27 false (D 29 4 1),T 27 false (J 30 29 3),⟨some (27,false),.mop (some 31) (.get 3 (.bool false) false) [(kt 28),(kt 30)]⟩,kPt 32 27 31] (Y 32 kr ks)) (G [M 33 2,D 34 4 1,J 35 34 3,⟨none,.mop none (.set 3) [(kt 33),(kt 35),(.const (.bool true))]⟩] (Z (K.dops [(0,0,M 37 0),(1,0,kU 38 37),(2,1,D 39 38 0),(3,1,J 40 39 2),(4,1,D 41 4 1),(5,1,J 42 41 3),(6,1,kC 43 70 [(kt 40),(kt 42)]),(7,0,M 36 43),(8,0,kE 44 36 0),(9,0,kE 45 36 1),(10,0,kZ 8 kz0),(11,0,S 8 44 31),(12,0,M 9 45)]) (G [M 46 9] (Y 46 (Z (K.dops [(0,0,M 47 0),(1,0,kU 48 47),(2,0,D 49 48 4),(3,0,L 50 49 1),(4,0,D 51 8 0),(5,0,J 52 51 3),(6,4,⟨none,.call (some 53) (kt 50) [(.const (.bool true)),(kt 52)]⟩)]) (G [D 54 8 8,L 55 54 1,kN 56 55,kMi 57 0] (K.block 2 (K.loop (G [kB 58 57 56 .lss] (Z (Y 58 ks (K.exit 2)) (Z (K.block 3 (G [kX 59 55 57 11,J 60 59 11,kZ 11 kz5,S 11 60 11] (K.ops [M 61 0,D 62 11 4,J 63 62 5,M 64 2,kC 65 103 [(kt 61),(kt 63),(kt 64)]]))) (K.ops [kBi 66 57 1 .add,M 57 66])))))))) ks))))))
def qKV:Nat->Option wE:=fun|10=>k_ [0,0,0,0,0,0,4]|_=>none
theorem qI9:kx f103 qKV qAY:=mz (by kernel_rfl)
def zAx(p:Prg)(s:XS)(m:Nat)(t:Typ):Prop:=∀L,RL p L->RL p (j3 p m t L)/\my 103 [.ptr 0 0,.agg (zB t),.map 6] (rS p s L) (.tup []) (rS p s (j3 p m t L))
theorem rU(hf:Fit p hs)(s:XS)(hs0:s.ns=[])(m:Nat)(t:Typ)(hk:∀k∈t.kids,zAx p s m k)(hd:t.k=3->∃d,qM p.defs t.id=some d/\∀sl∈d.slots,zAx p s m sl.typ):zAx p s (m+1) t:=by
 intro L hL;obtain⟨L1,hL1⟩:∃L1,L1=t.kids.foldl (fun L k=>j3 p m k L) L:=⟨_,rfl⟩;have rl:∀i,RL p ((t.kids.take i).foldl (fun L k=>j3 p m k L) L):=fun i=>RL.fold (fun k L=>j3 p m k L) _ _ (fun k hk' L hL=>(hk k (jC3 hk') L hL).1) hL
 have rl1:RL p L1:=by have:=rl t.kids.length;rw[jB2]at this;rw[hL1];exact this
 have hall:t.kids.take t.kids.length=t.kids:=jB2;have e:j3 p (m+1) t L=if t.k=3/\t.id∉L1 then (dfn p t.id).slots.foldl (fun L s=>j3 p m s.typ L) (L1++[t.id])else L1:=by rw[j3,<-hL1]
 rw[e];have hn0:ddL s.ns=[]:=by rw[hs0];rfl
 have rl2:t.k=3->t.id∉L1->RL p (L1++[t.id]):=fun h3 hin=>by
  obtain⟨d,hd,_⟩:=hd h3;obtain⟨hdm,hdi⟩:=y8 hd;refine⟨?_,fun x hx=>?_⟩
  .rw[jD];refine⟨rl1.nd,by simp,fun a ha b hb=>?_⟩;rw[jAk.1 hb];exact fun e=>hin (e▸ha)
  .rcases jA6.1 hx with hx|hx
   .exact rl1.sub x hx
   .rw[jAk.1 hx,<-hdi];exact List.mem_map_of_mem hdm
 have rl3:t.k=3->t.id∉L1->∀i,RL p (((dfn p t.id).slots.take i).foldl (fun L s=>j3 p m s.typ L) (L1++[t.id])):=fun h3 hin i=>by
  obtain⟨d,hd,hsl⟩:=hd h3;have:dfn p t.id=d:=by simp[dfn,hd]
  rw[this];exact RL.fold (fun(s:Slt) L=>j3 p m s.typ L) _ _ (fun sl hsl' L hL=>(hsl sl (jC3 hsl') L hL).1) (rl2 h3 hin)
 refine⟨?_,?_⟩
 .split
  .rename_i hc;have:=rl3 hc.1 hc.2 (dfn p t.id).slots.length
   rwa[jB2]at this
  .exact rl1
 refine zJ func103 rfl qI9 (rs:=[]) (by kernel_rfl) ?_;unfold qAY;have hP:=eP p;simp[rS,tS,hP,zB,hn0];intro hl;refine qH (S:=Nat) (fun i=>[(0,.ptr 0 0),(2,.map 6),(4,.ptr 7 0),(13,.sl t.kids.length (jL t.kids)),(14,int t.kids.length),(15,int i)])
  (fun i=>rS p s ((t.kids.take i).foldl (fun L k=>j3 p m k L) L)++[.box (zB t)]) (fun i=>i<=t.kids.length) (fun i=>t.kids.length-i) 0 (by simp)
  (mw [0,1,2,3,4,5,6,7] 0 (by rfl) (by simp[rS,tS,hP,zB,hn0])) ?_
 intro i hi;by_cases h:i<t.kids.length
 .obtain⟨_,hr⟩:=hk t.kids[i] (jA0 h) _ (rl i);have hst:=uV (fun L k=>j3 p m k L) L h;generalize (t.kids.take i).foldl (fun L k=>j3 p m k L) L=Li at hr hst ⊢;simp[rS,tS,hP,zB,hn0,h,gD h];refine mr hr [0,1,2,3,4,5,6] (by simp[rS,tS,hP,hn0,zB]) ?_;simp[rS,tS,hP,hn0];exact zN (i+1) h (by omega) (mw [0,1,2,3,4,5,6,7] 0 (by rfl) (by simp[rS,tS,hP,zB,hn0,hst,zY h hl]))
 .have hil:i=t.kids.length:=by omega
  subst hil;rw[hall,<-hL1];have hLl:=rl1.len hf;have hf1:=xX (i:=t.id) L1;simp only[dE]at hf1;by_cases h3:t.k=3
  .by_cases hin:t.id∈L1
   .rw[if_pos hin]at hf1;rw[if_neg (by simp[hin])];simp[rS,tS,hP,zB,hn0,h3,hf1];exact mv [0,1,2,3,4,5,6] 0 (by rfl) (by simp)
   .rw[if_neg hin]at hf1;rw[if_pos ⟨h3,hin⟩];have hp1:=zCi L1 hin;simp only[dE]at hp1;obtain⟨d,hdd,hsl⟩:=hd h3;have hdf:dfn p t.id=d:=by simp[dfn,hdd]
    have hdi:=(y8 hdd).2;have rl3:=rl3 h3 hin;have rl2:=rl2 h3 hin;have hnt:=zH4 true d.id L1 [] (by omega) (by simp);rw[hdi]at hnt;rw[hdf]at rl3 ⊢;simp[rS,tS,hP,zB,hn0,h3,hf1,hp1];refine b9 (s9 p t.id) (by simp[zI,zX]) (by simp[gN]) ?_;simp[gN,hdd,zQ,hdi];refine cS hnt [1,2,3,4,5] (by decide) (by simp[nS,zAX]) (by simp[zX]) ?_;simp[nS];intro hls;refine qH (S:=Nat) (fun i=>[(0,.ptr 0 0),(2,.map 6),(55,.sl d.slots.length (qW d.slots)),(56,int d.slots.length),(57,int i)])
     (fun i=>rS p s ((d.slots.take i).foldl (fun L s=>j3 p m s.typ L) (L1++[t.id]))) (fun i=>i<=d.slots.length) (fun i=>d.slots.length-i) 0 (by simp)
     (mw [0,1,2,3,4,5,6] 0 (by rfl) (by simp[rS,tS,hP,hn0,qD])) ?_
    intro i hi;by_cases h:i<d.slots.length
    .obtain⟨_,hr⟩:=hsl d.slots[i] (jA0 h) _ (rl3 i);have hst:=uV (fun L (s:Slt)=>j3 p m s.typ L) (L1++[t.id]) h;generalize (d.slots.take i).foldl (fun L s=>j3 p m s.typ L) (L1++[t.id])=Li at hr hst ⊢;simp[rS,tS,hP,hn0,h,jN h,aD];refine mr hr [0,1,2,3,4,5,6] (by simp[rS,tS,hP,hn0,zB]) ?_;simp[rS,tS,hP,hn0];exact zN (i+1) h (by omega) (mw [0,1,2,3,4,5,6] 0 (by rfl) (by simp[rS,tS,hP,hn0,hst,zY h hls]))
    .have hil:i=d.slots.length:=by omega
     subst hil;simp[rS,tS,hP,hn0];exact mv [0,1,2,3,4,5,6] 0 (by rfl) (by simp)
  .rw[if_neg (by simp[h3])];simp[rS,tS,hP,zB,hn0,h3];exact mv [0,1,2,3,4,5,6] 0 (by rfl) (by simp)
theorem zJI(hf:Fit p hs)(s:XS)(hs0:s.ns=[]){r:Nat}{t:Typ}(h:TyOk hs r t):∀n,r<n->zAx p s n t:=by
 induction h with
 |int r=>intro n hn;obtain⟨m,rfl⟩:∃m,n=m+1:=⟨n-1,by omega⟩;exact rU hf s hs0 m _ (by simp) (by simp)
 |bool r=>intro n hn;obtain⟨m,rfl⟩:∃m,n=m+1:=⟨n-1,by omega⟩;exact rU hf s hs0 m _ (by simp) (by simp)
 |list r t h ih =>
  intro n hn;obtain⟨m,rfl⟩:∃m,n=m+1:=⟨n-1,by omega⟩;refine rU hf s hs0 m _ (fun k hk=>?_) (by simp);simp only[Typ.kids_mk,jAk]at hk;subst hk;exact ih m (by omega)
 |dfn r k h h1 h2 h3 h4 ih =>
  intro n hn;obtain⟨m,rfl⟩:∃m,n=m+1:=⟨n-1,by omega⟩;refine rU hf s hs0 m _ (by simp) fun _=>?_
  obtain⟨d,hd,hhd⟩:=hf.hd k h;have e2:d.slots=hs[k].slots:=congrArg Hd.slots hhd;exact⟨d,hd,fun sl hsl=>ih sl (by rw[<-e2];exact hsl) m (by omega)⟩
end Go.Proofs.YtolkhapmieigcaaGreatDoor
namespace Go.Abs
theorem zTO{n0:Nat}{env:Env} {U:St}{l nk:Nat}{es:List (wC×A)}(hU:U[l]?=some (.mp true nk es)):fI n0 env (U.set l (.mp false nk es)) env U:=by
 intro H0 L0 w0 H L w N tmps h0 h1 h2;have hs:=zCj (o':=.mp false nk es) h1.st hU (fun li hob=>by simp only[zW]at hob ⊢;obtain⟨g0,b,ents,ck,g1,g2,g3,g4,g5⟩:=hob;exact⟨g0,b,ents,ck,g1,g2,g3,(show qAw false ents.toList ck from fun h=>by cases h),g5⟩)
 exact⟨H,L,⟨hs,h1.step,h1.lle,h1.own⟩,h2⟩
theorem zAK{ks:wC}:∀(l m:List (wC×A)),bP ks (l++m)=(bP ks l).or (bP ks m)
 |[],m=>rfl
 |p::l,m=>by
  simp only[jBf,bP];split
  .rfl
  .exact zAK l m
end Go.Abs
namespace Go.Proofs.YtolkhapmieigcaaGreatDoor
open Go.Abs
def nH(l:wP):List (wC×A):=l.map fun b=>([b.id.a,b.id.b,b.id.c,b.n],.agg [.lit (.int .i64 b.v.k),.lit (.int .i64 b.v.n),.sl b.v.kids.length (zT b.v.kids)])
@[simp]theorem qGO{rf:Bool->Nat->Nat->A}{g:Nat->wD}(l:wP):((nH l).map fun p=>(p.1,vw rf g p.2))=nH l:=by
 simp only[nH,jCb];refine jC6 fun x _=>?_
 simp
def Fr(V:wP)(i:Id)(n:Int):Prop:=∀b∈V,¬(b.id=i/\b.n=n)
theorem zXc{a b:Id}{n m:Int}:[a.a,a.b,a.c,n]=[b.a,b.b,b.c,m]↔a=b/\n=m:=by obtain⟨x,y,z⟩:=a;obtain⟨x',y',z'⟩:=b;simp[and_assoc]
theorem zDV{i:Id}{n:Int}:∀{V:wP},Fr V i n->bP [i.a,i.b,i.c,n] (nH V)=none
 |[],_=>rfl
 |b::V,h=>by
  have h1:=h b (by simp);have ih:=zDV (V:=V) fun x hx=>h x (by simp[hx])
  simp only[nH,jAc,bP]at ih ⊢;rw[if_neg fun e=>h1 (zXc.1 e)];exact ih
theorem zDs{i:Id}{n:Int}{v:Val}:∀{V:wP},Fr V i n->mG [i.a,i.b,i.c,n] (.agg [.lit (.int .i64 v.k),.lit (.int .i64 v.n),.sl v.kids.length (zT v.kids)]) (nH V)=nH (V++[⟨i,n,v⟩])
 |[],_=>rfl
 |b::V,h=>by
  have h1:=h b (by simp);have ih:=zDs (v:=v) (V:=V) fun x hx=>h x (by simp[hx])
  simp only[nH,jAc,mG,jBf]at ih ⊢;rw[if_neg fun e=>h1 (zXc.1 e),ih]
theorem zHg{i:Id}{n:Int}{v:Val}:∀{V:wP},Fr V i n->zBF [i.a,i.b,i.c,n] (nH (V++[⟨i,n,v⟩]))=nH V
 |[],_=>by simp[nH,zBF]
 |b::V,h=>by
  have h1:=h b (by simp);have ih:=zHg (v:=v) (V:=V) fun x hx=>h x (by simp[hx])
  simp only[nH,jAc,zBF,jBf]at ih ⊢;rw[if_neg fun e=>h1 (zXc.1 e),ih]
def NdV(V:wP):Prop:=V.Pairwise fun a b=>¬(a.id=b.id/\a.n=b.n)
variable{V:wP}{i:Id}
theorem NdV.push(h:NdV V){n:Int}{v:Val}(hf:Fr V i n):NdV (V++[⟨i,n,v⟩]):=by unfold NdV;rw[jCr];refine⟨h,by simp,fun a ha b hb=>?_⟩;rw[jAk.1 hb];exact hf a ha
theorem Fr.of(h:∀b∈V,b.id≠i)(n:Int):Fr V i n:=fun b hb e=>h b hb e.1
theorem Fr.push(h:∀b∈V,b.id≠i){n m:Int}(hne:m≠n)(v:Val):Fr (V++[⟨i,m,v⟩]) i n:=fun b hb e=>by
 rcases jA6.1 hb with hb|hb
 .exact h b hb e.1
 .rw[jAk.1 hb]at e;exact hne e.2
theorem EnvT.get{p:Prg}{B:wJ}(h:EnvT p B V)(hn:NdV V){x:Id}{n:Int}{t:Typ}:fG B x n=some t ->
 bP [x.a,x.b,x.c,n] (nH V)=some (.agg [.lit (.int .i64 (vT V x n).k),.lit (.int .i64 (vT V x n).n),.sl (vT V x n).kids.length (zT (vT V x n).kids)]):=by
 induction h with
 |nil=>intro h;simp[fG]at h
 |snoc B V b v h hi hb ht hz ih =>
  intro hl;unfold NdV at hn;rw[jCr]at hn;have e:nH (V++[v])=nH V++nH [v]:=by simp[nH]
  rw[e,zAK,zDU];rw[rL]at hl;by_cases hc:b.id=x/\b.n=n
  .have hv:v.id=x/\v.n=n:=⟨hi.trans hc.1,hb.trans hc.2⟩;have hfr:Fr V x n:=fun y hy e=>hn.2.2 y hy v (by simp) ⟨e.1.trans hv.1.symm,e.2.trans hv.2.symm⟩
   rw[zDV hfr,if_pos hv];simp[nH,bP,hv.1,hv.2]
  .rw[if_neg hc]at hl;rw[if_neg (fun e=>hc ⟨hi.symm.trans e.1,hb.symm.trans e.2⟩),ih hn.1 hl];rfl
@[simp]theorem qKI{z:Value}{a:A}:tJ z false (some a)=a:=rfl
@[simp]theorem qGC:tJ (.agg #[(.int .i64 0),(.int .i64 0),(.slice none 0 0)]) true none=.tup [.agg [.lit (.int .i64 0),.lit (.int .i64 0),.nil],.lit (.bool false)]:=by kernel_rfl
def tE(p:Prg)(s:XS)(V:wP):St:=tS p s++[.mp false 4 (nH V)]
def TOk(p:Prg)(r:Val×XS)(e:Exp)(V:wP)(s:XS):Prop:=my 166 [.ptr 0 0,.agg (zH e),.map 6] (tE p s V) (.agg (z7 r.1)) (tE p r.2 V)
@[simp]theorem qFX:zA prog 223=true:=by kernel_rfl
def qAZ:K:=G [kO 6 1,kO 8 3,kO 9 4,kZ 10 [ki,ki,kl]] (G [M 15 2,J 16 8 4,⟨none,.mop (some 17) (.get 4 (.agg #[ki,ki,kl]) true) [(kt 15),(kt 16)]⟩,M 14 17,kE 18 14 0,kE 19 14 1,kZ 11 [ki,ki,kl],S 11 18 3,M 12 19] (G [M 20 2,J 21 8 4,J 22 9 3,⟨none,.mop none (.set 4) [(kt 20),(kt 21),(kt 22)]⟩] (G [M 23 0,J 24 6 15,M 25 2,kC 26 166 [(kt 23),(kt 24),(kt 25)],kZ 13 [ki,ki,kl],S 13 26 3] (G [M 27 2,J 28 8 4,⟨none,.mop none (.del 4) [(kt 27),(kt 28)]⟩] (Z (G [M 29 12] (Y 29 (K.ops [M 30 2,J 31 8 4,J 32 11 3,⟨none,.mop none (.set 4) [(kt 30),(kt 31),(kt 32)]⟩]) ks)) (G [J 33 13 3,S 10 33 3] kr))))))
theorem qIA:ky f232 qAZ:=m_ (by kernel_rfl)
@[simp]theorem qKf:zA prog 232=true:=by kernel_rfl
theorem zFg{p:Prg}(e:Exp)(V:wP)(i:Id)(n:Int)(v:Val)(s:XS)(r:Val×XS)(hf:Fr V i n)(h:TOk p r e (V++[⟨i,n,v⟩]) s) :
 my 232 [.ptr 0 0,.agg (zH e),.map 6,.agg [.lit (.int .i64 i.a),.lit (.int .i64 i.b),.lit (.int .i64 i.c),.lit (.int .i64 n)],.agg (z7 v)] (tE p s V) (.agg (z7 r.1)) (tE p r.2 V):=by
 refine zG func232 rfl qIA (rs:=[.cell 10 3 true]) (by kernel_rfl) ?_;unfold qAZ;have hP:=eP p;have h1:=zDV hf;have h2:=zDs (v:=v) hf;have h3:=zHg (v:=v) hf;unfold TOk at h;simp[tE,tS,hP,zH,z7,h1,h2];refine mr h [0,1,2,3,4,5,6] (by simp[tE,tS,hP,zH]) ?_;simp[tE,tS,hP,z7,h3];exact mv [0,1,2,3,4,5,6] 0 (by rfl) (by simp[z7])
end Go.Proofs.YtolkhapmieigcaaGreatDoor

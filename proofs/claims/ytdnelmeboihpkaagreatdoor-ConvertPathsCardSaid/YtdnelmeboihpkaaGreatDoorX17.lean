/- The fields of a slot that an expression reads: two ways to find them. -/
import Derived.Test.YtdnelmeboihpkaaGreatDoorX16
set_option linter.unusedVariables false
set_option maxHeartbeats 8000000
set_option maxRecDepth 100000
set_option linter.unusedSimpArgs false
open Go.Proofs.Tryz
namespace Go.Proofs.YtdnelmeboihpkaaGreatDoor
open Go.Abs
def isS(s:Id)(k:Exp):Bool:=decide (k.k=2)&&decide (k.ref=s)
mutual
def eE(s:Id):Exp->Bool->Bool
 | .mk _ k _ r _ ks _,field=>(decide (k=2)&&decide (r=s)&&!field)||cJ s (decide (k=8)) ks
def cJ(s:Id)(f:Bool):List Exp->Bool
 |[]=>false
 |e::l=>eE s e (f&&isS s e)||cJ s f l
end
mutual
def gL(s:Id):Exp->wB
 | .mk _ k n _ _ ks _=>iL s (decide (k=8)) n ks
def iL(s:Id)(f:Bool)(n:Int):List Exp->wB
 |[]=>[]
 |e::l=>(if (f&&isS s e)=true then [n]else [])++gL s e++iL s f n l
end
def zEx:List Int->Int->wB
 |[],n=>[n]
 |x::l,n=>if x<n then x::zEx l n else if x=n then x::l else n::x::l
mutual
def dP(s:Id):Exp->Option wB
 | .mk _ k n r _ ks _=>if k=2 then (if r=s then none else some [])else if k=8/\ks.length=1/\isS s (ks.headD .zero)=true then some [n]else iW s [] ks
def iW(s:Id)(acc:wB):List Exp->Option wB
 |[]=>some acc
 |e::l=>match dP s e with
  |none=>none
  |some m=>iW s (m.foldl zEx acc) l
end
mutual
def lU:Exp->Bool
 | .mk _ k _ _ _ ks _=>(!decide (k=2)||decide (ks.length=0))&&(!decide (k=8)||decide (ks.length=1))&&sX ks
def sX:List Exp->Bool
 |[]=>true
 |e::l=>lU e&&sX l
end
abbrev Inc(l:wB):Prop:=l.Pairwise (· < ·)
theorem zBa(x n:Int):∀l:wB,x∈zEx l n↔x∈l\/x=n
 |[]=>by simp[zEx]
 |y::l=>by
  unfold zEx;split
  .simp only[jA1,zBa x n l];exact or_assoc.symm
  .split
   .rename_i h;subst h;simp;intro h;exact .inl h
   .simp;constructor
    .rintro(h|h|h)<;>simp[h]
    .rintro((h|h)|h)<;>simp[h]
theorem zEv(n:Int):∀{l:wB},Inc l->Inc (zEx l n)
 |[],_=>by simp[zEx]
 |y::l,h=>by
  have h1:=jBh.1 h;unfold zEx;split
  .rename_i hy;refine jBh.2 ⟨fun z hz=>?_,zEv n h1.2⟩;rcases (zBa z n l).1 hz with hz|rfl
   .exact h1.1 z hz
   .exact hy
  .split
   .exact h
   .refine jBh.2 ⟨fun z hz=>?_,h⟩;rcases jA1.1 hz with rfl|hz
    .omega
    .have:=h1.1 z hz;omega
theorem zE0(x:Int):∀(m acc:wB),x∈m.foldl zEx acc↔x∈acc\/x∈m
 |[],acc=>by simp
 |n::m,acc=>by rw[jBk,zE0 x m,zBa,jA1];exact or_assoc
theorem zEz:∀(m:wB) {acc:wB},Inc acc->Inc (m.foldl zEx acc)
 |[],_,h=>h
 |n::m,_,h=>zEz m (zEv n h)
theorem zMI:∀{a b:wB},Inc a->Inc b->(∀x,x∈a↔x∈b)->a=b
 |[],[],_,_,_=>rfl
 |[],y::b,_,_,h=>by have:=(h y).2 (by simp);simp at this
 |x::a,[],_,_,h=>by have:=(h x).1 (by simp);simp at this
 |x::a,y::b,ha,hb,h=>by
  have h1:=jBh.1 ha;have h2:=jBh.1 hb;have hxy:x=y:=by
   rcases jA1.1 ((h x).1 (by simp))with e|e
   .exact e
   .rcases jA1.1 ((h y).2 (by simp))with e'|e'
    .exact e'.symm
    .have:=h2.1 x e;have:=h1.1 y e';omega
  subst hxy;rw[zMI h1.2 h2.2 fun z=>?_];constructor
  .intro hz;rcases jA1.1 ((h z).1 (by simp[hz]))with e|e
   .have:=h1.1 z hz;omega
   .exact e
  .intro hz;rcases jA1.1 ((h z).2 (by simp[hz]))with e|e
   .have:=h2.1 z hz;omega
   .exact e
mutual
theorem zH0(s:Id):∀e:Exp,lU e=true->(dP s e=none↔eE s e false=true)/\∀l,dP s e=some l->Inc l/\∀x,x∈l↔x∈gL s e
 | .mk i k n r t ks ns,h=>by
  simp only[lU,jA6,jB4,jBi,decide_eq_false_iff_not,decide_eq_true_eq]at h;obtain⟨⟨h2,h8⟩,hk⟩:=h;unfold dP eE gL;by_cases hk2:k=2
  .have hks:ks=[]:=jC5 (h2.resolve_left fun h=>h hk2);subst hk2 hks;by_cases hr:r=s
   .simp[hr,cJ]
   .simp[hr,cJ,iL]
  .rw[if_neg hk2];by_cases hf:k=8/\ks.length=1/\isS s (ks.headD .zero)=true
   .rw[if_pos hf];obtain⟨h8',h1,hs⟩:=hf
    match ks,h1 with
    |[x],_ =>
     simp only[jCx]at hs;have hx:x.kids=[]:=by cases x;simp only[sX,lU,jA6,jB4,jBi,decide_eq_false_iff_not,decide_eq_true_eq,isS,Exp.k]at hk hs;exact jC5 (hk.1.1.1.resolve_left fun h=>h (of_decide_eq_true hs.1))
     have hw:eE s x true=false:=by cases x;simp only[Exp.kids]at hx;subst hx;simp[eE,cJ]
     have hm:gL s x=[]:=by cases x;simp only[Exp.kids]at hx;subst hx;simp[gL,iL]
     simp[cJ,iL,h8',hs,hw,hm]
   .rw[if_neg hf];have hno:decide (k=8)=true->∀e∈ks,isS s e=false:=by
     intro h8' e he;simp only[decide_eq_true_eq]at h8';have h1:=h8.resolve_left fun h=>h h8'
     match ks,h1 with
     |[x],_ =>
      rw[jAl]at he;subst he;have:=fun h=>hf ⟨h8',rfl,h⟩
      simpa using this
    have hl:=zRK s ks [] (decide (k=8)) n hno hk (by simp);refine⟨?_,fun l h=>?_⟩
    .rw[hl.1];simp[hk2]
    .have:=hl.2 l h;exact⟨this.1,fun x=>by rw[this.2];simp⟩
theorem zRK(s:Id):∀(l:wG) (acc:wB) (f:Bool) (n:Int),(f=true->∀e∈l,isS s e=false)->sX l=true->Inc acc->(iW s acc l=none↔cJ s f l=true)/\∀m,iW s acc l=some m->Inc m/\∀x,x∈m↔x∈acc\/x∈iL s f n l
 |[],acc,f,n,_,_,ha=>by simp only[iW,cJ,iL];exact⟨by simp,fun m h=>by cases h;exact⟨ha,by simp⟩⟩
 |e::l,acc,f,n,hno,hk,ha=>by
  simp only[sX,jA6]at hk;have h1:=zH0 s e hk.1;have hfe:(f&&isS s e)=false:=by
   cases f with
   |false=>rfl
   |true=>rw[hno rfl e (by simp)];rfl
  simp only[iW,cJ,iL,hfe];cases hr:dP s e with
  |none =>
   have:=h1.1.1 hr;simp[this]
  |some m =>
   have hw:eE s e false=false:=by
    cases hw:eE s e false with
    |false=>rfl
    |true=>rw[h1.1.2 hw]at hr;cases hr
   have h2:=h1.2 m hr;have h3:=zRK s l (m.foldl zEx acc) f n (fun h x hx=>hno h x (by simp[hx])) hk.2 (zEz m ha);refine⟨by simp only[hw,jC8];exact h3.1,fun q hq=>?_⟩;have h4:=h3.2 q hq;refine⟨h4.1,fun x=>?_⟩;rw[h4.2,zE0,h2.2];simp;exact or_assoc
end
variable{p:Prg}{B:wI}{e:Exp}{t:Typ}
theorem zSw(h:WE p B e t):lU e=true:=by
 have all:∀{l:wG},(∀(j:Nat) (hj:j<l.length),lU l[j]=true)->sX l=true:=by
  intro l;induction l with
  |nil=>intro _;rfl
  |cons x l ih=>intro h;simp only[sX,jA6];exact⟨h 0 (by simp),ih fun j hj=>h (j+1) (by simpa using hj)⟩
 induction h with
 |int=>simp[lU,sX]
 |bool=>simp[lU,sX]
 |var=>simp[lU,sX]
 |call _ _ _ _ _ _ _ _ _ _ _ _ _ ih=>simpa[lU]using all ih
 |op _ _ _ _ _ _ _ _ _ _ _ _ _ ih=>simpa[lU]using all ih
 |ite _ _ _ _ _ _ _ _ _ _ _ _ _ a b c=>simp[lU,sX,a,b,c]
 |lets _ _ _ _ _ _ _ _ _ _ _ _ _ a b=>simp[lU,sX,a,b]
 |record _ _ _ _ _ _ _ _ _ _ _ _ _ ih=>simpa[lU]using all ih
 |field _ _ _ _ _ _ _ _ _ _ _ _ a=>simp[lU,sX,a]
 |case _ _ _ _ _ _ _ _ _ _ _ _ a=>simp[lU,sX,a]
 |mtch _ _ _ _ _ _ _ _ _ _ _ _ _ _ _ _ a ih=>simp[lU,sX,a,all ih]
 |list _ _ _ _ _ _ _ _ _ _ ih=>simpa[lU]using all ih
 |fold _ _ _ _ _ _ _ _ _ _ _ _ _ _ _ a b c=>simp[lU,sX,a,b,c]
structure Bn(c:Nat)(m:Int)(s:XS):Prop where
 ns:s.ns.length+s.fuel.toNat<=c
 ds:s.ds.length+s.fuel.toNat<=c
 fu:s.fuel<=m
structure Bd(c:Nat)(m:Int)(s:XS):Prop where
 ns:s.ns.length+s.fuel.toNat<=c
 ds:s.ds.length+s.fuel.toNat<=c
 fu:s.fuel<=m
 ok:s.fail=0->s.ds.length+s.fuel.toNat+1<=c
variable{c:Nat}{m:Int}{s:XS}
theorem Bd.mono{m':Int}(h:Bd c m s)(hm:m<=m'):Bd c m' s:=⟨h.ns,h.ds,by have:=h.fu;omega,h.ok⟩
theorem Bn.fail(h:Bn c m s){x:Int}(hx:x≠0):Bd c m {s with fail:=x}:=⟨h.ns,h.ds,h.fu,fun e=>(hx e).elim⟩
theorem Bn.tick(h:Bn c m s)(e:Exp)(hf:¬s.fuel<=0):Bd c (m-1) (oI e s):=by obtain⟨h1,h2,h3⟩:=h;unfold oI;exact⟨by simp only[List.length_append,List.length_singleton];omega,by dsimp only;omega,by dsimp only;omega,fun _=>by dsimp only;omega⟩
theorem Bd.def(h:Bd c m s)(d:Id)(hf:s.fail=0):Bn c m {s with ds:=s.ds++[d]}:=by have:=h.ok hf;exact⟨h.ns,by simp only[jA5,jAx];omega,h.fu⟩
section
variable{p:Prg}{ev:Evl}{c:Nat}{m:Int}
end
def Eqv(r r':Val×XS):Prop:=r.2=r'.2/\(r.2.fail=0->r.1=r'.1)
theorem Eqv.rfl'(r:Val×XS):Eqv r r:=⟨rfl,fun _=>rfl⟩
theorem Eqv.eq{r r':Val×XS}(h:Eqv r r')(hf:r.2.fail=0):r'=r:=Prod.ext (h.2 hf).symm h.1.symm
section
variable{p:Prg}{f g:Evl}
end
@[simp]theorem qJO:zC prog 227=true:=by kernel_rfl
theorem zIv(n:Int):my 227 [int n] [] (int (fE n)) []:=by
 refine mq [] [.slot 2] func227 (by kernel_rfl) ?_
 (conv in kq _ _=>cbv)
 by_cases h1:n < -1099511627776
 .simp[h1];exact zA 0 (by simp[fE,h1,show ¬1099511627776<n by omega])
 .by_cases h2:1099511627776<n
  .simp[h1,h2];exact zA 0 (by simp[fE,h2])
  .simp[h1,h2];exact zA 0 (by simp[fE,h1,h2])
theorem eH(b:Bool):my 174 [bl b] [] (.agg (zL (fN b))) []:=by
 refine mq [] [.cell 2 3 true] func174 (by kernel_rfl) ?_
 (conv in kq _ _=>cbv)
 cases b with
 |true =>
  simp;exact zA 0 (by simp[zL,fN,Val.k,Val.n,Val.kids])
 |false =>
  simp;exact zA 0 (by simp[zL,fN,Val.k,Val.n,Val.kids])
def Rng(a:Int):Prop:=-1099511627776<=a/\a<=1099511627776
@[simp]theorem qJU:zC prog 226=true:=by kernel_rfl
@[simp]theorem qJV:zC prog 228=true:=by kernel_rfl
@[simp]theorem qJY:zC prog 229=true:=by kernel_rfl
@[simp]theorem qJR:zC prog 230=true:=by kernel_rfl
@[simp]theorem qJX:zC prog 231=true:=by kernel_rfl
variable{a b:Int}
theorem zSW(ha:Rng a)(hb:Rng b):my 226 [int a,int b] [] (int (fE (a+b))) []:=by
 obtain⟨a1,a2⟩:=ha;obtain⟨b1,b2⟩:=hb;refine mq [] [.slot 4] func226 (by kernel_rfl) ?_
 (conv in kq _ _=>cbv)
 have hw:=qA (a+b) (by omega);simp[hw];refine mu (zIv (a+b)) (by simp) ?_;simp;exact zA 0 (by simp)
theorem zTf(ha:Rng a)(hb:Rng b):my 228 [int a,int b] [] (int (fE (a-b))) []:=by
 obtain⟨a1,a2⟩:=ha;obtain⟨b1,b2⟩:=hb;refine mq [] [.slot 4] func228 (by kernel_rfl) ?_
 (conv in kq _ _=>cbv)
 have hw:=qA (a-b) (by omega);simp[hw];refine mu (zIv (a-b)) (by simp) ?_;simp;exact zA 0 (by simp)
theorem zN9{m n q:Nat}(hq:1099511627776 / n=q)(hn:0<n):(q<m->1099511627776<m*n)/\(¬q<m->m*n<=1099511627776):=by
 constructor
 .intro h;rw[<-hq]at h;exact(Nat.div_lt_iff_lt_mul hn).1 h
 .intro h;rw[<-hq]at h;have:=mt (Nat.div_lt_iff_lt_mul hn).2 h;omega
theorem zNm(a:Int)(h:a≠0):∃m:Nat,0<m/\(a=m\/a = -(m:Int)):=⟨a.natAbs,by omega,by omega⟩
theorem zNM(ha:Rng a)(hb:Rng b):my 229 [int a,int b] [] (int (fE (a*b))) []:=by
 obtain⟨a1,a2⟩:=ha;obtain⟨b1,b2⟩:=hb;refine mq [] [.slot 4] func229 (by kernel_rfl) ?_
 (conv in kq _ _=>cbv)
 by_cases h0:a=0
 .subst h0;simp;exact zA 0 (by simp[fE])
 by_cases h1:b=0
 .subst h1;simp[h0];exact zA 0 (by simp[fE])
 obtain⟨m,m0,hm⟩:=zNm a h0;obtain⟨n,n0,hn⟩:=zNm b h1;obtain⟨q,hq⟩:∃q:Nat,1099511627776 / n=q:=⟨_,rfl⟩;obtain⟨c1,c2⟩:=zN9 (m:=m) hq n0;have hqd:Int.tdiv 1099511627776 (n:Int)=(q:Int):=by rw[tdN (by omega),<-hq];rfl
 have hqle:q<=1099511627776:=by rw[<-hq];exact Nat.div_le_self _ _
 have wq:=qA (q:Int) (by omega);have wm:=qA (m:Int) (by omega);have wn:=qA (n:Int) (by omega);have wm':IntKind.i64.wrap (-(m:Int)) = -m:=IntWalk.i64_in _ (by omega);have wn':IntKind.i64.wrap (-(n:Int)) = -n:=IntWalk.i64_in _ (by omega);have x1:¬((m:Int) < -m):=by omega
 have x2:(-(m:Int))<m:=by omega
 have y1:¬((n:Int) < -n):=by omega
 have y2:(-(n:Int))<n:=by omega
 have z1:¬((m:Int)<0):=by omega
 have z2:(-(m:Int))<0:=by omega
 have z3:¬((n:Int)<0):=by omega
 have z4:(-(n:Int))<0:=by omega
 have m1:¬m=0:=by omega
 have n1:¬n=0:=by omega
 have p0:(m:Int)*n=((m*n:Nat):Int):=by push_cast;rfl
 generalize hmn:m*n=s at *
 by_cases hc:(q:Int)<m
 .have hs:=c1 (by omega);have k1:fE (s:Int)=1099511627776:=by unfold fE;rw[if_pos (by omega)]
  have k2:fE (-(s:Int)) = -1099511627776:=by unfold fE;rw[if_neg (by omega),if_pos (by omega)]
  rcases hm with rfl|rfl<;>rcases hn with rfl|rfl<;>simp[m1,n1,wm,wn,wm',wn',x1,x2,y1,y2,z1,z2,z3,z4,m0,n0,hqd,wq,hc]<;>exact zA 0 (by simp[Int.neg_mul,Int.mul_neg,p0,k1,k2])
 .have hs:=c2 (by omega);have k1:fE (s:Int)=s:=by unfold fE;rw[if_neg (by omega),if_neg (by omega)]
  have k2:fE (-(s:Int)) = -s:=by unfold fE;rw[if_neg (by omega),if_neg (by omega)]
  have w1:=qA (s:Int) (by omega);have w2:=qA (-(s:Int)) (by omega);rcases hm with rfl|rfl<;>rcases hn with rfl|rfl<;>simp[m1,n1,wm,wn,wm',wn',x1,x2,y1,y2,z1,z2,z3,z4,m0,n0,hqd,wq,hc]<;>exact zA 0 (by simp[Int.neg_mul,Int.mul_neg,p0,k1,k2,w1,w2])
theorem zD8(ha:Rng a)(hb:Rng b):my 230 [int a,int b] [] (int (zB9 a b)) []:=by
 obtain⟨a1,a2⟩:=ha;refine mq [] [.slot 4] func230 (by kernel_rfl) ?_
 (conv in kq _ _=>cbv)
 by_cases h1:b=0
 .subst h1;simp;exact zA 0 (by simp[zB9])
 have ht:=zNp (b:=b) a1 a2;have w1:=qA (a.tdiv b) (by omega);have w2:=qA (a.tdiv b-1) (by omega);have e:zB9 a b=if a.tmod b≠0/\¬(a<0↔b<0)then a.tdiv b-1 else a.tdiv b:=by unfold zB9;rw[if_neg h1]
 rw[e];by_cases hm:a.tmod b=0
 .simp[h1,hm,w1];exact zA 0 (by simp[hm])
 by_cases s1:a<0<;>by_cases s2:b<0<;>simp[h1,hm,w1,s1,s2,w2]<;>exact zA 0 (by simp[hm,s1,s2])
theorem zQ0(ha:Rng a)(hb:Rng b):my 231 [int a,int b] [] (int (zH2 a b)) []:=by
 have hd:=zD8 ha hb;refine mq [] [.slot 4] func231 (by kernel_rfl) ?_
 (conv in kq _ _=>cbv)
 by_cases h1:b=0
 .subst h1;simp;exact zA 0 (by simp[zH2])
 have hr:=zE6 (a:=a) hb.1 hb.2;have e:zH2 a b=a-b*zB9 a b:=by unfold zH2;rw[if_neg h1]
 obtain⟨a1,a2⟩:=ha;have w1:=qA (b*zB9 a b) (by omega);have w2:=qA (a-b*zB9 a b) (by omega);simp[h1];refine mu hd (by simp) ?_;simp[w1,w2];exact zA 0 (by simp[e])
def zJH:Go.Shelf.Ren:=⟨fun | 4=>204|n=>n,fun | 0=>0 | 3=>3 | 4=>4 | 9=>9 | 20=>20 | 22=>44 | 25=>46|n=>n,fun n=>n⟩
theorem zRm:Go.Proofs.Lays8.n4 prog zJH:={
 mixed:=by kernel_rfl,
 f4:=⟨f204.name,by decide,func204.trans (congrArg some (by kernel_rfl))⟩,
 t0:=underlying0,
 a0:=isAgg0,
 z0:=sizeOf0,
 v0:=zeroValue0,
 t3:=underlying3,
 a3:=isAgg3,
 z3:=sizeOf3,
 v3:=zeroValue3,
 t4:=underlying4,
 a4:=isAgg4,
 z4:=sizeOf4,
 v4:=zeroValue4,
 t9:=underlying9,
 a9:=isAgg9,
 z9:=sizeOf9,
 v9:=zeroValue9,
 t20:=underlying20,
 a20:=isAgg20,
 z20:=sizeOf20,
 v20:=zeroValue20,
 t22:=underlying44,
 a22:=isAgg44,
 z22:=sizeOf44,
 v22:=zeroValue44}
theorem zIQ(n:Nat)(hn:n<=1000000):my 204 [.nil,int n] [] (.row 0 0) [.row false 46 3 0 []] :=
 zOp (ρ:=zJH) (sz:=3) (bs:=40) (z:=.agg #[.int .i64 0,.int .i64 0,.slice none 0 0]) zRm (by kernel_rfl) rfl (by omega) (by omega) (by omega)
def cM(Ls:List wH):wE:=Ls.map fun l=>A.sl l.length (zS l)
theorem oM:∀(Ls:List wH),qP (cM Ls)
 |[]=>qP.nil
 |l::Ls=>by
  have h1:=oM Ls;have h2:=dW l;refine⟨?_,fun rf g=>?_⟩
  .show jH (A.sl l.length (zS l)::cM Ls)=_;simp[h1.1];rfl
  .show vwL rf g (A.sl l.length (zS l)::cM Ls)=_;simp[h1.2];rfl
@[simp]theorem zTJ(l:List wH):jH (cM l)=cM l:=(oM l).1
@[simp]theorem zYU{rf g}(l:List wH):vwL rf g (cM l)=cM l:=(oM l).2 _ _
@[simp]theorem zVp(l:List wH):(cM l).length=l.length:=by simp[cM]
variable{Ls:List wH}{i:Nat}
theorem zA0(h:i<Ls.length):(cM Ls).drop i=.sl Ls[i].length (zS Ls[i])::cM (Ls.drop (i+1)):=by rw[cM,<-List.map_drop,jB0 h];rfl
def nS(Ls:List wH):Nat:=Ls.flatten.length
theorem zG9(h:i<Ls.length):nS (Ls.take (i+1))=nS (Ls.take i)+Ls[i].length:=by rw[nS,nS,jA8 h,jDl];simp
theorem zNq(Ls:List wH)(i:Nat):nS (Ls.take i)<=nS Ls:=by
 have:Ls.flatten=(Ls.take i).flatten++(Ls.drop i).flatten:=by rw[<-jDl,jC0]
 rw[nS,nS,this,jA5];omega
theorem zFg(Ls:List wH)(hb:nS Ls<=1000000):my 196 [.sl Ls.length (cM Ls)] [] (.sl (nS Ls) (zS Ls.flatten)) []:=by
 refine mq [] [.slot 2] func196 (by kernel_rfl) ?_
 (conv in kq _ _=>cbv)
 simp;intro hl;refine qM (S:=Nat) (fun i=>[(0,.sl Ls.length (cM Ls)),(3,int (nS (Ls.take i))),(9,.sl Ls.length (cM Ls)),(10,int Ls.length),(11,int i)]) (fun s=>[]) (fun i=>i<=Ls.length) (fun i=>Ls.length-i) 0 (by simp)
  (mw [] 0 (by rfl) (by simp[nS])) ?_
 intro i hi;by_cases h:i<Ls.length
 .have ht:=zG9 h;have hle:=zNq Ls (i+1);have hw:IntKind.i64.wrap ((nS (Ls.take i):Int)+(Ls[i].length:Int))=(nS (Ls.take (i+1)):Nat):=by rw[ht];push_cast;exact IntWalk.i64_in _ (by omega)
  have h0:¬((nS (Ls.take (i+1)):Nat):Int)<0:=by omega
  simp[h,zA0 h];intro _;simp[hw,h0];exact zN (i+1) h (by omega) (mw [] 0 (by rfl) (by simp[z6 h hl]))
 .have hil:i=Ls.length:=by omega
  subst hil;have hI:¬(Ls.length:Int)<Ls.length:=by omega
  simp;refine mr (zIQ (nS Ls) hb) [] (by simp) ?_;simp;intro _;refine qM (S:=Nat) (fun i=>[(6,.row 0 (nS (Ls.take i))),(25,.sl Ls.length (cM Ls)),(26,int Ls.length),(27,int i)]) (fun i=>[.row false 46 3 (nS (Ls.take i)) (zS (Ls.take i).flatten)]) (fun i=>i<=Ls.length) (fun i=>Ls.length-i) 0 (by simp)
   (mw [0] 0 (by rfl) (by simp[nS])) ?_
  intro i hi;by_cases h:i<Ls.length
  .have ht:=zG9 h;have hle:=zNq Ls (i+1);have hf:(Ls.take (i+1)).flatten=(Ls.take i).flatten++Ls[i]:=by rw[jA8 h,jDl];simp
   simp[h,zA0 h];refine⟨⟨by simp[maxLen];omega,by omega⟩,?_⟩;exact zN (i+1) h (by omega) (mw [0] 0 (by rfl) (by simp[ht,hf,cU,z6 h hl]))
  .have hil:i=Ls.length:=by omega
   subst hil;simp;exact zA 1 (by simp)
mutual
theorem xK:∀(l:wH),jT l<=1000000->my 108 [.sl l.length (zS l)] [] (.sl l.length (zS l)) []
 |l,hz=>by
  have hl6:=nM l;refine mq [] [.slot 2] func108 (by kernel_rfl) ?_
  (conv in kq _ _=>cbv)
  simp;intro hl;refine qM (S:=Nat) (fun i=>[(3,.row 0 i),(6,.sl l.length (zS l)),(7,int l.length),(8,int i)]) (fun i=>[.row false 46 3 i (zS (l.take i))]) (fun i=>i<=l.length) (fun i=>l.length-i) 0 (by simp)
   ((jW (t:=3) (by simp) 46 3).trans (mw [0] 0 (by rfl) (by simp))) ?_
  intro i hi;by_cases h:i<l.length
  .have hk:=zCr l hz l[i] (jA3 h);have ht:zS (l.take (i+1))=zS (l.take i)++[.lit (.int .i64 l[i].k),.lit (.int .i64 l[i].n),.sl l[i].kids.length (zS l[i].kids)]:=by rw[jA8 h,cU];simp
   simp[h,jY h];refine mu hk (by simp) ?_;simp;refine⟨⟨by simp[maxLen];omega,by omega⟩,?_⟩;exact zN (i+1) h (by omega) (mw [0] 0 (by rfl) (by simp[ht,z6 h hl]))
  .have hil:i=l.length:=by omega
   subst hil;simp;exact zA 1 (by simp)
theorem zCr:∀(l:wH),jT l<=1000000->∀x∈l,my 108 [.sl x.kids.length (zS x.kids)] [] (.sl x.kids.length (zS x.kids)) []
 |[],_,x,h=>by simp at h
 | .mk k n ks::l,hz,x,h=>by
  simp only[jT,qN]at hz
  if e:x∈l then exact zCr l (by omega) x e
  else
   have:x=.mk k n ks:=(jA1.1 h).resolve_right e;subst this;exact xK ks (by omega)
end
def qEg:Nat->Option wD:=fun|9=>k_ [0,2,2,0,2,2,301,302,0,0]|_=>none
@[simp]theorem qGb(b:Bool):(fN b).k=1:=rfl
@[simp]theorem qGc(b:Bool):(fN b).n=if b then 1 else 0:=rfl
@[simp]theorem zWt(b:Bool):(fN b).kids=[]:=rfl
@[simp]theorem zX6{env:Env}:ev env (.global 0)=.rptr [.clo 226 [] [],.clo 228 [] [],.clo 229 [] [],.clo 230 [] [],.clo 231 [] []]:=rfl
theorem aQ:2<=maxLen:=by simp[maxLen]
theorem iN:1<=maxLen:=by simp[maxLen]
theorem zX4{n:Int}{ts:wQ}(h:OpT n ts t){vs:wH}(hv:TyL p ts vs)(hs:∀v∈vs,qN v<=256):my 177 [int n,.sl vs.length (zS vs)] [] (.agg (zL (opV n vs))) []:=by
 refine ml qEg [64] [] [] [.cell 4 3 true] func177 (by kernel_rfl) ?_
 (conv in kH _ _ _=>cbv)
 cases h with
 |arith n h1 h2 =>
  obtain⟨a,b,rfl,ha,hb⟩:=hv.two;obtain⟨x,rfl,hx⟩:=ha.int_inv;obtain⟨y,rfl,hy⟩:=hb.int_inv;have e:opV n [.mk 0 x [],.mk 0 y []]=.mk 0 (zFq n x y) []:=by simp only[opV,if_pos h2];rfl
  rw[e];have hn:n=0\/n=1\/n=2\/n=3\/n=4:=by omega
  rcases hn with rfl|rfl|rfl|rfl|rfl
  .simp[Val.k,Val.n,Val.kids,aQ,iN];refine zZ (zSW hx hy) (by simp) (by simp) ?_;simp;exact zA 0 (by simp[zL,Val.k,Val.n,Val.kids,zFq])
  .simp[Val.k,Val.n,Val.kids,aQ,iN];refine zZ (zTf hx hy) (by simp) (by simp) ?_;simp;exact zA 0 (by simp[zL,Val.k,Val.n,Val.kids,zFq])
  .simp[Val.k,Val.n,Val.kids,aQ,iN];refine zZ (zNM hx hy) (by simp) (by simp) ?_;simp;exact zA 0 (by simp[zL,Val.k,Val.n,Val.kids,zFq])
  .simp[Val.k,Val.n,Val.kids,aQ,iN];refine zZ (zD8 hx hy) (by simp) (by simp) ?_;simp;exact zA 0 (by simp[zL,Val.k,Val.n,Val.kids,zFq])
  .simp[Val.k,Val.n,Val.kids,aQ,iN];refine zZ (zQ0 hx hy) (by simp) (by simp) ?_;simp;exact zA 0 (by simp[zL,Val.k,Val.n,Val.kids,zFq])
 |less =>
  obtain⟨a,b,rfl,ha,hb⟩:=hv.two;obtain⟨x,rfl,hx⟩:=ha.int_inv;obtain⟨y,rfl,hy⟩:=hb.int_inv;simp[Val.k,Val.n,Val.kids,aQ,iN];refine⟨_,_,aG 2,?_⟩;simp[Val.k,Val.n,Val.kids,aQ,iN];refine mu (eH (decide (x<y))) (by simp[zL]) ?_;simp[zL];exact zA 0 (by by_cases hx0:x<y<;>simp[zL,opV,jE,hx0])
 |same u =>
  obtain⟨a,b,rfl,ha,hb⟩:=hv.two;simp[aQ];refine⟨_,_,aG 2,?_⟩;simp[aQ];refine mu (zCW a b) (by simp[zL]) ?_;simp;refine mu (eH (decide (gU a b=0))) (by simp[zL]) ?_;simp[zL];exact zA 0 (by simp[zL,opV])
 |andor n h =>
  obtain⟨a,b,rfl,ha,hb⟩:=hv.two;obtain⟨x,rfl,hx⟩:=ha.bool_inv;obtain⟨y,rfl,hy⟩:=hb.bool_inv;rcases h with rfl|rfl
  .rcases hx with rfl|rfl<;>rcases hy with rfl|rfl
   .simp[Val.k,Val.n,Val.kids,aQ];refine⟨_,_,aG 2,?_⟩;simp[Val.k,Val.n,Val.kids,aQ];refine mu (eH false) (by simp[zL]) ?_;simp[zL];exact zA 0 (by simp[zL,opV,jE])
   .simp[Val.k,Val.n,Val.kids,aQ];refine⟨_,_,aG 2,?_⟩;simp[Val.k,Val.n,Val.kids,aQ];refine mu (eH false) (by simp[zL]) ?_;simp[zL];exact zA 0 (by simp[zL,opV,jE])
   .simp[Val.k,Val.n,Val.kids,aQ];refine⟨_,_,aG 2,?_⟩;simp[Val.k,Val.n,Val.kids,aQ];refine mu (eH false) (by simp[zL]) ?_;simp[zL];exact zA 0 (by simp[zL,opV,jE])
   .simp[Val.k,Val.n,Val.kids,aQ];refine⟨_,_,aG 2,?_⟩;simp[Val.k,Val.n,Val.kids,aQ];refine mu (eH true) (by simp[zL]) ?_;simp[zL];exact zA 0 (by simp[zL,opV,jE])
  .rcases hx with rfl|rfl<;>rcases hy with rfl|rfl
   .simp[Val.k,Val.n,Val.kids,aQ];refine⟨_,_,aG 2,?_⟩;simp[Val.k,Val.n,Val.kids,aQ];refine mu (eH false) (by simp[zL]) ?_;simp[zL];exact zA 0 (by simp[zL,opV,jE])
   all_goals
    simp[Val.k,Val.n,Val.kids,aQ];refine⟨_,_,aG 2,?_⟩;simp[Val.k,Val.n,Val.kids,aQ];refine mu (eH true) (by simp[zL]) ?_;simp[zL];exact zA 0 (by simp[zL,opV,jE])
 |not =>
  obtain⟨a,rfl,ha⟩:=hv.one;obtain⟨x,rfl,hx⟩:=ha.bool_inv;simp[Val.k,Val.n,Val.kids,aQ,iN];refine mu (eH (decide (x=0))) (by simp[zL]) ?_;simp[zL];exact zA 0 (by by_cases hx0:x=0<;>simp[zL,opV,jE,hx0])
 |join u =>
  obtain⟨a,b,rfl,ha,hb⟩:=hv.two;have h1:=hs a (by simp);have h2:=hs b (by simp);cases a with|mk k1 n1 l1 =>
  cases b with|mk k2 n2 l2 =>
  simp only[qN]at h1 h2;have z1:=nM l1;have z2:=nM l2;have hc:my 196 [.sl 2 [.sl l1.length (zS l1),.sl l2.length (zS l2)]] [] (.sl (l1.length+l2.length) (zS (l1++l2))) []:=by simpa[cM,nS]using zFg [l1,l2] (by simp[nS];omega)
  have hk:=xK (l1++l2) (by rw[gF];omega);rw[jA5]at hk;simp[Val.k,Val.n,Val.kids,aQ,iN];refine⟨_,_,aG 2,?_⟩;simp[Val.k,Val.n,Val.kids,aQ,iN];refine mu hc (by simp) ?_;simp;refine mu hk (by simp) ?_;simp;exact zA 0 (by simp[zL,opV,Val.k,Val.n,Val.kids])
 |len u =>
  obtain⟨a,rfl,ha⟩:=hv.one;simp[iN];exact fun _=>zA 0 (by simp[zL,opV,Val.k,Val.n,Val.kids])
theorem zJr{s:Id}{f:Bool}{n x:Int}:∀{l:wG},x∈iL s f n l->∃e∈l,(f=true/\isS s e=true/\x=n)\/x∈gL s e
 |[],h=>by simp[iL]at h
 |e::l,h=>by
  simp only[iL,jAa]at h;rcases h with (h|h)|h
  .split at h
   .rename_i hc;rw[jA6]at hc;exact⟨e,by simp,.inl ⟨hc.1,hc.2,by simpa using h⟩⟩
   .simp at h
  .exact⟨e,by simp,.inr h⟩
  .obtain⟨e',h1,h2⟩:=zJr h;exact⟨e',by simp[h1],h2⟩
theorem eJ{s:Id}{x:Int}(h:x∈gL s e):∃k∈e.kids,(e.k=8/\isS s k=true/\x=e.n)\/x∈gL s k:=by cases e;simp only[gL]at h;obtain⟨k,h1,h2⟩:=zJr h;exact⟨k,h1,h2.imp (fun h=>⟨of_decide_eq_true h.1,h.2⟩) id⟩
variable{x:Id}
theorem zO5{n:Int}(h:dF B x n=some t):∃b∈B,b.id=x/\b.typ=t:=by unfold dF at h;rw[jAf]at h;obtain⟨b,h1,h2⟩:=h;have h3:=jD1 h1;simp only[jA6,decide_eq_true_eq]at h3;exact⟨b,by simpa using jD9 h1,h3.1,h2⟩
theorem zYY(h:WE p B e t)(hk:e.k=2):∃n,dF B e.ref n=some t:=by cases h<;>simp only[Exp.k]at hk<;>first|omega|exact⟨_,by assumption⟩
theorem zSx{s aid:Id}{a:Dfn}(ha:qI p.defs aid=some a)(h:WE p B e t) :
 (∃b∈B,b.id=s)->(∀b∈B,b.id=s->b.typ=yB aid)->∀x∈gL s e,0<=x/\x<a.slots.length:=by
 have ext:∀{B:wI} {i:Id} {n:Int} {v:Typ},(∀x∈B,x.id≠i)->(∃b∈B,b.id=s)->(∀b∈B,b.id=s->b.typ=yB aid)->(∃b∈B++[⟨i,n,v⟩],b.id=s)/\∀b∈B++[⟨i,n,v⟩],b.id=s->b.typ=yB aid:=by
  rintro B i n v hf ⟨b0,hb0,hs0⟩ hB;refine⟨⟨b0,by simp[hb0],hs0⟩,fun b hb hbs=>?_⟩;rcases jAa.1 hb with hb|hb
  .exact hB b hb hbs
  .rw[jAl]at hb;subst hb;exact(hf b0 hb0 (hs0.trans hbs.symm)).elim
 induction h with
 |int=>intro _ _ x hx;simp[gL,iL]at hx
 |bool=>intro _ _ x hx;simp[gL,iL]at hx
 |var=>intro _ _ x hx;simp[gL,iL]at hx
 |call _ _ _ _ _ ks _ _ _ _ _ _ _ ih =>
  intro h1 h2 x hx;obtain⟨k,hk,h|h⟩:=eJ hx
  .cases h.1
  .obtain⟨j,hj,rfl⟩:=jAn hk;exact ih j hj h1 h2 x h
 |op _ _ _ _ _ ks _ _ _ _ _ _ _ ih =>
  intro h1 h2 x hx;obtain⟨k,hk,h|h⟩:=eJ hx
  .cases h.1
  .obtain⟨j,hj,rfl⟩:=jAn hk;exact ih j hj h1 h2 x h
 |ite _ _ _ _ _ _ _ _ _ _ _ _ _ i1 i2 i3 =>
  intro h1 h2 x hx;obtain⟨k,hk,h|h⟩:=eJ hx
  .cases h.1
  .simp only[Exp.kids,jA1,jAu,or_false]at hk;rcases hk with rfl|rfl|rfl
   .exact i1 h1 h2 x h
   .exact i2 h1 h2 x h
   .exact i3 h1 h2 x h
 |lets _ _ _ _ _ _ _ _ _ _ hf _ _ i1 i2 =>
  intro h1 h2 x hx;obtain⟨k,hk,h|h⟩:=eJ hx
  .cases h.1
  .simp only[Exp.kids,jA1,jAu,or_false]at hk;rcases hk with rfl|rfl
   .exact i1 h1 h2 x h
   .exact i2 (ext hf h1 h2).1 (ext hf h1 h2).2 x h
 |record _ _ _ _ _ ks _ _ _ _ _ _ _ ih =>
  intro h1 h2 x hx;obtain⟨k,hk,h|h⟩:=eJ hx
  .cases h.1
  .obtain⟨j,hj,rfl⟩:=jAn hk;exact ih j hj h1 h2 x h
 |field env i r u k0 ns d j hd hk hj hw ih =>
  intro h1 h2 x hx;obtain⟨k,hk',h|h⟩:=eJ hx
  .simp only[Exp.kids,jAl]at hk';subst hk';obtain⟨_,h4,h5⟩:=h;simp only[isS,jA6,decide_eq_true_eq]at h4;have hr:r=aid:=by obtain⟨n,hl⟩:=zYY hw h4.1;rw[h4.2]at hl;obtain⟨b,hb,hbs,hbt⟩:=zO5 hl;have:=h2 b hb hbs;rw[hbt]at this;cases this;rfl
   subst hr;rw[ha]at hd;cases hd;simp only[Exp.n]at h5;omega
  .simp only[Exp.kids,jAl]at hk';subst hk';exact ih h1 h2 x h
 |case _ _ _ _ _ _ _ _ _ _ _ _ ih =>
  intro h1 h2 x hx;obtain⟨k,hk,h|h⟩:=eJ hx
  .cases h.1
  .simp only[Exp.kids,jAl]at hk;subst hk;exact ih h1 h2 x h
 |mtch _ _ _ _ _ _ ks _ d _ hf _ _ hl _ _ i1 ih =>
  intro h1 h2 x hx;obtain⟨k,hk,h|h⟩:=eJ hx
  .cases h.1
  .rcases jA1.1 hk with rfl|hk
   .exact i1 h1 h2 x h
   .obtain⟨j,hj,rfl⟩:=jAn hk;exact ih j hj (ext hf h1 h2).1 (ext hf h1 h2).2 x h
 |list _ _ _ _ _ ks _ _ _ _ ih =>
  intro h1 h2 x hx;obtain⟨k,hk,h|h⟩:=eJ hx
  .cases h.1
  .obtain⟨j,hj,rfl⟩:=jAn hk;exact ih j hj h1 h2 x h
 |fold _ i _ _ _ _ _ _ _ v t hf _ _ _ i1 i2 i3 =>
  intro h1 h2 x hx;obtain⟨k,hk,h|h⟩:=eJ hx
  .cases h.1
  .simp only[Exp.kids,jA1,jAu,or_false]at hk;rcases hk with rfl|rfl|rfl
   .exact i1 h1 h2 x h
   .exact i2 h1 h2 x h
   .have e1:=ext (n:=0) (v:=v) hf h1 h2;refine i3 ?_ ?_ x h
    .obtain⟨b,hb,hs⟩:=e1.1;exact⟨b,jBj _ hb,hs⟩
    .intro b hb hs;obtain⟨b0,hb0,hs0⟩:=h1;rcases jAa.1 hb with hb|hb
     .exact e1.2 b hb hs
     .rw[jAl]at hb;subst hb;exact(hf b0 hb0 (hs0.trans hs.symm)).elim
def bU(n:Nat):wB:=(List.range n).map fun(i:Nat)=>(i:Int)
theorem zL5(n:Nat):Inc (bU n):=by unfold bU Inc;rw[jCq];exact List.pairwise_lt_range.imp fun h=>by omega
theorem zL7{n:Nat}{x:Int}:x∈bU n↔0<=x/\x<n:=by
 unfold bU;rw[jAk];constructor
 .rintro⟨i,hi,rfl⟩;rw[jBr]at hi;omega
 .rintro⟨h1,h2⟩;exact⟨x.toNat,by rw[jBr];omega,by omega⟩
def mJ(s:Id)(e:Exp)(n:Nat):wB:=(bU n).filter fun i=>eE s e false||decide (i∈gL s e)
theorem zOI{s aid:Id}{a:Dfn}(ha:qI p.defs aid=some a)(h:WE p B e t)(h1:∃b∈B,b.id=s)(h2:∀b∈B,b.id=s->b.typ=yB aid) :
 (match dP s e with|some l=>l|none=>bU a.slots.length)=mJ s e a.slots.length:=by
 have hr:=zH0 s e (zSw h);have hm:=zSx ha h h1 h2;unfold mJ;cases hq:dP s e with
 |none =>
  have hw:=hr.1.1 hq;simp only[hw,Bool.true_or];exact(List.filter_eq_self.2 fun _ _=>rfl).symm
 |some l =>
  have hw:eE s e false=false:=by
   cases hw:eE s e false with
   |false=>rfl
   |true=>rw[hr.1.2 hw]at hq;cases hq
  have hl:=hr.2 l hq;refine zMI hl.1 ((zL5 _).sublist List.filter_sublist) fun x=>?_
  rw[hl.2,List.mem_filter,zL7,hw];simp only[jC8,decide_eq_true_eq];exact⟨fun h=>⟨hm x h,h⟩,fun h=>h.2⟩
def zAe(f:Int->Id)(x:Id):Id:=if x.b=0 then f x.c else x
def zCb(f:Int->Id)(b:Bnd):Bnd:={b with id:=zAe f b.id}
def qBu(f:Int->Id)(env:wI):Prop:=∀b∈env,∀b'∈env,zAe f b.id=zAe f b'.id->b.id=b'.id
variable{f:Int->Id}
theorem zO6{env:wI}(h:qBu f env){n:Int}:dF env x n=some t->dF (env.map (zCb f)) (zAe f x) n=some t:=by
 have hmem:dF env x n=some t->∃b∈env,b.id=x:=by intro he;unfold dF at he;rw[jAf]at he;obtain⟨b,hb,_⟩:=he;have h1:=jD1 hb;have h2:=jD9 hb;rw[jA6]at h1;exact⟨b,List.mem_reverse.1 h2,of_decide_eq_true h1.1⟩
 intro he;obtain⟨b0,hb0,rfl⟩:=hmem he;clear hmem;have key:∀l:wI,(∀b∈l,b∈env)->dF l b0.id n=some t->dF (l.map (zCb f)) (zAe f b0.id) n=some t:=by
  intro l;induction l using mK with
  |nil=>intro _ h;simp[dF]at h
  |snoc l y ih =>
   intro hl hk;rw[r9]at hk;rw[jBl,jDe,r9];have hy:=hl y (by simp);by_cases c1:y.id=b0.id
   .by_cases c2:y.n=n
    .rw[if_pos ⟨c1,c2⟩]at hk;rw[if_pos ⟨by simp only[zCb];rw[c1],c2⟩];exact hk
    .rw[if_neg fun h=>c2 h.2]at hk;rw[if_neg fun h=>c2 h.2];exact ih (fun b hb=>hl b (jBj _ hb)) hk
   .rw[if_neg fun h=>c1 h.1]at hk;rw[if_neg fun e=>c1 (h y hy b0 hb0 e.1)];exact ih (fun b hb=>hl b (jBj _ hb)) hk
 exact key env (fun _ h=>h) he
theorem zG8:∀l:wG,l.length<=(yF l).length
 |[]=>by simp
 |e::l=>by
  have:=zG8 l;have h1:1<=(tmps e).length:=by rw[fM];simp
  simp only[jAb,yF,jA5];omega
theorem zEO:∀{l:wG} {e:Exp},e∈l->(tmps e).Sublist (yF l)
 |x::l,e,h=>by
  simp only[yF];rcases jA1.1 h with rfl|h
  .exact List.sublist_append_left _ _
  .exact(zEO h).trans (List.sublist_append_right _ _)
structure Frs(f:Int->Id)(env:List Bnd)(e:Exp):Prop where
 nd:(tmps e).Nodup
 num:e.num0
 inj:∀c∈tmps e,∀c'∈tmps e,f c=f c'->c=c'
 new:∀b∈env,∀c∈tmps e,zAe f b.id≠f c
 len:(tmps e).length<=32768
 ib:qBu f env
section
variable{f:Int->Id}{env:wI}{i:Id}{k n:Int}{r:Id}{u:Typ}{ks:wG}{ns:List ByteArray}
theorem Frs.id(h:Frs f env (.mk i k n r u ks ns)):i=⟨0,0,i.c⟩:=by obtain⟨a,b,c⟩:=i;have:=h.num;simp only[Exp.num0]at this;simp[this.1.1,this.1.2]
theorem Frs.kid(h:Frs f env (.mk i k n r u ks ns)){e:Exp}(he:e∈ks):Frs f env e:=by
 obtain⟨h1,h2,h3,h4,h5,h6⟩:=h;simp only[tmps]at h1 h3 h4 h5;simp only[Exp.num0,zBS]at h2;have hs:=zEO he;have hm:∀c∈tmps e,c∈yF ks++[i.c]:=fun c hc=>jBj _ (hs.subset hc)
 exact⟨(jCu.1 h1).1.sublist hs,h2.2 e he,fun c hc c' hc'=>h3 c (hm c hc) c' (hm c' hc'),fun b hb c hc=>h4 b hb c (hm c hc),by
  have:=hs.length_le;rw[jA5]at h5;omega,h6⟩
theorem Frs.push(h:Frs f env (.mk i k n r u ks ns)){e:Exp}(he:e∈ks)(m:Int)(t:Typ){env':wI}(hb:env'=env\/∃m' t',env'=env++[⟨i,m',t'⟩]):Frs f (env'++[⟨i,m,t⟩]) e:=by
 have hk:=h.kid he;have hi:=h.id;obtain⟨h1,h2,h3,h4,h5,h6⟩:=h;simp only[tmps]at h1 h3 h4;have hic:i.c∈yF ks++[i.c]:=by simp
 have hri:zAe f i=f i.c:=by unfold zAe;rw[if_pos (by rw[hi])]
 have hmem:∀b∈env'++[(⟨i,m,t⟩:Bnd)],b∈env\/b.id=i:=by
  intro b hb';rcases jAa.1 hb' with hb'|hb'
  .rcases hb with rfl|⟨m',t',rfl⟩
   .exact .inl hb'
   .rcases jAa.1 hb' with hb'|hb'
    .exact .inl hb'
    .rw[jAl.1 hb'];exact .inr rfl
  .rw[jAl.1 hb'];exact .inr rfl
 refine⟨hk.nd,hk.num,hk.inj,fun b hb' c hc=>?_,hk.len,fun b hb1 b' hb2 e=>?_⟩
 .rcases hmem b hb' with h'|h'
  .exact hk.new b h' c hc
  .rw[h',hri];intro e;have hc':=(zEO he).subset hc;have:=h3 i.c hic c (jBj _ hc') e;exact(jCu.1 h1).2.2 c hc' i.c (by simp) this.symm
 .rcases hmem b hb1 with h'|h'<;>rcases hmem b' hb2 with h''|h''
  .exact h6 b h' b' h'' e
  .rw[h'',hri]at e;exact(h4 b h' i.c hic e).elim
  .rw[h',hri]at e;exact(h4 b' h'' i.c hic e.symm).elim
  .rw[h',h'']
theorem Frs.fresh(h:Frs f env (.mk i k n r u ks ns)):∀x∈env.map (zCb f),x.id≠f i.c:=by intro x hx;obtain⟨b,hb,rfl⟩:=jAk.1 hx;exact h.new b hb i.c (by simp[tmps])
theorem Frs.kids(h:Frs f env (.mk i k n r u ks ns)):(ks.map (gY f)).length<=32768:=by have h1:=h.len;have h2:=zG8 ks;simp only[tmps,jA5]at h1;rw[jAd];omega
end
theorem cF{i:Id}{k n:Int}{r:Id}{u:Typ}{ks:wG}{ns:List ByteArray}(h:k≠2):gY f (.mk i k n r u ks ns)=.mk (f i.c) k n r u (ks.map (gY f)) ns:=by simp only[gY,pQ,h,false_and,if_false]
def zPl(P:Prg)(hs:wO):Prop:=∀(k:Nat) (h:k<hs.length),∃d,qI P.defs hs[k].id=some d/\d.hd=hs[k]
variable{P:Prg}{hs:wO}
theorem qGj(hh:zPl P hs){own:Int}{env:wI}(h:WT hs own env e t):Frs f env e->WE P (env.map (zCb f)) (gY f e) t:=by
 induction h with
 |int env i n h1 h2=>intro hF;rw[cF (by decide)];exact .int _ _ _ _ _ _ h1 h2
 |bool env i n h=>intro hF;rw[cF (by decide)];exact .bool _ _ _ _ _ _ h
 |var env i n x t h =>
  intro hF;have e:gY f (.mk i 2 n x Typ.zero [] [])=.mk (f i.c) 2 n (zAe f x) Typ.zero [] []:=by simp only[gY,zJG,true_and,zAe]
  rw[e];exact .var _ _ _ _ _ _ _ (zO6 hF.ib h)
 |call env i k h ks ho hk hl hw ih =>
  intro hF;obtain⟨d,hd,hhd⟩:=hh k h;have e1:d.kind=hs[k].kind:=congrArg Hd.kind hhd;have e2:d.slots=hs[k].slots:=congrArg Hd.slots hhd;have e3:d.res=hs[k].res:=congrArg Hd.res hhd;rw[cF (by decide),<-e3];refine .call _ _ _ _ _ _ _ hF.kids d hd (by rw[e1];exact hk) (by simp only[jAd,e2];exact hl) fun j hj=>?_
  simp only[jAy,e2];rw[jAd]at hj;exact ih j hj (hF.kid (jA3 hj))
 |arith env i n a b h1 h2 ha hb iha ihb =>
  intro hF;rw[cF (by decide)];refine .op _ _ _ _ _ _ _ hF.kids [q9,q9] q9 (.arith n h1 h2) rfl fun j hj=>?_
  match j,hj with
  | 0,_=>exact iha (hF.kid (by simp))
  | 1,_=>exact ihb (hF.kid (by simp))
 |less env i a b ha hb iha ihb =>
  intro hF;rw[cF (by decide)];refine .op _ _ _ _ _ _ _ hF.kids [q9,q9] jO .less rfl fun j hj=>?_
  match j,hj with
  | 0,_=>exact iha (hF.kid (by simp))
  | 1,_=>exact ihb (hF.kid (by simp))
 |same env i a b u ha hb iha ihb =>
  intro hF;rw[cF (by decide)];refine .op _ _ _ _ _ _ _ hF.kids [u,u] jO (.same u) rfl fun j hj=>?_
  match j,hj with
  | 0,_=>exact iha (hF.kid (by simp))
  | 1,_=>exact ihb (hF.kid (by simp))
 |andor env i n a b h ha hb iha ihb =>
  intro hF;rw[cF (by decide)];refine .op _ _ _ _ _ _ _ hF.kids [jO,jO] jO (.andor n h) rfl fun j hj=>?_
  match j,hj with
  | 0,_=>exact iha (hF.kid (by simp))
  | 1,_=>exact ihb (hF.kid (by simp))
 |not env i a ha iha =>
  intro hF;rw[cF (by decide)];refine .op _ _ _ _ _ _ _ hF.kids [jO] jO .not rfl fun j hj=>?_
  match j,hj with
  | 0,_=>exact iha (hF.kid (by simp))
 |join env i a b t ha hb iha ihb =>
  intro hF;rw[cF (by decide)];refine .op _ _ _ _ _ _ _ hF.kids [j5 t,j5 t] (j5 t) (.join t) rfl fun j hj=>?_
  match j,hj with
  | 0,_=>exact iha (hF.kid (by simp))
  | 1,_=>exact ihb (hF.kid (by simp))
 |len env i a t ha iha =>
  intro hF;rw[cF (by decide)];refine .op _ _ _ _ _ _ _ hF.kids [j5 t] q9 (.len t) rfl fun j hj=>?_
  match j,hj with
  | 0,_=>exact iha (hF.kid (by simp))
 |ite env i a b c t ha hb hc iha ihb ihc =>
  intro hF;rw[cF (by decide)];exact .ite _ _ _ _ _ _ _ _ _ _ (iha (hF.kid (by simp))) (ihb (hF.kid (by simp))) (ihc (hF.kid (by simp)))
 |lets env i a b u t ns hn ha hb iha ihb =>
  intro hF;rw[cF (by decide)];have hb':=ihb (hF.push (by simp) 0 u (.inl rfl));rw[jBl,jDe]at hb';have hi:=hF.id;have e:zCb f ⟨i,0,u⟩=⟨f i.c,0,u⟩:=by simp only[zCb,zAe];rw[if_pos (by rw[hi])]
  rw[e]at hb';exact .lets _ _ _ _ _ _ _ _ _ _ hF.fresh (iha (hF.kid (by simp))) hb'
 |record env i k h ks hk hl hw ih =>
  intro hF;obtain⟨d,hd,hhd⟩:=hh k h;have e1:d.kind=hs[k].kind:=congrArg Hd.kind hhd;have e2:d.slots=hs[k].slots:=congrArg Hd.slots hhd;rw[cF (by decide)];refine .record _ _ _ _ _ _ _ hF.kids d hd (by rw[e1];exact hk) (by simp only[jAd,e2];exact hl) fun j hj=>?_
  simp only[jAy,e2];rw[jAd]at hj;exact ih j hj (hF.kid (jA3 hj))
 |field env i k h j hj a hk ha iha =>
  intro hF;obtain⟨d,hd,hhd⟩:=hh k h;have e1:d.kind=hs[k].kind:=congrArg Hd.kind hhd;have e2:hs[k].slots=d.slots:=(congrArg Hd.slots hhd).symm;rw[cF (by decide)];have hjd:j<d.slots.length:=by rw[<-e2];exact hj
  have et:hs[k].slots[j]=d.slots[j]:=by simp only[e2]
  rw[et];exact .field _ _ _ _ _ _ d j hd (by rw[e1];exact hk) hjd (iha (hF.kid (by simp)))
 |case env i k h j hj a hk ha iha =>
  intro hF;obtain⟨d,hd,hhd⟩:=hh k h;have e1:d.kind=hs[k].kind:=congrArg Hd.kind hhd;have e2:hs[k].slots=d.slots:=(congrArg Hd.slots hhd).symm;rw[cF (by decide)];have hjd:j<d.slots.length:=by rw[<-e2];exact hj
  have et:hs[k].slots[j]=d.slots[j]:=by simp only[e2]
  have ih:=iha (hF.kid (by simp));rw[et]at ih;exact .case _ _ _ _ _ _ d j hd (by rw[e1];exact hk) hjd ih
 |mtch env i k h a ks t ns hn hk hl ha hw iha ih =>
  intro hF;obtain⟨d,hd,hhd⟩:=hh k h;have e1:d.kind=hs[k].kind:=congrArg Hd.kind hhd;have e2:d.slots=hs[k].slots:=congrArg Hd.slots hhd;rw[cF (by decide),jAg];have hi:=hF.id;refine .mtch _ _ _ _ _ _ _ _ d _ hF.fresh hd (by rw[e1];exact hk) (by simp only[jAd,e2];exact hl) (iha (hF.kid (by simp))) fun j hj=>?_
  have hj':j<ks.length:=by rw[jAd]at hj;exact hj
  have:=ih j hj' (hF.push (jAo _ (jA3 hj')) _ _ (.inl rfl));rw[jBl,jDe]at this;have e:∀t,zCb f ⟨i,j,t⟩=⟨f i.c,j,t⟩:=fun t=>by simp only[zCb,zAe];rw[if_pos (by rw[hi])]
  rw[e]at this;simp only[jAy,e2];exact this
 |list env i t ks hw ih =>
  intro hF;rw[cF (by decide)];refine .list _ _ _ _ _ _ _ _ hF.kids fun j hj=>?_
  rw[jAd]at hj;rw[jAy];exact ih j hj (hF.kid (jA3 hj))
 |fold env i l s b u t ns hn hl hs' hb ihl ihs ihb =>
  intro hF;rw[cF (by decide)];have hb':=ihb (hF.push (by simp) 1 t (.inr ⟨0,u,rfl⟩));rw[jBl,jDe,jBl,jDe]at hb';have hi:=hF.id;have e:∀m t,zCb f ⟨i,m,t⟩=⟨f i.c,m,t⟩:=fun m t=>by simp only[zCb,zAe];rw[if_pos (by rw[hi])]
  rw[e,e]at hb';exact .fold _ _ _ _ _ _ _ _ _ _ _ hF.fresh (ihl (hF.kid (by simp))) (ihs (hF.kid (by simp))) hb'
theorem rR:∀{ds:wP} (_:ds.Pairwise fun a b=>a.id≠b.id) {k:Nat} (hk:k<ds.length),qI ds ds[k].id=some ds[k]
 |d::ds,h,0,_=>by rw[xU];simp
 |d::ds,h,k+1,hk=>by
  rw[jBh]at h;have hk':k<ds.length:=by simpa using hk
  rw[xU];have:=h.1 ds[k] (jA3 hk');simp only[jDd];rw[if_neg this];exact rR h.2 hk'
structure Fit(P:Prg)(hs:List Hd):Prop where
 heads:P.defs.map Dfn.hd=hs
 len8:P.defs.length<=100
 nd:P.defs.Pairwise fun a b=>a.id≠b.id
 slots:∀d∈P.defs,1<=d.slots.length/\d.slots.length<=6/\(d.kind=0\/d.kind=1->d.slots.length<=3)/\(d.slots.Pairwise fun a b=>a.id≠b.id)/\∀s∈d.slots,TyOk hs 4 s.typ
 kinds:∀d∈P.defs,0<=d.kind/\d.kind<=5
 bods:zPj P
theorem Fit.hd(h:Fit P hs):zPl P hs:=fun k hk=>by
 have hk':k<P.defs.length:=by rw[<-h.heads]at hk;simpa using hk
 have e:hs[k]=P.defs[k].hd:=by simp[<-h.heads]
 refine⟨P.defs[k],?_,e.symm⟩;rw[e];exact rR h.nd hk'
theorem y6{ds:wP}{r:Id}{d:Dfn}(h:qI ds r=some d):d∈ds/\d.id=r:=⟨jD9 h,by simpa using jD1 h⟩
section
variable{l:wB}{mods:Int}(hl:∀x∈l,w64 x=x)
include hl
theorem zOJ:∀p∈qD l mods,p.kind=0\/p.kind=1->p.types.length<=3:=by
 intro p hp;have a2:=yA (i:=2) hl (most:=3) (by omega);have a6:=yA (i:=6) hl (most:=2) (by omega);have a9:=yA (i:=9) hl (most:=3) (by omega);have hp':p=cY l mods\/p=eC l mods\/p=i8 l mods\/p=zCQ mods\/p.kind=2\/p.kind=3\/p.kind=4\/p.kind=5:=by
  simp only[qD,plB,plC,plD,plE,jAa,jA1]at hp;rcases hp with ((h|h|h)|h)|h|h|h|h
  .simp[h]
  .simp[h]
  .simp at h
  .split at h
   .simp at h;rcases h with h|h<;>simp[h]
   .simp at h
  .simp[h,pF]
  .split at h<;>simp[h,zAV,pG]
  .simp[h,pT]
  .split at h
   .simp at h;simp[h,pC]
   .simp at h
 rcases hp' with rfl|rfl|rfl|rfl|h
 .intro _;simp only[cY,lE];omega
 .intro _;simp only[eC,jAb,lE];omega
 .intro _;simp only[i8,jAb,lE];omega
 .intro _;simp only[zCQ,jAb,jBc];omega
 .omega
end
theorem PrgOk.len5{l:wB}(h:PrgOk l P):5<=P.defs.length/\P.defs.length<=8:=by
 obtain⟨n5,n8⟩:=bR l (nmV l:Int);have hh:=h.heads;have hlen:P.defs.length=(qD l (nmV l)).length:=by have:=congrArg List.length hh;simpa using this
 omega
theorem PrgOk.fit{l:wB}(hl:∀x∈l,w64 x=x)(h:PrgOk l P):Fit P (hsV l (nmV l)):=by
 obtain⟨hnm,hnm2⟩:=zR4 l hl;generalize hN:nmV l=nm at *
 have m1:1<=(nm:Int):=by omega
 have m2:(nm:Int)<=2:=by omega
 obtain⟨n5,n8⟩:=bR l (nm:Int);have hh:=h.heads;rw[hN]at hh;have hlen:P.defs.length=(qD l nm).length:=by have:=congrArg List.length hh;simpa using this
 have hget:∀(k:Nat) (hk:k<P.defs.length),P.defs[k].hd=⟨idR (nm+k),((qD l nm)[k]'(by omega)).kind,dG (bW nm (qD l nm) k) ((qD l nm)[k]'(by omega)),((qD l nm)[k]'(by omega)).out⟩:=fun k hk=>by
  rw[<-nB nm (qD l nm) (by omega)];have:(P.defs.map Dfn.hd)[k]'(by simpa using hk)=(zFl nm (qD l nm))[k]'(by simpa using (by omega:k<(qD l nm).length)):=by simp only[hh]
  rwa[jAy]at this
 have hnd:P.defs.Pairwise fun a b=>a.id≠b.id:=by rw[jCr];intro i j hi hj hij e;have e1:P.defs[i].id=idR (nm+i):=congrArg Hd.id (hget i hi);have e2:P.defs[j].id=idR (nm+j):=congrArg Hd.id (hget j hj);rw[e1,e2]at e;have:=r6 (by omega) (by omega) (by omega) (by omega) e;omega
 have hpl:=eK l nm m1 m2 hl;have hrange:=fun i=>lQ (show 0<=(nm:Int) by omega) (fun p hp=>(hpl p hp).t6) i
 have henv:∀(k:Nat) (hk:k<P.defs.length),EnvOk (hsV l nm) 4 0 (cV P.defs[k])/\1<=(cV P.defs[k]).length/\(cV P.defs[k]).length<=6/\TyOk (hsV l nm) 4 P.defs[k].res:=fun k hk=>zBC m1 m2 hl (i:=k) (by rw[<-hh,jC,jA0 hk];rfl) 0
 have hslot:∀(k:Nat) (hk:k<P.defs.length),∀s∈P.defs[k].slots,∃j:Int,s.id=idR j/\0<=j/\j<bW nm (qD l nm) (qD l nm).length:=fun k hk s hs=>by have e:P.defs[k].slots=dG (bW nm (qD l nm) k) ((qD l nm)[k]'(by omega)):=congrArg Hd.slots (hget k hk);rw[e]at hs;simp only[dG,jAk,jBr]at hs;obtain⟨j,hj,rfl⟩:=hs;have h1:=hrange k;have h2:=zEg nm (qD l nm) (i:=k) (by omega);have h3:=zLw (mods:=nm) (ps:=qD l nm) (show k+1<=(qD l nm).length by omega);exact⟨_,rfl,by omega,by omega⟩
 refine⟨hh,by omega,hnd,fun d hd=>?_,fun d hd=>?_,fun r d hd hb=>?_⟩
 .obtain⟨k,hk,rfl⟩:=jAn hd;obtain⟨a1,a2,a3,a4⟩:=henv k hk;rw[zA6]at a2 a3;refine⟨a2,a3,fun hkd=>?_,?_,fun s hs=>a1.typs ⟨s.id,0,s.typ⟩ (jAk.2 ⟨s,hs,rfl⟩)⟩
  .have e1:P.defs[k].kind=((qD l nm)[k]'(by omega)).kind:=congrArg Hd.kind (hget k hk);have e2:P.defs[k].slots=dG (bW nm (qD l nm) k) ((qD l nm)[k]'(by omega)):=congrArg Hd.slots (hget k hk);rw[e2,lD];exact zOJ hl _ (jA3 _) (by rw[<-e1];exact hkd)
  .have:=a1.nd;simp only[cV]at this;rw[jCq]at this;exact this.imp fun h e=>h ⟨e,rfl⟩
 .obtain⟨k,hk,rfl⟩:=jAn hd;have e1:P.defs[k].kind=((qD l nm)[k]'(by omega)).kind:=congrArg Hd.kind (hget k hk);rw[e1];have:=hpl _ (jA3 (show k<(qD l nm).length by omega));exact⟨this.kind0,this.kind5⟩
 .obtain⟨hd1,rfl⟩:=y6 hd;obtain⟨k,hk,rfl⟩:=jAn hd1;obtain⟨base,hb0,hbs⟩:=h.bodies;rw[hN]at hb0 hbs;have hbase:∀k,k<=P.defs.length->bW nm (qD l nm) (qD l nm).length<=base k/\base k<=bW nm (qD l nm) (qD l nm).length+32768*k:=by
   intro k;induction k with
   |zero=>intro _;rw[hb0];omega
   |succ k ih =>
    intro hk;have ih:=ih (by omega);rcases hbs k P.defs[k] (jA0 (by omega))with ⟨_,_,e⟩|⟨_,e,f,hr,e'⟩
    .rw[e];omega
    .rw[e'];have:=hr.len;omega
  have hbk:=hbase k (by omega);have hr0:=hrange (qD l nm).length;rcases hbs k P.defs[k] (jA0 hk)with ⟨h0,_,_⟩|⟨_,e,f,hr,_⟩
  .rw[h0]at hb;cases hb
  .have hlt:=hr.len;have hfc:∀c∈tmps e,∃j:Nat,∃hj:j<(tmps e).length,(tmps e)[j]=c/\f c=idR (base k+j):=fun c hc=>by obtain⟨j,hj,rfl⟩:=jAn hc;exact⟨j,hj,rfl,hr.ids j hj⟩
   have hsb:∀b∈cV P.defs[k],∃j:Int,b.id=idR j/\zAe f b.id=idR j/\0<=j/\j<bW nm (qD l nm) (qD l nm).length:=fun b hb=>by simp only[cV,jAk]at hb;obtain⟨s,hs,rfl⟩:=hb;obtain⟨j,h1,h2,h3⟩:=hslot k hk s hs;have:=zVK (k:=j) h2 (by omega);refine⟨j,h1,?_,h2,h3⟩;simp only[zAe,h1];rw[if_neg (by omega)]
   have hF:Frs f (cV P.defs[k]) e:=by
    refine⟨hr.nd,hr.num,fun c hc c' hc' he=>?_,fun b hb' c hc he=>?_,hr.len,fun b hb1 b' hb2 he=>?_⟩
    .obtain⟨j,hj,e1,e2⟩:=hfc c hc;obtain⟨j',hj',e1',e2'⟩:=hfc c' hc';rw[e2,e2']at he;have:=r6 (by omega) (by omega) (by omega) (by omega) he;have:j=j':=by omega
     subst this;rw[<-e1,<-e1']
    .obtain⟨j,hj,e1,e2⟩:=hfc c hc;obtain⟨j',_,e3,h0,h1⟩:=hsb b hb';rw[e3,e2]at he;have:=r6 (by omega) (by omega) (by omega) (by omega) he;omega
    .obtain⟨j,e1,e2,h0,h1⟩:=hsb b hb1;obtain⟨j',e1',e2',h0',h1'⟩:=hsb b' hb2;rw[e2,e2']at he;rw[e1,e1',he]
   have hho:zPl P (hsV l nm):=fun k hk=>by
    have hk':k<P.defs.length:=by rw[<-hh]at hk;simpa using hk
    have e:(hsV l nm)[k]=P.defs[k].hd:=by simp[<-hh]
    exact⟨P.defs[k],by rw[e];exact rR hnd hk',e.symm⟩
   have:=qGj hho hr.wt hF;rw[<-hr.body]at this;have e2:(cV P.defs[k]).map (zCb f)=cV P.defs[k]:=by
    rw[jC3 (g:=id)]
    .simp
    .intro b hb';obtain⟨j,e1,e2,_,_⟩:=hsb b hb';simp only[zCb,id,e2];rw[<-e1]
   rw[e2]at this;exact this
variable{r:Nat}
theorem TyOk.valid(hh:zPl P hs)(h:TyOk hs r t):∀n,r<n->y8 P n t=true:=by
 induction h with
 |int r=>intro n hn;obtain⟨m,rfl⟩:∃m,n=m+1:=⟨n-1,by omega⟩;simp[y8]
 |bool r=>intro n hn;obtain⟨m,rfl⟩:∃m,n=m+1:=⟨n-1,by omega⟩;simp[y8]
 |list r t h ih =>
  intro n hn;obtain⟨m,rfl⟩:∃m,n=m+1:=⟨n-1,by omega⟩;simp[y8,ih m (by omega)]
 |dfn r k h h1 h2 h3 h4 ih =>
  intro n hn;obtain⟨m,rfl⟩:∃m,n=m+1:=⟨n-1,by omega⟩;obtain⟨d,hd,hhd⟩:=hh k h;have e1:d.kind=hs[k].kind:=congrArg Hd.kind hhd;simp[y8,x6,hd,e1];omega
theorem TyOk.validT(hh:zPl P hs)(h:TyOk hs r t)(hr:r<24):validT P t=true:=h.valid hh 24 hr
theorem Fit.at_(h:Fit P hs)(k:Nat)(hk:k<hs.length):(dfn P hs[k].id).hd=hs[k]/\dfn P hs[k].id∈P.defs:=by
 obtain⟨d,hd,hhd⟩:=h.hd k hk;have:dfn P hs[k].id=d:=by simp[dfn,hd]
 rw[this];exact⟨hhd,(y6 hd).1⟩
theorem vA{P:Prg}:∀{ts:wQ} {vs:wH},gD P ts vs=true->∀(j:Nat) (h1:j<ts.length) (h2:j<vs.length),eV P ts[j] vs[j]=true
 |t::ts,v::vs,h,j,h1,h2=>by
  rw[gD,jA6]at h;cases j with
  |zero=>exact h.1
  |succ j=>exact vA h.2 j (by simpa using h1) (by simpa using h2)
theorem zMB(hf:Fit P hs)(h:TyOk hs r t):∀v,eV P t v=true->TyV P t v:=by
 induction h with
 |int r =>
  intro v hv;rw[iH]at hv;simp at hv;obtain⟨_,⟨⟨h1,h2⟩,h3⟩,h4⟩:=hv;obtain⟨k,n,l⟩:=v;simp only[Val.k,Val.n,Val.kids]at h1 h2 h3 h4;subst h1 h2;exact .int n h3 h4
 |bool r =>
  intro v hv;rw[iH]at hv;simp at hv;obtain⟨_,⟨h1,h2⟩,h3⟩:=hv;obtain⟨k,n,l⟩:=v;simp only[Val.k,Val.n,Val.kids]at h1 h2 h3;subst h1 h2;exact .bool n h3
 |list r t h ih =>
  intro v hv;rw[iH]at hv;simp at hv;obtain⟨_,⟨h1,h2⟩,h3⟩:=hv;obtain⟨k,n,l⟩:=v;simp only[Val.k,Val.n,Val.kids]at h1 h2 h3;subst h1 h2;exact .list _ _ fun x hx=>ih x (h3 x hx)
 |dfn r k h h1 h2 h3 h4 ih =>
  intro v hv;obtain⟨d,hd,hhd⟩:=hf.hd k h;have e1:d.kind=hs[k].kind:=congrArg Hd.kind hhd;have e2:d.slots=hs[k].slots:=congrArg Hd.slots hhd;have ed:dfn P hs[k].id=d:=by simp[dfn,hd]
  rw[iH]at hv;simp only[Typ.k_mk,Typ.id_mk,ed]at hv;obtain⟨kk,n,l⟩:=v;by_cases hk:d.kind=1
  .simp[hk,Val.k,Val.n,Val.kids]at hv;obtain⟨_,⟨⟨⟨g1,g2⟩,g3⟩,g4⟩,g5⟩:=hv;replace g1:=of_decide_eq_true g1;replace g2:=of_decide_eq_true g2;replace g3:=of_decide_eq_true g3;replace g4:=of_decide_eq_true g4;obtain⟨x,rfl⟩:=List.length_eq_one_iff.1 g4;obtain⟨j,rfl⟩:∃j:Nat,n=j:=⟨n.toNat,by omega⟩;have hj:j<d.slots.length:=by omega
   rw[jCp,jA0 hj,jDm,zMA]at g5;subst g1;exact .case _ d j x hd hk hj (ih d.slots[j] (by rw[<-e2];exact jA3 hj) x g5)
  .simp[hk,Val.k,Val.n,Val.kids]at hv;obtain⟨_,⟨⟨g1,g2⟩,g3⟩,g4⟩:=hv;replace g1:=of_decide_eq_true g1;replace g2:=of_decide_eq_true g2;replace g3:=of_decide_eq_true g3;subst g1 g2;refine .record _ d l hd (by omega) g3 fun j hj=>?_
   have hjd:j<d.slots.length:=by omega
   have:=vA g4 j (by simpa using hjd) hj;rw[jAy]at this;exact ih d.slots[j] (by rw[<-e2];exact jA3 hjd) l[j] this
structure InvX(I:XS->Prop):Prop where
 tick:∀e s,I s->¬s.fuel<=0->I (oI e s)
 dfn:∀(d:Id) s,I s->I {s with ds:=s.ds++[d]}
 fail:∀(x:Int) s,I s->I {s with fail:=x}
section
variable{p:Prg}{ev:Evl}{I:XS->Prop}
theorem tB(h:∀e V s,I s->I (ev e V s).2)(V:wM):∀(l:wG) (s:XS),I s->I (jP ev V l s).2
 |[],s,hs=>hs
 |e::l,s,hs=>by simp only[jP];exact tB h V l _ (h e V s hs)
theorem vB(h:∀e V s,I s->I (ev e V s).2)(V:wM)(i:Id)(b:Exp):∀(l:wH) (r:Val×XS),I r.2->I (yR ev V i b l r).2
 |[],r,hs=>hs
 |e::l,r,hs=>by simp only[yR];exact vB h V i b l _ (h _ _ _ hs)
theorem u4(hI:InvX I)(h:∀e V s,I s->I (ev e V s).2)(d:Dfn)(vs:wH)(s:XS)(hs:I s):I (eO ev d vs s).2:=by
 unfold eO;split
 .exact hs
 .exact h _ _ _ (hI.dfn d.id s hs)
theorem zId(h:∀e V s,I s->I (ev e V s).2)(e:Exp)(V:wM)(s:XS)(hs:I s):I (bD ev e V s).2:=by
 unfold bD;have h0:=h (e.kids.headD .zero) V s hs;generalize ev (e.kids.headD .zero) V s=r at *
 repeat' split
 all_goals first
  |exact h0
  |exact h _ _ _ h0
  |exact vB h _ _ _ _ _ (h _ _ _ h0)
theorem zLX(hI:InvX I)(h:∀e V s,I s->I (ev e V s).2)(fl:Nat)(e:Exp)(V:wM)(s:XS)(hs:I s):I (jI p fl ev e V s).2:=by
 unfold jI;have h0:=tB h V e.kids s hs;generalize jP ev V e.kids s=r at *
 repeat' split
 all_goals first
  |exact hs
  |exact h0
  |exact zId h _ _ _ hs
  |exact u4 hI h _ _ _ h0
theorem pK(hI:InvX I)(fl:Nat):∀(n:Nat) e V s,I s->I (bG p fl n e V s).2
 | 0,e,V,s,hs=>by
  rw[bG];split
  .exact hs
  .exact hI.fail _ _ hs
 |n+1,e,V,s,hs=>by
  rw[bG];split
  .exact hs
  .split
   .exact hI.fail _ _ hs
   .rename_i h;have:=zLX (p:=p) hI (pK hI fl n) fl e V _ (hI.tick e s hs h);show I (mG _);unfold mG;split
    .exact hI.fail _ _ this
    .exact this
def Fu(F:Int)(s:XS):Prop:=0<=s.fuel/\s.fuel<=F
theorem zDI(F:Int):InvX (Fu F) :=
 ⟨fun e s h hf=>⟨by unfold oI;dsimp only;omega,by unfold oI;have:=h.2;dsimp only;omega⟩,fun d s h=>h,fun x s h=>h⟩
theorem zDk(h:oZ ev)(V:wM):∀(l:wG) (s:XS) (i k:Nat),i<=k->(jP ev V (l.take k) s).2.fail=0->(jP ev V (l.take i) s).2.fail=0
 |[],s,i,k,_,h0=>by simpa using h0
 |e::l,s,0,k,_,h0=>by
  by_cases hs:s.fail=0
  .simpa[jP]using hs
  .rw[uZ h V _ _ hs]at h0;exact(hs h0).elim
 |e::l,s,i+1,0,hik,h0=>by omega
 |e::l,s,i+1,k+1,hik,h0=>by simp only[jC9,jP]at h0 ⊢;exact zDk h V l _ i k (by omega) h0
theorem zDj(h:oZ ev)(V:wM):∀(l:wG) (s:XS),s.fail=0->(jP ev V l s).2.fail≠0 ->
 ∃(k:Nat) (hk:k<l.length),(jP ev V (l.take k) s).2.fail=0/\(ev l[k] V (jP ev V (l.take k) s).2).2=(jP ev V l s).2
 |[],s,hs,hf=>(hf hs).elim
 |e::l,s,hs,hf=>by
  by_cases h0:(ev e V s).2.fail=0
  .simp only[jP]at hf;obtain⟨k,hk,h1,h2⟩:=zDj h V l _ h0 hf;exact⟨k+1,by simpa using hk,by simpa only[jC9,jP]using h1,by simpa only[jC9,jP,jDd]using h2⟩
  .refine⟨0,by simp,hs,?_⟩;simp only[List.take_zero,jP,jCl];rw[uZ h V l _ h0]
theorem zBF(h:oZ ev)(V:wM)(x:Id)(b:Exp):∀(l:wH) (r:Val×XS) (i k:Nat),i<=k->(yR ev V x b (l.take k) r).2.fail=0->(yR ev V x b (l.take i) r).2.fail=0
 |[],r,i,k,_,h0=>by simpa using h0
 |v::l,r,0,k,_,h0=>by
  by_cases hs:r.2.fail=0
  .simpa[yR]using hs
  .rw[nA h V _ _ _ _ hs]at h0;exact(hs h0).elim
 |v::l,r,i+1,0,hik,h0=>by omega
 |v::l,r,i+1,k+1,hik,h0=>by simp only[jC9,yR]at h0 ⊢;exact zBF h V x b l _ i k (by omega) h0
theorem zC0(h:oZ ev)(V:wM)(x:Id)(b:Exp):∀(l:wH) (r:Val×XS),r.2.fail=0->(yR ev V x b l r).2.fail≠0 ->
 ∃(k:Nat) (_:k<l.length),(yR ev V x b (l.take k) r).2.fail=0/\(yR ev V x b (l.take (k+1)) r).2=(yR ev V x b l r).2
 |[],r,hs,hf=>(hf hs).elim
 |v::l,r,hs,hf=>by
  simp only[yR]at hf;by_cases h0:(ev b (V++[⟨x,0,v⟩]++[⟨x,1,r.1⟩]) r.2).2.fail=0
  .obtain⟨k,hk,h1,h2⟩:=zC0 h V x b l _ h0 hf;exact⟨k+1,by simpa using hk,by simpa only[jC9,yR]using h1,by simpa only[jC9,yR]using h2⟩
  .refine⟨0,by simp,hs,?_⟩;simp only[jAz,jC9,List.take_zero,yR];rw[nA h V _ _ _ _ h0]
end
def zW9:List ByteArray:=[⟨#[65]⟩,⟨#[66]⟩,⟨#[67]⟩,⟨#[68]⟩]
def xyT:List ByteArray:=[⟨#[120]⟩,⟨#[121]⟩]
def cT:List ByteArray:=[⟨#[99,48]⟩,⟨#[99,49]⟩,⟨#[99,50]⟩,⟨#[99,51]⟩,⟨#[99,52]⟩,⟨#[99,53]⟩,⟨#[99,54]⟩]
section
variable(l:wB)
def zME(i k:Nat)(m:Gm):Slt:=⟨idR ((20+2*i+k:Nat):Int),xyT.getD k ⟨#[]⟩,tK (gN l m 3),0,k⟩
def aR(i:Nat):Nat->Gm->List Slt×Gm
 | 0,m=>([],m)
 |n+1,m=>((aR i n m).1++[zME l i n (aR i n m).2],(aR i n m).2.tick)
def dX(m:Gm):Nat:=(1+gN l m 2).toNat
def uA(i:Nat)(m:Gm):Dfn×Gm:=(⟨idR ((1+i:Nat):Int),0,idR 0,zW9.getD i ⟨#[]⟩,(aR l i (dX l m) m.tick).1,.zero,.zero,0,[]⟩,(aR l i (dX l m) m.tick).2)
def yL:Nat->Gm->wP×Gm
 | 0,m=>([],m)
 |n+1,m=>((yL n m).1++[(uA l n (yL n m).2).1],(uA l n (yL n m).2).2)
def fV(many:Nat)(m:Gm):Nat×Nat×Gm :=
 if gN l m many=gN l m.tick many then
  (if 0<gN l m.tick.tick 3 then ((gN l m many).toNat,((gN l m many).toNat+1) % many,m.tick.tick.tick)else ((gN l m many).toNat,(gN l m many).toNat,m.tick.tick.tick))
 else ((gN l m many).toNat,(gN l m.tick many).toNat,m.tick.tick)
def fG(a b:Dfn)(s:Id)(m:Gm):Exp×Gm :=
 if gN l (rU l b a s m).2 5=1 then
  aX (rU l b a s (b9 l a s 1 1 (rU l b a s m).2.tick).2).2 5 0 Id.zero [(b9 l a s 1 1 (rU l b a s m).2.tick).1,(rU l b a s m).1,(rU l b a s (b9 l a s 1 1 (rU l b a s m).2.tick).2).1]
 else ((rU l b a s m).1,(rU l b a s m).2.tick)
def zIF(R:wP)(x y:Nat)(s:Id)(m:Gm):Exp×Gm :=
 if x=y then
  (if gN l m 2=1 then aX m.tick 2 0 s []else fG l (R.getD x .zero) (R.getD y .zero) s m.tick)
 else fG l (R.getD x .zero) (R.getD y .zero) s m
def zAI(R:wP)(i:Nat)(m:Gm):Dfn×Gm :=
 (⟨idR ((6+i:Nat):Int),5,idR 0,cT.getD i ⟨#[]⟩,[⟨idR ((30+i:Nat):Int),⟨#[111,108,100]⟩,yB (R.getD (fV l R.length m).1 .zero).id,0,0⟩],yB (R.getD (fV l R.length m).2.1 .zero).id,
  (zIF l R (fV l R.length m).1 (fV l R.length m).2.1 (idR ((30+i:Nat):Int)) (fV l R.length m).2.2).1,0,[]⟩,
  (zIF l R (fV l R.length m).1 (fV l R.length m).2.1 (idR ((30+i:Nat):Int)) (fV l R.length m).2.2).2)
def aM(R:wP):Nat->Gm->wP×Gm
 | 0,m=>([],m)
 |n+1,m=>((aM R n m).1++[(zAI l R n (aM R n m).2).1],(zAI l R n (aM R n m).2).2)
def yQ:Nat:=(2+atV l 0 3).toNat
def aB:wP:=(yL l (yQ l) ⟨1,40⟩).1++(aM l (yL l (yQ l) ⟨1,40⟩).1 (gN l (yL l (yQ l) ⟨1,40⟩).2 8).toNat (yL l (yQ l) ⟨1,40⟩).2.tick).1
def tY:Prg:=⟨[⟨idR 0,⟨#[99,111,114,101]⟩,[],(aB l).map (·.id)⟩],aB l⟩
theorem i7(i:Nat)(m:Gm):∀n,(aR l i n m).1.length=n
 | 0=>rfl
 |n+1=>by simp[aR,i7 i m n]
theorem rW(i:Nat)(m:Gm):∀(n k:Nat) (h:k<(aR l i n m).1.length),∃m',(aR l i n m).1[k]=zME l i k m'
 | 0,k,h=>by simp[aR]at h
 |n+1,k,h=>by
  have hl:=i7 l i m n;by_cases hk:k<n
  .obtain⟨m',h'⟩:=rW i m n k (by omega);exact⟨m',by simp only[aR];rw[jBn (by omega)];exact h'⟩
  .have hkn:k=n:=by rw[i7]at h;omega
   subst hkn;exact⟨(aR l i k m).2,by simp only[aR];rw[jC1 (by omega)];simp[hl]⟩
theorem gR(m:Gm):∀n,(yL l n m).1.length=n
 | 0=>rfl
 |n+1=>by simp[yL,gR m n]
theorem zFR(m:Gm):∀(n k:Nat) (h:k<(yL l n m).1.length),∃m',(yL l n m).1[k]=(uA l k m').1
 | 0,k,h=>by simp[yL]at h
 |n+1,k,h=>by
  have hl:=gR l m n;by_cases hk:k<n
  .obtain⟨m',h'⟩:=zFR m n k (by omega);exact⟨m',by simp only[yL];rw[jBn (by omega)];exact h'⟩
  .have hkn:k=n:=by rw[gR]at h;omega
   subst hkn;exact⟨(yL l k m).2,by simp only[yL];rw[jC1 (by omega)];simp[hl]⟩
theorem gK(R:wP)(m:Gm):∀n,(aM l R n m).1.length=n
 | 0=>rfl
 |n+1=>by simp[aM,gK R m n]
theorem zDJ(R:wP)(m:Gm):∀(n k:Nat) (h:k<(aM l R n m).1.length),∃m',(aM l R n m).1[k]=(zAI l R k m').1
 | 0,k,h=>by simp[aM]at h
 |n+1,k,h=>by
  have hl:=gK l R m n;by_cases hk:k<n
  .obtain⟨m',h'⟩:=zDJ R m n k (by omega);exact⟨m',by simp only[aM];rw[jBn (by omega)];exact h'⟩
  .have hkn:k=n:=by rw[gK]at h;omega
   subst hkn;exact⟨(aM l R k m).2,by simp only[aM];rw[jC1 (by omega)];simp[hl]⟩
end
theorem zUm(t:Int):tK t=q9\/tK t=jO:=by
 unfold tK;split
 .exact .inr rfl
 .exact .inl rfl
theorem zGH{α:Type}{A B C:List α}(e:C=A++B)(k:Nat)(h:k<C.length):(∃h':k<A.length,C[k]=A[k])\/(A.length<=k/\∃h':k-A.length<B.length,C[k]=B[k-A.length]):=by
 subst e;by_cases hk:k<A.length
 .exact .inl ⟨hk,jBn hk⟩
 .exact .inr ⟨by omega,by rw[jA5]at h;omega,jC1 (by omega)⟩
theorem vC{α:Type}{L:List α}(h:i<L.length)(z : α):L.getD i z=L[i]:=by rw[jBe,jA0 h,jBf]
section
variable{l:wB}(hl:∀x∈l,w64 x=x)
include hl
theorem rS(m:Gm):1<=dX l m/\dX l m<=2:=by have h:0<=gN l m 2/\gN l m 2<2:=yA hl (by omega);unfold dX;omega
theorem tX:2<=yQ l/\yQ l<=4:=by have h:0<=atV l 0 3/\atV l 0 3<3:=yA hl (by omega);unfold yQ;omega
theorem zII(many:Nat)(hm:0<many)(m:Gm):(fV l many m).1<many/\(fV l many m).2.1<many:=by
 have h1:0<=gN l m many/\gN l m many<many:=yA hl (by omega);have h2:0<=gN l m.tick many/\gN l m.tick many<many:=yA hl (by omega);have h3:=Nat.mod_lt ((gN l m many).toNat+1) hm;unfold fV;split
 .split
  .exact⟨by simp only;omega,h3⟩
  .exact⟨by simp only;omega,by simp only;omega⟩
 .exact⟨by simp only;omega,by simp only;omega⟩
theorem zFM{p:Prg}{a b:Dfn}(ha:Flat p a)(hb:Flat p b)(s:Id)(m:Gm):WF p [⟨s,0,yB a.id⟩] (fG l a b s m).1 (yB b.id):=by
 unfold fG;split
 .exact .ite _ _ _ _ _ _ _ _ _ (pD hl ha s 1 _ (.inr rfl)) (zHb hl ha s hb _) (zHb hl ha s hb _)
 .exact zHb hl ha s hb _
theorem zQL{p:Prg}{R:wP}(hR:∀a∈R,Flat p a){x y:Nat}(hx:x<R.length)(hy:y<R.length)(s:Id)(m:Gm):WF p [⟨s,0,yB (R.getD x .zero).id⟩] (zIF l R x y s m).1 (yB (R.getD y .zero).id):=by
 have ha:Flat p (R.getD x .zero):=by rw[vC hx];exact hR _ (jA3 hx)
 have hb:Flat p (R.getD y .zero):=by rw[vC hy];exact hR _ (jA3 hy)
 unfold zIF;split
 .split
  .rename_i e _;subst e;exact .var _ _ _ _ _ _ (by simp[dF]) (.inr (.inr ⟨_,ha,rfl⟩))
  .exact zFM hl ha hb s _
 .exact zFM hl ha hb s _
theorem zBG:(aB l).length<=11/\2<=(aB l).length:=by have h1:=tX hl;have h2:0<=gN l (yL l (yQ l) ⟨1,40⟩).2 8/\gN l (yL l (yQ l) ⟨1,40⟩).2 8<8:=yA hl (by omega);unfold aB;rw[jA5,gR,gK];omega
theorem pA(k:Nat)(h:k<(aB l).length) :
 (k<yQ l/\∃m,(aB l)[k]=(uA l k m).1)\/(yQ l<=k/\k-yQ l<7/\∃m,(aB l)[k]=(zAI l (yL l (yQ l) ⟨1,40⟩).1 (k-yQ l) m).1):=by
 have h2:0<=gN l (yL l (yQ l) ⟨1,40⟩).2 8/\gN l (yL l (yQ l) ⟨1,40⟩).2 8<8:=yA hl (by omega);have hlen:=gR l ⟨1,40⟩ (yQ l);rcases zGH (show aB l=_++_ from rfl) k h with ⟨h',e⟩|⟨h',h'',e⟩
 .obtain⟨m,hm⟩:=zFR l ⟨1,40⟩ (yQ l) k h';exact .inl ⟨by omega,m,e.trans hm⟩
 .obtain⟨m,hm⟩:=zDJ l (yL l (yQ l) ⟨1,40⟩).1 (yL l (yQ l) ⟨1,40⟩).2.tick (gN l (yL l (yQ l) ⟨1,40⟩).2 8).toNat _ h'';have e2:=e.trans hm;rw[gK]at h'';rw[hlen]at h' h'' e2;exact .inr ⟨h',by omega,m,e2⟩
theorem zIH(k:Nat)(h:k<(aB l).length):(aB l)[k].id=idR (if k<yQ l then ((1+k:Nat):Int)else ((6+(k-yQ l):Nat):Int)):=by
 rcases pA hl k h with ⟨hk,m,e⟩|⟨hk,_,m,e⟩
 .rw[e,if_pos hk];rfl
 .rw[e,if_neg (by omega)];rfl
theorem zDK:(aB l).Pairwise fun a b=>a.id≠b.id:=by have h1:=tX hl;rw[jCr];intro i j hi hj hij e;have h11:=zBG hl;rw[zIH hl i hi,zIH hl j hj]at e;have:=r6 (by split<;>omega) (by split<;>omega) (by split<;>omega) (by split<;>omega) e;split at this<;>split at this<;>omega
theorem zBH{k:Nat}(hk:k<yQ l)(h:k<(aB l).length):Flat (tY l) (aB l)[k]:=by
 rcases pA hl k h with ⟨_,m,e⟩|⟨hk',_⟩
 .have h2:=rS hl m;have hf:=rR (zDK hl) h;have h3:(aB l)[k].kind=0/\(aB l)[k].slots=(aR l k (dX l m) m.tick).1:=by rw[e];exact⟨rfl,rfl⟩
  refine⟨hf,h3.1,fun s hs=>?_,?_⟩
  .rw[h3.2]at hs;obtain⟨j,hj,rfl⟩:=jAn hs;obtain⟨m',e'⟩:=rW l k m.tick (dX l m) j hj;rw[e'];exact zUm _
  .rw[h3.2,i7];omega
 .omega
theorem rV:∀a∈(yL l (yQ l) ⟨1,40⟩).1,Flat (tY l) a:=by
 intro a ha;obtain⟨k,hk,rfl⟩:=jAn ha;have hkm:k<yQ l:=by rw[gR]at hk;exact hk
 have hkd:k<(aB l).length:=by unfold aB;rw[jA5];omega
 have:=zBH hl hkm hkd;rcases zGH (show aB l=(yL l (yQ l) ⟨1,40⟩).1++_ from rfl) k hkd with ⟨h',e⟩|⟨h',h'',e⟩
 .rw[e]at this;exact this
 .omega
theorem zSp{j:Nat}(hj:j<yQ l)(h:j<(aB l).length):TyOk ((aB l).map Dfn.hd) 4 (yB (aB l)[j].id):=by
 have h4:=zBH hl hj h;have hnd:=zDK hl;rw[jCr]at hnd;have e:((aB l).map Dfn.hd)[j]'(by simpa using h)=(aB l)[j].hd:=by simp
 have hid:(aB l)[j].id=(((aB l).map Dfn.hd)[j]'(by simpa using h)).id:=by rw[e];rfl
 rw[hid];refine .dfn 3 j (by simpa using h) (fun i hi=>?_) (.inl (by rw[e];exact h4.kind)) (by rw[e];exact h4.few) fun s hs=>?_
 .have:=hnd i j (by omega) h hi
  simpa[Dfn.hd]using this
 .rw[e]at hs;rcases h4.flat s hs with e|e<;>rw[e]
  .exact .int _
  .exact .bool _
theorem zFQ:Fit (tY l) ((aB l).map Dfn.hd):=by
 have h11:=zBG hl;have hm:=tX hl;have hlen:=gR l ⟨1,40⟩ (yQ l);have hend:=fun m=>zII hl (yL l (yQ l) ⟨1,40⟩).1.length (by omega) m
 have hdef:∀j (hj:j<yQ l),∃hj':j<(aB l).length,(yL l (yQ l) ⟨1,40⟩).1.getD j .zero=(aB l)[j]:=by
  intro j hj;have hj':j<(aB l).length:=by unfold aB;rw[jA5];omega
  refine⟨hj',?_⟩;rw[vC (by omega)];rcases zGH (show aB l=(yL l (yQ l) ⟨1,40⟩).1++_ from rfl) j hj' with ⟨h',e⟩|⟨h',h'',e⟩
  .exact e.symm
  .omega
 refine⟨rfl,by show (aB l).length<=100;omega,zDK hl,fun d hd=>?_,fun d hd=>?_,fun r d hd hb=>?_⟩
 .change d∈aB l at hd;obtain⟨k,hk,rfl⟩:=jAn hd;rcases pA hl k hk with ⟨_,m,e⟩|⟨hk',hk7,m,e⟩
  .have h2:=rS hl m;have h3:(aB l)[k].slots=(aR l k (dX l m) m.tick).1:=by rw[e];rfl
   have h4:=zBH hl (by omega) hk;have h5:=i7 l k m.tick (dX l m);refine⟨by rw[h3];omega,by rw[h3];omega,fun _=>by rw[h3];omega,?_,fun s hs=>?_⟩
   .rw[h3,jCr];intro i j hi hj hij e;obtain⟨m1,e1⟩:=rW l k m.tick (dX l m) i hi;obtain⟨m2,e2⟩:=rW l k m.tick (dX l m) j hj;rw[e1,e2]at e;have:=r6 (by omega) (by omega) (by omega) (by omega) (show idR _=idR _ from e);omega
   .rcases h4.flat s hs with e|e<;>rw[e]
    .exact .int _
    .exact .bool _
  .obtain⟨hj,ej⟩:=hdef (fV l (yL l (yQ l) ⟨1,40⟩).1.length m).1 (by have:=(hend m).1;omega);have h3:(aB l)[k].slots=[⟨idR ((30+(k-yQ l):Nat):Int),⟨#[111,108,100]⟩,yB (aB l)[(fV l (yL l (yQ l) ⟨1,40⟩).1.length m).1].id,0,0⟩]:=by rw[e,<-ej];rfl
   rw[h3];refine⟨by simp,by simp,fun _=>by simp,by simp,fun s hs=>?_⟩;rw[jAl]at hs;subst hs;exact zSp hl (by have:=(hend m).1;omega) hj
 .change d∈aB l at hd;obtain⟨k,hk,rfl⟩:=jAn hd;rcases pA hl k hk with ⟨_,m,e⟩|⟨hk',hk7,m,e⟩<;>(rw[e];simp[uA,zAI])
 .obtain⟨hd1,rfl⟩:=y6 hd;change d∈aB l at hd1;obtain⟨k,hk,rfl⟩:=jAn hd1;rcases pA hl k hk with ⟨_,m,e⟩|⟨hk',hk7,m,e⟩
  .rw[e]at hb;simp[fA,uA]at hb
  .rw[e];exact(zQL hl (rV hl) (hend m).1 (hend m).2 _ _).we
end
inductive Nam:Typ->Id->Prop
 |here (t:Typ) (h:t.k=3):Nam t t.id
 |kid (t k:Typ) (x:Id) (h:k∈t.kids) (hx:Nam k x):Nam t x
inductive Rch(p:Prg)(T:Typ->Prop):Id->Prop
 |base (t:Typ) (x:Id) (ht:T t) (hx:Nam t x):Rch p T x
 |step (y:Id) (s:Slt) (x:Id) (hy:Rch p T y) (hs:s∈(dfn p y).slots) (hx:Nam s.typ x):Rch p T x
variable{T T':Typ->Prop}
theorem Rch.mono(h:Rch p T x)(hT:∀t,T t->T' t):Rch p T' x:=by
 induction h with
 |base t x ht hx=>exact .base t x (hT t ht) hx
 |step y s x _ hs hx ih=>exact .step y s x ih hs hx
theorem Rch.one(h:Rch p T x):∃t,T t/\Rch p (· = t) x:=by
 induction h with
 |base t x ht hx=>exact⟨t,ht,.base t x rfl hx⟩
 |step y s x _ hs hx ih =>
  obtain⟨t,ht,h⟩:=ih;exact⟨t,ht,.step y s x h hs hx⟩
def zE1(p:Prg):Nat->Typ->List Id->wF
 | 0,_,L=>L
 |f+1,t,L=>if t.k=3/\t.id∉t.kids.foldl (fun L k=>zE1 p f k L) L then (dfn p t.id).slots.foldl (fun L s=>zE1 p f s.typ L) (t.kids.foldl (fun L k=>zE1 p f k L) L++[t.id])
  else t.kids.foldl (fun L k=>zE1 p f k L) L
structure Meets(p:Prg)(T:Typ->Prop)(L L':List Id):Prop where
 sub:∀x∈L,x∈L'
 all:∀t x,T t->Nam t x->x∈L'
 clo:∀x∈L',x∉L->∀s∈(dfn p x).slots,∀y,Nam s.typ y->y∈L'
 snd:∀x∈L',x∈L\/Rch p T x
variable{L:wF}
theorem Meets.trans{L' L'':wF}(h:Meets p T L L')(k:Meets p T' L' L''):Meets p (fun t=>T t\/T' t) L L'':=by
 refine⟨fun x hx=>k.sub x (h.sub x hx),fun t x ht hx=>?_,fun x hx hn s hs y hy=>?_,fun x hx=>?_⟩
 .rcases ht with ht|ht
  .exact k.sub x (h.all t x ht hx)
  .exact k.all t x ht hx
 .by_cases hx':x∈L'
  .exact k.sub y (h.clo x hx' hn s hs y hy)
  .exact k.clo x hx hx' s hs y hy
 .rcases k.snd x hx with hx|hx
  .rcases h.snd x hx with hx|hx
   .exact .inl hx
   .exact .inr (hx.mono fun _ h=>.inl h)
  .exact .inr (hx.mono fun _ h=>.inr h)
theorem Meets.congr{L':wF}(h:Meets p T L L')(hT:∀t,T t↔T' t):Meets p T' L L' :=
 ⟨h.sub,fun t x ht hx=>h.all t x ((hT t).2 ht) hx,h.clo,fun x hx=>(h.snd x hx).imp (fun h=>h) fun h=>h.mono fun t=>(hT t).1⟩
def zL9(p:Prg)(ss:List Slt)(L:wF):wF:=ss.foldl (fun L s=>zE1 p 10 s.typ L) L
mutual
def zJu:Typ->List Id->wF
 | .mk k x l,L=>zEf l (if k=3 then lV L x else L)
def zEf:List Typ->List Id->wF
 |[],L=>L
 |t::l,L=>zEf l (zJu t L)
end
mutual
theorem zJv:∀(t:Typ) (L:wF) (x:Id),x∈zJu t L↔x∈L\/Nam t x
 | .mk k y l,L,x=>by
  rw[zJu,zGk l];constructor
  .rintro(h|⟨t,ht,h⟩)
   .split at h
    .rename_i hk;rcases pE.1 h with h|h
     .exact .inl h
     .subst h;exact .inr (.here (.mk k x l) hk)
    .exact .inl h
   .exact .inr (.kid (.mk k y l) t x ht h)
  .rintro(h|h)
   .left;split
    .exact pE.2 (.inl h)
    .exact h
   .generalize hT:Typ.mk k y l=T at h;cases h with
    |here _ h =>
     subst hT;left;show y∈_;rw[if_pos (show k=3 from h)];exact pE.2 (.inr rfl)
    |kid _ t _ ht hx =>
     subst hT;exact .inr ⟨t,ht,hx⟩
theorem zGk:∀(l:wQ) (L:wF) (x:Id),x∈zEf l L↔x∈L\/∃t∈l,Nam t x
 |[],L,x=>by simp[zEf]
 |t::l,L,x=>by rw[zEf,zGk l,zJv t];simp only[jA1,exists_eq_or_imp,or_assoc]
end
mutual
theorem zMW:∀(t:Typ) (L:wF),SS L->SS (zJu t L)
 | .mk k y l,L,h=>by
  rw[zJu];refine zJw l _ ?_;split
  .exact zHi h
  .exact h
theorem zJw:∀(l:wQ) (L:wF),SS L->SS (zEf l L)
 |[],L,h=>h
 |t::l,L,h=>by rw[zEf];exact zJw l _ (zMW t L h)
end
def namS(ss:List Slt)(L:wF):wF:=ss.foldl (fun L s=>zJu s.typ L) L
def zYc(l:wF):List (wB×A):=l.map fun x=>(xZ x,.lit (.bool true))
@[simp]theorem qHQ{rf:Bool->Nat->Nat->A}{g:Nat->wC}(l:wF):((zYc l).map fun p=>(p.1,vw rf g p.2))=zYc l:=by
 simp only[zYc,jCg];refine jC3 fun x _=>?_
 simp
@[simp]theorem qHE{a:A}:rX (.bool false) false (some a)=a:=rfl
@[simp]theorem qHD:rX (.bool false) false none=.lit (.bool false):=rfl
structure RL(p:Prg)(L:List Id):Prop where
 nd:L.Nodup
 sub:∀x∈L,x∈p.defs.map Dfn.id
theorem RL.len(hf:Fit p hs)(h:RL p L):L.length<=100:=by
 have:=h.nd.length_le_of_subset (l₂:=p.defs.map Dfn.id) h.sub;have:=hf.len8;simp at *
 omega
theorem RL.fold{p:Prg} {α:Type}(g : α->List Id->wF):∀(l:List α) (L:wF),(∀a∈l,∀L,RL p L->RL p (g a L))->RL p L->RL p (l.foldl (fun L a=>g a L) L)
 |[],L,_,h=>h
 |a::l,L,hg,h=>by rw[jBk];exact RL.fold g l _ (fun b hb=>hg b (by simp[hb])) (hg a (by simp) L h)
end Go.Proofs.YtdnelmeboihpkaaGreatDoor

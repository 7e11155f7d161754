/- What the reference says of changes, as data: the same set. -/
import Derived.Test.YtolkhapmieigcaaGreatDoorX14
set_option linter.unusedVariables false
set_option maxHeartbeats 8000000
set_option maxRecDepth 100000
set_option linter.unusedSimpArgs false
open Go.Proofs.Tryz (prog)
namespace Go.Proofs.YtolkhapmieigcaaGreatDoor
open Go.Abs
def zZC{α:Type}(idf : α->Id)(same : α->α->Bool)(P Q:List α)(d : α):Option Id:=match aH idf P (idf d)with
 |none=>none
 |some a=>match aH idf Q (idf a)with
  |none=>some (idf a)
  |some b=>if same a b then none else some (idf a)
def zAw{α:Type}(idf : α->Id)(same : α->α->Bool)(P Q:List α):wG:=P.filterMap (zZC idf same P Q)
theorem zAb{α:Type}{idf : α->Id}{l:List α}{x:Id}{a : α}(h:aH idf l x=some a):idf a=x:=by
 have:=jD6 h
 simpa using this
theorem vQ{α:Type}{idf : α->Id}{l:List α}{x:Id}{a : α}(h:aH idf l x=some a):a∈l:=jCy h
theorem zDc{α:Type}{idf : α->Id}{l:List α}{a : α}(h:a∈l):∃b,aH idf l (idf a)=some b:=by
 cases hh:aH idf l (idf a)with
 |some b=>exact⟨b,rfl⟩
 |none =>
  unfold aH at hh;rw[jD3]at hh;have:=hh a h;simp at this
theorem zK1{α:Type}{idf : α->Id}(l l':List α)(x:Id):aH idf (l++l') x=(aH idf l x).or (aH idf l' x):=by simp only[aH,List.find?_append]
theorem zK2{α:Type}{idf : α->Id}(l:List α)(a : α)(x:Id):aH idf (c7 idf l a) x=(aH idf l x).or (if idf a=x then some a else none):=by
 unfold c7;by_cases h:(aH idf l (idf a)).isSome
 .rw[if_pos h];by_cases e:idf a=x
  .subst e;obtain⟨b,hb⟩:=Option.isSome_iff_exists.1 h;rw[hb];rfl
  .rw[if_neg e];simp
 .rw[if_neg h,zK1]
  congr 1
  simp only[aH,jC4,List.find?_nil];by_cases e:idf a=x
  .rw[if_pos e];simp[e]
  .rw[if_neg e];simp[e]
theorem zDb{α:Type}{idf : α->Id}(x:Id):∀(L acc:List α),aH idf (L.foldl (c7 idf) acc) x=(aH idf acc x).or (aH idf L x)
 |[],acc=>by simp[aH]
 |a::L,acc=>by
  rw[jAw,zDb x L,zK2];have:aH idf (a::L) x=(if idf a=x then some a else none).or (aH idf L x):=by
   simp only[aH,jC4];by_cases e:idf a=x
   .simp[e]
   .simp[e]
  rw[this,Option.or_assoc]
theorem zQG:(∀(e:Exp) (N:wH),zHh e N=(y7 e).foldl (c7 Exp.id) N)/\∀(l:wH) (N:wH),nB l N=(yU l).foldl (c7 Exp.id) N:=by
 constructor
 .exact fun e=>vf e
 .exact fun l=>vfs l
where
 vf:∀(e:Exp) (N:wH),zHh e N=(y7 e).foldl (c7 Exp.id) N
  | .mk a b c d t ks ns,N=>by simp only[zHh,y7,jAw];exact vfs ks _
 vfs:∀(l:wH) (N:wH),nB l N=(yU l).foldl (c7 Exp.id) N
  |[],N=>rfl
  |e::l,N=>by simp only[nB,yU,jBv];rw[vf e N,vfs l]
theorem r8(ds:wS):rG ds=(yE ds).foldl (c7 Exp.id) []:=by
 have key:∀(ds:wS) (N:wH),ds.foldl zKR N=(yE ds).foldl (c7 Exp.id) N:=by
  intro ds;induction ds with
  |nil=>intro N;rfl
  |cons d ds ih =>
   intro N;rw[jAw,ih];have e:yE (d::ds)=(if dU d.kind then y7 d.body else [])++yE ds:=by simp[yE]
   rw[e,jBv]
   congr 1
   unfold zKR;split
   .exact zQG.1 _ _
   .rfl
 exact key ds []
section
variable{α:Type}{idf : α->Id}{same : α->α->Bool}
theorem zHE(L:List α){a : α}(h:a∈L.foldl (c7 idf) []):aH idf (L.foldl (c7 idf) []) (idf a)=some a:=by
 have key:∀(L acc:List α),(∀b∈acc,aH idf acc (idf b)=some b)->∀b∈L.foldl (c7 idf) acc,aH idf (L.foldl (c7 idf) acc) (idf b)=some b:=by
  intro L;induction L with
  |nil=>exact fun acc h=>h
  |cons x L ih =>
   intro acc hacc;rw[jAw];refine ih _ fun b hb=>?_
   rw[zK2];unfold c7 at hb;split at hb
   .rw[hacc b hb];rfl
   .rename_i hn;rcases jA6.1 hb with hb|hb
    .rw[hacc b hb];rfl
    .rw[jAi.1 hb];have:aH idf acc (idf x)=none:=by simpa using hn
     rw[this];simp
 exact key L [] (by simp) a h
variable{P Q:List α}{x:Id}
theorem gT:x∈zAw idf same P Q↔∃a,aH idf P x=some a/\∀b,aH idf Q x=some b->same a b=false:=by
 simp only[zAw,jDg];constructor
 .rintro⟨d,hd,h⟩;obtain⟨a,ha⟩:=zDc (idf:=idf) hd;have hai:=zAb ha;simp only[zZC,ha,hai]at h;cases hq:aH idf Q (idf d)with
  |none =>
   rw[hq]at h;simp only[jA3]at h;subst h;exact⟨a,ha,fun b hb=>by rw[hq]at hb;cases hb⟩
  |some b =>
   rw[hq]at h;simp only at h;split at h
   .cases h
   .rename_i hs;simp only[jA3]at h;subst h;exact⟨a,ha,fun b' hb=>by rw[hq]at hb;cases hb;simpa using hs⟩
 .rintro⟨a,ha,h⟩;have hai:=zAb ha;subst hai;refine⟨a,vQ ha,?_⟩;simp only[zZC,ha];cases hq:aH idf Q (idf a)with
  |none=>rfl
  |some b =>
   simp only;rw[h b hq];simp
theorem zKL:x∈zFn idf same (P.foldl (c7 idf) []) (Q.foldl (c7 idf) [])↔(∃a,aH idf P x=some a/\∀b,aH idf Q x=some b->same a b=false)\/(aH idf P x=none/\∃b,aH idf Q x=some b):=by
 have hP:∀x,aH idf (P.foldl (c7 idf) []) x=aH idf P x:=fun x=>by rw[zDb];rfl
 have hQ:∀x,aH idf (Q.foldl (c7 idf) []) x=aH idf Q x:=fun x=>by rw[zDb];rfl
 simp only[zFn,jA6,jA9,List.mem_filter];constructor
 .rintro(⟨a,⟨h1,h2⟩,rfl⟩|⟨b,⟨h1,h2⟩,rfl⟩)
  .have ha:=zHE P h1;rw[hP]at ha;refine .inl ⟨a,ha,fun b hb=>?_⟩;simp only[cD1,hQ,hb]at h2
   simpa using h2
  .have hb:=zHE Q h1;rw[hQ]at hb;simp only[cD2,hP,jCh]at h2;exact .inr ⟨h2,b,hb⟩
 .rintro(⟨a,ha,h⟩|⟨h,b,hb⟩)
  .have hai:=zAb ha;subst hai;have ha':=ha;rw[<-hP]at ha';refine .inl ⟨a,⟨vQ ha',?_⟩,rfl⟩;simp only[cD1,hQ];cases hq:aH idf Q (idf a)with
   |none=>rfl
   |some b=>simp[h b hq]
  .have hbi:=zAb hb;subst hbi;have hb':=hb;rw[<-hQ]at hb';refine .inr ⟨b,⟨vQ hb',?_⟩,rfl⟩;simp only[cD2,hP,h];rfl
theorem zO3(hsym:∀a b,same a b=same b a):(x∈zAw idf same P Q\/x∈zAw idf same Q P)↔x∈zFn idf same (P.foldl (c7 idf) []) (Q.foldl (c7 idf) []):=by
 rw[gT,gT,zKL];constructor
 .rintro(h|⟨b,hb,h⟩)
  .exact .inl h
  .cases hp:aH idf P x with
   |none=>exact .inr ⟨rfl,b,hb⟩
   |some a=>exact .inl ⟨a,rfl,fun b' hb'=>by rw[hb]at hb';cases hb';rw[hsym];exact h a hp⟩
 .rintro(h|⟨h,b,hb⟩)
  .exact .inl h
  .exact .inr ⟨b,hb,fun a ha=>by rw[h]at ha;cases ha⟩
end
theorem zCB{α:Type}{same : α->α->Bool}(h:∀a b,same a b=same b a):∀a b:List α,bM same a b=bM same b a
 |[],[]=>rfl
 |[],_::_=>rfl
 |_::_,[]=>rfl
 |a::l,b::l'=>by simp only[bM,h a b,zCB h l l']
theorem zBn(a b:Typ):yT a b=yT b a:=by rw[Bool.eq_iff_iff,gJ,gJ];exact⟨Eq.symm,Eq.symm⟩
theorem oM{α:Type} [DecidableEq α](a b : α):decide (a=b)=decide (b=a):=by rw[Bool.eq_iff_iff];simp only[decide_eq_true_eq];exact⟨Eq.symm,Eq.symm⟩
theorem pU(a b:Dfn):yQ a b=yQ b a:=by
 unfold yQ;by_cases h:a.kind=b.kind
 .rw[zCB (same:=gU) (fun x y=>by simp only[gU,oM x.id,zBn x.typ,oM x.most]) a.slots,zBn a.res,oM a.body.id,h]
 .simp[h,fun e:b.kind=a.kind=>h e.symm,Ne.symm h]
theorem zEs(a b:Exp):cH a b=cH b a:=by unfold cH;rw[zCB (same:=uN) (fun x y=>by simp only[uN,oM x.id]) a.kids,zBn a.typ,oM a.k,oM a.n,oM a.ref]
theorem zCA{α:Type}{same : α->α->Bool}(h:∀a,same a a=true):∀a:List α,bM same a a=true
 |[]=>rfl
 |a::l=>by simp only[bM,h a,zCA h l,Bool.and_self]
theorem zLs(a:Dfn):yQ a a=true:=by unfold yQ;rw[zCA (same:=gU) (fun x=>by simp[gU,lW]),lW];simp
theorem zLu(a:Exp):cH a a=true:=by unfold cH;rw[zCA (same:=uN) (fun x=>by simp[uN]),lW];simp
def zEg(p q:wS):wG:=(zAw Dfn.id yQ p q++zAw Exp.id cH (yE p) (yE q))++(zAw Dfn.id yQ q p++zAw Exp.id cH (yE q) (yE p))
theorem sX(p q:wS):aT (zEg p q)=nJ p q:=by
 refine(pW _).unique (pW _) fun x=>?_
 unfold nJ;rw[yX,yX,zEg,r8,r8];simp only[jA6];have h1:=zO3 (x:=x) (P:=p) (Q:=q) (idf:=Dfn.id) pU;have h2:=zO3 (x:=x) (P:=yE p) (Q:=yE q) (idf:=Exp.id) zEs;rw[show oP p=p.foldl (c7 Dfn.id) [] from rfl,show oP q=q.foldl (c7 Dfn.id) [] from rfl,<-h1,<-h2];constructor
 all_goals
  rintro((h|h)|(h|h))
  .exact .inl (.inl h)
  .exact .inr (.inl h)
  .exact .inl (.inr h)
  .exact .inr (.inr h)
theorem zHw(p:wS):nJ p p=[]:=by
 have h:∀x,x∉nJ p p:=fun x hx=>by
  rw[<-sX,yX,zEg]at hx;simp only[jA6,or_self]at hx;rcases hx with hx|hx
  .rw[gT]at hx;obtain⟨a,ha,h⟩:=hx;have:=h a ha;rw[zLs]at this;cases this
  .rw[gT]at hx;obtain⟨a,ha,h⟩:=hx;have:=h a ha;rw[zLu]at this;cases this
 cases hc:nJ p p with
 |nil=>rfl
 |cons x l=>exact(h x (by rw[hc];simp)).elim
theorem zIR{k:Int}(h0:0<=k)(h1:k<=1000000000000000):idR k=⟨0,1+k / 32,k % 32⟩:=by unfold idR;have e1:k.tdiv 32=k / 32:=tdN h0;have e2:k.tmod 32=k % 32:=tmN h0;have w1:=qF (k.tdiv 32) (by omega);rw[w1,e2];have w2:=qF (1+k.tdiv 32) (by omega);rw[w2,e1]
theorem zXd{k:Int}(h0:0<=k)(h1:k<=1000000000000000):1<=(idR k).b:=by rw[zIR h0 h1];show 1<=1+k / 32;omega
theorem tI{k j:Int}(h0:0<=k)(h1:k<=1000000000000000)(g0:0<=j)(g1:j<=1000000000000000)(h:idR k=idR j):k=j:=by
 rw[zIR h0 h1,zIR g0 g1]at h;injection h with _ h2 h3
 omega
def zIm(next:Int)(p:Pln)(k:Nat):Slt:=⟨idR (next+k),p.names.getD k ⟨#[]⟩,p.types.getD k jT,if p.kind=4 then p.most.getD k 0 else 0,k⟩
def dO(next:Int)(p:Pln):List Slt:=(List.range p.types.length).map (zIm next p)
def zFm(mods next:Int)(i:Nat)(p:Pln):Dfn:=⟨idR (mods+i),p.kind,idR p.mod,p.name,dO next p,p.out,Exp.zero,0,[]⟩
def bH(mods:Int)(ps:List Pln):Nat->Int
 | 0=>mods+ps.length
 |i+1=>bH mods ps i+(match ps[i]? with|some p=>(p.types.length:Int)|none=>0)
def pH(mods:Int)(ps:List Pln):wS:=ps.mapIdx fun i p=>zFm mods (bH mods ps i) i p
def uU(mods:Int)(ps:List Pln)(c:Int)(i:Nat):wG:=((List.range i).filter fun j=>match ps[j]? with|some p=>decide (p.mod=c)|none=>false).map fun(j:Nat)=>idR (mods+j)
def zCg(mods:Int)(ps:List Pln):List Md :=
 (⟨idR 0,⟨#[99,111,114,101]⟩,[],uU mods ps 0 ps.length⟩:Md)::(if mods=2 then [⟨idR 1,⟨#[109,105,108,108]⟩,[idR 0],uU mods ps 1 ps.length⟩]else [])
@[simp]theorem zPq(mods:Int)(ps:List Pln):(pH mods ps).length=ps.length:=by simp[pH]
@[simp]theorem lY(next:Int)(p:Pln):(dO next p).length=p.types.length:=by simp[dO]
variable{i:Nat}
theorem xZ(mods:Int)(ps:List Pln)(h:i<ps.length):(pH mods ps)[i]'(by simpa using h)=zFm mods (bH mods ps i) i ps[i]:=by simp[pH]
theorem zFO(mods:Int)(ps:List Pln)(h:i<ps.length):bH mods ps (i+1)=bH mods ps i+ps[i].types.length:=by simp only[bH];rw[jA2 h]
structure PlnOk(mods:Int)(p:Pln):Prop where
 kind0:0<=p.kind
 kind5:p.kind<=5
 mod0:0<=p.mod
 mod1:p.mod<mods
 t1:1<=p.types.length
 t6:p.types.length<=6
 names:p.types.length<=p.names.length
 most:p.kind=4->p.types.length<=p.most.length
theorem zNx(x:Int)(a b:Typ)(hx:w64 x=x):i8 x a b=jT\/i8 x a b=j9\/i8 x a b=jX jT\/i8 x a b=a\/i8 x a b=b:=by
 obtain⟨k0,k6⟩:=cX (k:=6) hx (by omega);unfold i8;generalize jY x 6=k at *
 have:k=0\/k=1\/k=2\/k=3\/k=4\/k=5:=by omega
 rcases this with rfl|rfl|rfl|rfl|rfl|rfl<;>simp
theorem zET{l:wC}{i most:Int}(hl:∀x∈l,w64 x=x)(hm:0<most)(h2:most<=1000):w64 (atV l i most)=atV l i most:=by obtain⟨a,b⟩:=yZ (i:=i) hl hm;exact IntWalk.i64_in _ (by omega)
theorem zB7{k:Int}(h0:0<=k)(h:k<6):jY k 6=k:=by
 have:k=0\/k=1\/k=2\/k=3\/k=4\/k=5:=by omega
 rcases this with rfl|rfl|rfl|rfl|rfl|rfl<;>decide
theorem zTv{x:Int}(h0:0<=x)(h:x<3)(a b:Typ):i8 x a b=jT\/i8 x a b=j9\/i8 x a b=jX jT:=by
 unfold i8;rw[zB7 h0 (by omega)];have:x=0\/x=1\/x=2:=by omega
 rcases this with rfl|rfl|rfl<;>simp
theorem zTw{x:Int}(h0:0<=x)(h:x<4)(a b:Typ):i8 x a b=jT\/i8 x a b=j9\/i8 x a b=jX jT\/i8 x a b=a:=by
 unfold i8;rw[zB7 h0 (by omega)];have:x=0\/x=1\/x=2\/x=3:=by omega
 rcases this with rfl|rfl|rfl|rfl<;>simp
theorem zEA{l:wC}{at_ most n:Int}{one t:Typ}(h:t∈tyL l at_ most n one):∃i:Nat,t=i8 (atV l (at_+i) most) one one:=by simp only[tyL,jA9]at h;obtain⟨i,_,rfl⟩:=h;exact⟨i,rfl⟩
theorem l9(l:wC)(at_ most n:Int)(one:Typ):(tyL l at_ most n one).length=n.toNat:=by simp[tyL]
section
variable(l:wC)(mods:Int)(hm:1<=mods)(hm2:mods<=2)(hl:∀x∈l,w64 x=x)
include hm hm2 hl
theorem eA:∀p∈qD l mods,PlnOk mods p:=by
 intro p hp;have a2:=yZ (i:=2) hl (most:=3) (by omega);have a6:=yZ (i:=6) hl (most:=2) (by omega);have a9:=yZ (i:=9) hl (most:=3) (by omega);have a15:=yZ (i:=15) hl (most:=mods) (by omega);have hF:(tB l mods).length=1\/(tB l mods).length=2:=by unfold tB;split<;>simp
 have hT:(inV l 18 (qU mods)).length=1\/(inV l 18 (qU mods)).length=2:=by
  unfold inV zS5;split
  .simp
  .split<;>simp
 have hp':p=dM l mods\/p=dZ l mods\/p=i6 l mods\/p=zDp mods\/p=pF l mods\/p=zA8 mods\/p=pG l mods\/p=pT l mods\/p=pC l mods:=by
  simp only[qD,plB,plC,plD,plE,jA6,jA1]at hp;rcases hp with ((h|h|h)|h)|h|h|h|h
  .simp[h]
  .simp[h]
  .simp at h
  .split at h
   .simp at h;rcases h with h|h<;>simp[h]
   .simp at h
  .simp[h]
  .split at h<;>simp[h]
  .simp[h]
  .split at h
   .simp at h;simp[h]
   .simp at h
 rcases hp' with rfl|rfl|rfl|rfl|rfl|rfl|rfl|rfl|rfl
 .refine⟨?_,?_,?_,?_,?_,?_,?_,?_⟩<;>simp only[dM,l9]<;>first|omega|simp<;>omega
 .refine⟨?_,?_,?_,?_,?_,?_,?_,?_⟩<;>simp only[dZ,jAc,l9]<;>first|omega|simp<;>omega
 .refine⟨?_,?_,?_,?_,?_,?_,?_,?_⟩<;>simp only[i6,jAc,l9]<;>first|omega|simp<;>omega
 .refine⟨?_,?_,?_,?_,?_,?_,?_,?_⟩<;>simp only[zDp,jAc,jB4]<;>first|omega|simp<;>omega
 .refine⟨?_,?_,?_,?_,?_,?_,?_,?_⟩<;>simp only[pF,jAc,jB4]<;>first|omega|simp<;>omega
 .refine⟨?_,?_,?_,?_,?_,?_,?_,?_⟩<;>simp only[zA8,jAc,jB4]<;>first|omega|simp<;>omega
 .refine⟨?_,?_,?_,?_,?_,?_,?_,?_⟩<;>simp only[pG,jAc,jB4]<;>first|omega|simp<;>omega
 .refine⟨?_,?_,?_,?_,?_,?_,?_,?_⟩<;>simp only[pT,jAc,jB4,jAb]<;>first|omega|simp<;>omega
 .refine⟨?_,?_,?_,?_,?_,?_,?_,?_⟩<;>simp only[pC,jAc,jB4]<;>first|omega|simp<;>omega
omit hm hm2 hl in
theorem bR:5<=(qD l mods).length/\(qD l mods).length<=8:=by unfold qD plB plC plD plE;split<;>split<;>simp
end
theorem iI{mods:Int}{ps:List Pln}(hm:0<=mods)(h6:∀p∈ps,p.types.length<=6):∀i:Nat,mods+ps.length<=bH mods ps i/\bH mods ps i<=mods+ps.length+6*i
 | 0=>by simp[bH]
 |i+1=>by
  have ih:=iI hm h6 i;simp only[bH];split
  .rename_i p hp;have:=h6 p (jBs hp);omega
  .omega
variable{mods:Int}{ps:List Pln}
theorem zNc{j:Nat}(h:i<=j):bH mods ps i<=bH mods ps j:=by
 induction h with
 |refl=>exact jCg _
 |step h ih =>
  simp only[bH];split
  .rename_i p _;have:=Int.natCast_nonneg p.types.length;omega
  .omega
def zGX(mods:Int)(ps:List Pln):wQ:=(pH mods ps).map Dfn.hd
@[simp]theorem zK3(mods:Int)(ps:List Pln):(zGX mods ps).length=ps.length:=by simp[zGX]
theorem mR(mods:Int)(ps:List Pln){k:Nat}(h:k<ps.length):(zGX mods ps)[k]'(by simpa using h)=⟨idR (mods+k),ps[k].kind,dO (bH mods ps k) ps[k],ps[k].out⟩:=by simp only[zGX,jB];rw[xZ mods ps h];rfl
theorem zBq{next:Int}{p:Pln}{s:Slt}(h:s∈dO next p):s.typ∈p.types:=by simp only[dO,jA9,jC6]at h;obtain⟨k,hk,rfl⟩:=h;simp only[zIm,jC5,jA2 hk,jBt];exact jA0 hk
theorem zIK(hm:1<=mods)(hm2:mods<=2)(hps:ps.length<=8)(h6:∀p∈ps,PlnOk mods p){k:Nat}(hk:k<ps.length)(hkd:ps[k].kind=0\/ps[k].kind=1){r:Nat}(ht:∀t∈ps[k].types,TyOk (zGX mods ps) r t) :
 TyOk (zGX mods ps) (r+1) (cO (idR (mods+k))):=by
 have hk':k<(zGX mods ps).length:=by simpa using hk
 have hg:=mR mods ps hk;have hp:=h6 _ (jA0 hk);have:=TyOk.dfn (hs:=zGX mods ps) r k hk' (fun j hj=>by
  rw[hg,mR mods ps (show j<ps.length by omega)];intro e;have:=tI (by omega) (by omega) (by omega) (by omega) e;omega) (by
  rw[hg];rcases hkd with h|h
  .exact .inl h
  .exact .inr ⟨h,by simp only[lY];exact hp.t1⟩) (by rw[hg];simp only[lY];exact hp.t6) (fun s hs=>by
  rw[hg]at hs;exact ht _ (zBq hs))
 rw[hg]at this;exact this
section
variable(l:wC)(mods:Int)(hm:1<=mods)(hm2:mods<=2)(hl:∀x∈l,w64 x=x)
abbrev hsV:wQ:=zGX mods (qD l mods)
theorem pv0:∃h:0<(qD l mods).length,(qD l mods)[0]=dM l mods:=⟨by simp[qD],by simp[qD]⟩
theorem pv1:∃h:1<(qD l mods).length,(qD l mods)[1]=dZ l mods:=⟨by simp[qD],by simp[qD]⟩
theorem pv2(hh:rD l=true):∃h:2<(qD l mods).length,(qD l mods)[2]=i6 l mods:=⟨by simp[qD,hh],by simp[qD,hh]⟩
theorem pv3(hh:rD l=true):∃h:3<(qD l mods).length,(qD l mods)[3]=zDp mods:=⟨by simp[qD,hh],by simp[qD,hh]⟩
include hm hm2 hl
theorem zC2:TyOk (hsV l mods) 2 (qU mods):=by
 obtain⟨h,e⟩:=pv0 l mods;have h8:=(bR l mods).2;have:=zIK hm hm2 h8 (eA l mods hm hm2 hl) h (by rw[e];exact .inl rfl) (r:=1) (fun t ht=>by
  rw[e]at ht;obtain⟨i,rfl⟩:=zEA ht;obtain⟨a,b⟩:=yZ (i:=3+i) hl (most:=3) (by omega);rcases zTv a b (qU mods) (qU mods)with e|e|e<;>rw[e]
  .exact .int _
  .exact .bool _
  .exact .list _ _ (.int _))
 simpa[qU]using this
theorem zTF{r:Nat}(hr:2<=r){x:Int}(h0:0<=x)(h:x<4):TyOk (hsV l mods) r (i8 x (qU mods) (qU mods)):=by
 refine TyOk.mono ?_ hr;rcases zTw h0 h (qU mods) (qU mods)with e|e|e|e<;>rw[e]
 .exact .int _
 .exact .bool _
 .exact .list _ _ (.int _)
 .exact zC2 l mods hm hm2 hl
theorem zLJ:TyOk (hsV l mods) 3 (eH mods):=by
 obtain⟨h,e⟩:=pv1 l mods;have h8:=(bR l mods).2;have:=zIK hm hm2 h8 (eA l mods hm hm2 hl) h (by rw[e];exact .inr rfl) (r:=2) (fun t ht=>by
  rw[e]at ht;rcases jA1.1 ht with rfl|ht
  .exact .int _
  .obtain⟨i,rfl⟩:=zEA ht;obtain⟨a,b⟩:=yZ (i:=7+i) hl (most:=4) (by omega);exact zTF l mods hm hm2 hl (jA _) a b)
 simpa[eH]using this
theorem sN(hh:rD l=true):TyOk (hsV l mods) 3 (cO (idR (mods+2))):=by
 obtain⟨h,e⟩:=pv2 l mods hh;have h8:=(bR l mods).2;have:=zIK hm hm2 h8 (eA l mods hm hm2 hl) h (by rw[e];exact .inl rfl) (r:=2) (fun t ht=>by
  rw[e]at ht;rcases jA1.1 ht with rfl|ht
  .exact .int _
  .obtain⟨i,rfl⟩:=zEA ht;obtain⟨a,b⟩:=yZ (i:=10+i) hl (most:=4) (by omega);exact zTF l mods hm hm2 hl (jA _) a b)
 simpa using this
theorem zTH:TyOk (hsV l mods) 3 (m8 l mods):=by
 unfold m8;split
 .rename_i hh;exact sN l mods hm hm2 hl hh
 .exact(zC2 l mods hm hm2 hl).mono (by omega)
theorem zTG(hh:rD l=true):TyOk (hsV l mods) 4 (cO (idR (mods+3))):=by
 obtain⟨h,e⟩:=pv3 l mods hh;have h8:=(bR l mods).2;have:=zIK hm hm2 h8 (eA l mods hm hm2 hl) h (by rw[e];exact .inl rfl) (r:=3) (fun t ht=>by
  rw[e]at ht;simp only[zDp,jA1,jAr,or_false]at ht;rcases ht with rfl|rfl|rfl
  .exact sN l mods hm hm2 hl hh
  .exact .list _ _ (.int _)
  .exact .int _)
 simpa using this
omit hm hm2 hl in
theorem zBu{a b:Typ}(ha:TyOk (hsV l mods) 4 a)(hb:TyOk (hsV l mods) 4 b){x:Int}(hx:w64 x=x):TyOk (hsV l mods) 4 (i8 x a b):=by
 rcases zNx x a b hx with e|e|e|e|e<;>rw[e]
 .exact .int _
 .exact .bool _
 .exact .list _ _ (.int _)
 .exact ha
 .exact hb
theorem zDq:∀p∈qD l mods,(∀t∈p.types,TyOk (hsV l mods) 4 t)/\TyOk (hsV l mods) 4 p.out:=by
 have t1:=(zC2 l mods hm hm2 hl).mono (show 2<=4 by omega);have t2:=(zLJ l mods hm hm2 hl).mono (show 3<=4 by omega);have t3:=(zTH l mods hm hm2 hl).mono (show 3<=4 by omega);have tR:TyOk (hsV l mods) 4 (zN2 l mods):=zBu l mods t1 t1 (zET hl (by omega) (by omega));have tL:∀(a m n:Int),0<m->m<=4->∀t∈tyL l a m n (qU mods),TyOk (hsV l mods) 4 t:=fun a m n h0 h1 t ht=>by obtain⟨i,rfl⟩:=zEA ht;exact zBu l mods t1 t1 (zET hl h0 (by omega))
 intro p hp;simp only[qD,plB,plC,plD,plE,jA6,jA1]at hp;rcases hp with ((rfl|rfl|h)|h)|rfl|h|rfl|h
 .exact⟨tL _ _ _ (by omega) (by omega),.int _⟩
 .refine⟨fun t ht=>?_,.int _⟩;rcases jA1.1 ht with rfl|ht
  .exact .int _
  .exact tL _ _ _ (by omega) (by omega) t ht
 .simp at h
 .split at h
  .rename_i hh;simp at h;rcases h with rfl|rfl
   .refine⟨fun t ht=>?_,.int _⟩;rcases jA1.1 ht with rfl|ht
    .exact .int _
    .exact tL _ _ _ (by omega) (by omega) t ht
   .refine⟨fun t ht=>?_,.int _⟩;simp only[zDp,jA1,jAr,or_false]at ht;rcases ht with rfl|rfl|rfl
    .exact(sN l mods hm hm2 hl hh).mono (by omega)
    .exact .list _ _ (.int _)
    .exact .int _
  .simp at h
 .refine⟨fun t ht=>?_,tR⟩;simp only[pF,tB,jA1]at ht;rcases ht with rfl|ht
  .exact zBu l mods t1 t2 (zET hl (by omega) (by omega))
  .split at ht
   .simp at ht;rw[ht];exact zBu l mods t1 t2 (zET hl (by omega) (by omega))
   .simp at ht
 .split at h
  .rename_i hh;subst h;refine⟨fun t ht=>?_,zTG l mods hm hm2 hl hh⟩;simp only[zA8,jA1,jAr,or_false]at ht;rcases ht with rfl|rfl
   .exact(sN l mods hm hm2 hl hh).mono (by omega)
   .exact t2
  .subst h;refine⟨fun t ht=>?_,zBu l mods t1 t2 (zET hl (by omega) (by omega))⟩;simp only[pG,jA1,jAr,or_false]at ht;rw[ht];exact t2
 .refine⟨fun t ht=>?_,zBu l mods t1 tR (zET hl (by omega) (by omega))⟩;simp only[pT,jA9]at ht;obtain⟨q,hq,rfl⟩:=ht;simp only[inV,jA1]at hq;rcases hq with rfl|hq
  .unfold zZp;split
   .exact .bool _
   .split
    .exact .list _ _ (.int _)
    .split
     .exact t1
     .exact .int _
  .unfold zS5 at hq;split at hq
   .simp at hq;rw[hq];exact .int _
   .split at hq
    .simp at hq;rw[hq];exact .bool _
    .simp at hq
 .split at h
  .simp at h;subst h;refine⟨fun t ht=>?_,zBu l mods t1 t3 (zET hl (by omega) (by omega))⟩;simp only[pC,jA1,jAr,or_false]at ht;rw[ht];exact t3
  .simp at h
theorem cxV(m:Mk)(hd:m.defs.map Dfn.hd=hsV l mods)(hmods:0<m.mods.length)(hml:m.l=l)(ho:m.own<=1000):Cx (hsV l mods) 4 m:=by
 obtain⟨n5,n8⟩:=bR l mods;refine⟨hd,by simp;omega,by simp;omega,hmods,hml▸hl,ho,fun k h hk=>?_,fun k h=>?_⟩
 .have h':k<(qD l mods).length:=by simpa using h
  have hg:=mR mods (qD l mods) h';rw[hg]at hk ⊢;have hpt:=zDq l mods hm hm2 hl _ (jA0 h');have hk4:k<2\/rD l=true/\k<4:=by
   by_cases h2:k<2
   .exact .inl h2
   cases hh:rD l with
   |true =>
    refine .inr ⟨rfl,?_⟩;by_cases h4:k<4
    .exact h4
    .exfalso;have hmem:(qD l mods)[k]∈plB l mods:=by
      have e:qD l mods=[dM l mods,dZ l mods,i6 l mods,zDp mods]++plB l mods:=by simp[qD,hh]
      simp only[e];rw[jCo (by simp;omega)];exact jA0 _
     simp only[plB,plC,plD,plE,jA1]at hmem;rcases hmem with e|e|e|e
     .rw[e]at hk;simp[pF]at hk
     .rw[e]at hk;split at hk<;>simp[zA8,pG]at hk
     .rw[e]at hk;simp[pT]at hk
     .split at e
      .simp at e;rw[e]at hk;simp[pC]at hk
      .simp at e
   |false =>
    exfalso;have hmem:(qD l mods)[k]∈plB l mods:=by
     have e:qD l mods=[dM l mods,dZ l mods]++plB l mods:=by simp[qD,hh]
     simp only[e];rw[jCo (by simp;omega)];exact jA0 _
    simp only[plB,plC,plD,plE,jA1]at hmem;rcases hmem with e|e|e|e
    .rw[e]at hk;simp[pF]at hk
    .rw[e]at hk;split at hk<;>simp[zA8,pG]at hk
    .rw[e]at hk;simp[pT]at hk
    .split at e
     .simp at e;rw[e]at hk;simp[pC]at hk
     .simp at e
  have hc:k=0\/k=1\/(rD l=true/\k=2)\/(rD l=true/\k=3):=by
   rcases hk4 with h|⟨h,h'⟩
   .omega
   .have:k=0\/k=1\/k=2\/k=3:=by omega
    rcases this with e|e|e|e
    .exact .inl e
    .exact .inr (.inl e)
    .exact .inr (.inr (.inl ⟨h,e⟩))
    .exact .inr (.inr (.inr ⟨h,e⟩))
  rcases hc with rfl|rfl|⟨hh,rfl⟩|⟨hh,rfl⟩
  .have:=(zC2 l mods hm hm2 hl).mono (show 2<=4 by omega)
   simpa[qU]using this
  .have:=(zLJ l mods hm hm2 hl).mono (show 3<=4 by omega)
   simpa[eH]using this
  .exact(sN l mods hm hm2 hl hh).mono (by omega)
  .exact zTG l mods hm hm2 hl hh
 .have h':k<(qD l mods).length:=by simpa using h
  have hg:=mR mods (qD l mods) h';have hpt:=zDq l mods hm hm2 hl _ (jA0 h');rw[hg];exact⟨by simp only[lY];exact(eA l mods hm hm2 hl _ (jA0 h')).t6,fun s hs=>hpt.1 _ (zBq hs)⟩
end
end Go.Proofs.YtolkhapmieigcaaGreatDoor
namespace Go.Proofs.YtolkhapmieigcaaGreatDoor
open Go.Abs
theorem zTs{α:Type}(I:Nat->α->Prop)(S:Nat->α->α->Prop)(a0 : α)(h0:I 0 a0):∀n:Nat,(∀i<n,∀a,I i a->∃b,I (i+1) b/\S i a b)->∃f:Nat->α,f 0=a0/\(∀i≤n,I i (f i))/\∀i<n,S i (f i) (f (i+1))
 | 0,_=>⟨fun _=>a0,rfl,(fun i hi=>by
  obtain rfl:i=0:=by omega
  exact h0),fun i hi=>by omega⟩
 |n+1,h=>by
  obtain⟨f,f0,f1,f2⟩:=zTs I S a0 h0 n fun i hi=>h i (by omega)
  obtain⟨b,b1,b2⟩:=h n (by omega) (f n) (f1 n (jA _));refine⟨fun i=>if i<=n then f i else b,by simp[f0],fun i hi=>?_,fun i hi=>?_⟩
  .by_cases e:i<=n
   .simp only[e,if_true];exact f1 i e
   .obtain rfl:i=n+1:=by omega
    simp only[show ¬n+1<=n by omega,if_false];exact b1
  .by_cases e:i=n
   .subst e;simp only[jA,if_true,show ¬i+1<=i by omega,if_false];exact b2
   .simp only[show i<=n by omega,show i+1<=n by omega,if_true];exact f2 i (by omega)
def Dfn.wb(d:Dfn)(e:Exp):Dfn:={d with body:=e}
@[simp]theorem Dfn.hd_wb(d:Dfn)(e:Exp):(d.wb e).hd=d.hd:=rfl
def cN(d:Dfn):wJ:=d.slots.map fun s=>⟨s.id,0,s.typ⟩
@[simp]theorem vK(d:Dfn):(cN d).length=d.slots.length:=by simp[cN]
@[simp]theorem zU8(d:Dfn)(e:Exp):cN (d.wb e)=cN d:=rfl
def mkA(m:Mk)(i:Nat)(d:Dfn):Mk:={m with own:=i,home:=d.mod,left:=14,name:=0}
def mkD(m:Mk)(i:Nat)(d:Dfn):Mk:={m with defs:=m.defs.set i d}
def mkL(m:Mk):Mk:={m with left:=0}
theorem zAc{ds:wS}{i:Nat}{d:Dfn}(h:ds[i]?=some d)(e:Exp):(ds.set i (d.wb e)).map Dfn.hd=ds.map Dfn.hd:=by
 apply jCi;intro j;rw[jBi,jBi];by_cases hj:j=i
 .subst hj;rw[jAo (jA5.1 h).1,h];rfl
 .rw[jAh (Ne.symm hj)]
def zNC(i:Nat)(m m':Mk):Prop:=∃d,m.defs[i]?=some d /\
 ((d.kind=0\/d.kind=1)/\m'=m \/
  (d.kind≠0/\d.kind≠1)/\∃(e1:Exp) (m1:Mk),my bG [.ptr 0 0,.agg (zF d.res),.sl (cN d).length (z6 (cN d)),int 4] (mkS (mkA m i d)) (.agg (zG e1)) (mkS m1)/\m1.defs=m.defs/\m1.mods=m.mods/\(tmps e1).length<=1000000000 /\
   ((tmps e1).length<=30/\m'=mkD m1 i (d.wb e1) \/
    30<(tmps e1).length/\∃(e2:Exp) (m2:Mk),my bG [.ptr 0 0,.agg (zF d.res),.sl (cN d).length (z6 (cN d)),int 0] (mkS (mkL (mkD m1 i (d.wb e1)))) (.agg (zG e2)) (mkS m2)/\m2.defs=m.defs.set i (d.wb e1)/\m2.mods=m.mods /\
     m'=mkD m2 i (d.wb e2)))
structure BGood(hs:List Hd)(k:Nat)(d:Dfn)(lo hi:Int)(e:Exp):Prop where
 wt:WT hs k (cN d) e d.res
 seg:Seg lo hi (tmps e)
 num:e.num0
 len:(tmps e).length<=32768
def zNB(hs:wQ)(i:Nat)(m m':Mk):Prop:=∃d,m.defs[i]?=some d/\m.temp<=m'.temp /\
 ((d.kind=0\/d.kind=1)/\m'.defs=m.defs\/(d.kind≠0/\d.kind≠1)/\∃e,m'.defs=m.defs.set i (d.wb e)/\BGood hs i d m.temp m'.temp e)
structure BInv(l:List Int)(mods:Int)(i:Nat)(m:Mk):Prop where
 heads:m.defs.map Dfn.hd=hsV l mods
 mods:m.mods=zCg mods (qD l mods)
 l:m.l=l
 at0:0<=m.at_
 at1:m.at_<=24+i*200000000
 temp0:0<=m.temp
 temp1:m.temp<=i*200000000
theorem zOF{a b:Int}{l:wC}(h:Seg a b l)(hab:a<=b):(l.length:Int)<=b-a:=by
 have hp:(l.map fun x=>(x-a).toNat).Nodup:=by rw[jDu,jC];refine List.Pairwise.imp_of_mem (fun {x y} hx hy hne=>?_) (jDu.1 h.nd);have:=h.rng x hx;have:=h.rng y hy;intro e;exact hne (by omega)
 have hs:(l.map fun x=>(x-a).toNat)⊆List.range (b-a).toNat:=fun n hn=>by obtain⟨x,hx,rfl⟩:=jA9.1 hn;have:=h.rng x hx;rw[jC6];omega
 have:=hp.length_le_of_subset hs;rw[jAb,List.length_range]at this;omega
section
variable{l:wC}{mods:Int}(hm:1<=mods)(hm2:mods<=2)(hl:∀x∈l,w64 x=x)
include hm hm2 hl
theorem zAU{i:Nat}{d:Dfn}(h:(hsV l mods)[i]?=some d.hd)(temp:Int):EnvOk (hsV l mods) 4 temp (cN d)/\1<=(cN d).length/\(cN d).length<=6/\TyOk (hsV l mods) 4 d.res:=by
 obtain⟨hi,he⟩:=jA5.1 h;have hi':i<(qD l mods).length:=by simpa using hi
 rw[mR mods (qD l mods) hi']at he;have hp:=eA l mods hm hm2 hl _ (jA0 hi');have ht:=zDq l mods hm hm2 hl _ (jA0 hi');obtain⟨n1,n2⟩:=iI (show 0<=mods by omega) (fun p hp=>(eA l mods hm hm2 hl p hp).t6) i;have n8:=(bR l mods).2;have eS:d.slots=dO (bH mods (qD l mods) i) (qD l mods)[i]:=by have:=congrArg Hd.slots he;exact this.symm
 have eR:d.res=(qD l mods)[i].out:=by have:=congrArg Hd.res he;exact this.symm
 generalize (qD l mods)[i]=p at *
 generalize bH mods (qD l mods) i=nx at *
 refine⟨⟨fun b hb=>?_,?_,fun b hb h0=>?_⟩,by simp only[vK,eS,lY];exact hp.t1,by simp only[vK,eS,lY];exact hp.t6,by rw[eR];exact ht.2⟩
 .simp only[cN,jA9]at hb;obtain⟨s,hs,rfl⟩:=hb;rw[eS]at hs;exact ht.1 _ (zBq hs)
 .simp only[cN,eS,dO,jBy];rw[jC];refine List.Pairwise.imp_of_mem (fun {a b} ha hb hlt=>?_) List.pairwise_lt_range;rw[jC6]at ha hb;have:=hp.t6;intro e;have:=tI (by omega) (by omega) (by omega) (by omega) e.1;omega
 .exfalso;simp only[cN,jA9]at hb;obtain⟨s,hs,rfl⟩:=hb;rw[eS]at hs;simp only[dO,jA9,jC6]at hs;obtain⟨k,hk,rfl⟩:=hs;have:=hp.t6;have:=zXd (k:=nx+k) (by omega) (by omega);simp only[zIm]at h0;omega
theorem zUj(i:Nat)(hi:i<(qD l mods).length)(m:Mk)(h:BInv l mods i m):∃m',BInv l mods (i+1) m'/\zNC i m m'/\zNB (hsV l mods) i m m':=by
 have hlen:m.defs.length=(qD l mods).length:=by have:=congrArg List.length h.heads;simpa using this
 have n8:=(bR l mods).2;obtain⟨d,hd⟩:∃d,m.defs[i]?=some d:=⟨m.defs[i]'(by omega),by simp⟩;have hhd:(hsV l mods)[i]?=some d.hd:=by rw[<-h.heads,jBi,hd];rfl
 by_cases hk:d.kind=0\/d.kind=1
 .refine⟨m,⟨h.heads,h.mods,h.l,h.at0,by have:=h.at1;omega,h.temp0,by have:=h.temp1;omega⟩,⟨d,hd,.inl ⟨hk,rfl⟩⟩,⟨d,hd,jCg _,.inl ⟨hk,rfl⟩⟩⟩
 have hk':d.kind≠0/\d.kind≠1:=⟨fun e=>hk (.inl e),fun e=>hk (.inr e)⟩;have hmne:0<m.mods.length:=by rw[h.mods];simp[zCg]
 have h89:(8:Int) ^ (4+4+1)=134217728:=by decide
 have h85:(8:Int) ^ (0+4+1)=32768:=by decide
 obtain⟨k4,_⟩:=zFy (hsV l mods) 4 (by omega) (by omega) 4 (by omega);obtain⟨k0,_⟩:=zFy (hsV l mods) 4 (by omega) (by omega) 0 (by omega);rw[h89]at k4;rw[h85]at k0;obtain⟨at0,at1,tp0,tp1⟩:=(⟨h.at0,h.at1,h.temp0,h.temp1⟩:_/\_/\_/\_);have hi8:(i:Int)<=8:=by omega
 obtain⟨eo,e1,e6,et⟩:=zAU hm hm2 hl hhd (mkA m i d).temp;have cA:Cx (hsV l mods) 4 (mkA m i d):=cxV l mods hm hm2 hl _ h.heads hmne h.l (by simp only[mkA];omega);have lA:Lim (mkA m i d) 134217728:=⟨at0,by simp only[mkA];omega,tp0,by simp only[mkA];omega,by simp only[mkA];omega,by simp only[mkA];omega,by simp only[mkA];omega,by simp only[mkA];omega⟩;obtain⟨x1,m1,g1,g2,g3,g4,g5⟩:=k4 (mkA m i d) 4 d.res (cN d) cA lA et (jA _) eo e1 (by omega);have htA:(mkA m i d).temp=m.temp:=rfl;have sl1:=zOF g4 g2.temp1;rw[htA]at sl1 g4;have a1:m.at_<=m1.at_:=g2.at1;have a2:m1.at_<=m.at_+134217728:=g2.at2;have b1:m.temp<=m1.temp:=g2.temp1;have b2:m1.temp<=m.temp+134217728:=g2.temp2;have dd:m1.defs=m.defs:=g2.defs;have dm:m1.mods=m.mods:=g2.mods;have dl:m1.l=m.l:=g2.l;by_cases h30:(tmps x1).length<=30
 .refine⟨mkD m1 i (d.wb x1),⟨?_,dm.trans h.mods,dl.trans h.l,by simp only[mkD];omega,by simp only[mkD];omega,by simp only[mkD];omega,by simp only[mkD];omega⟩,⟨d,hd,.inr ⟨hk',x1,m1,g1,dd,dm,by omega,.inl ⟨h30,rfl⟩⟩⟩,⟨d,hd,b1,.inr ⟨hk',x1,?_,g3,g4,g5,by omega⟩⟩⟩
  .simp only[mkD,dd];rw[zAc hd];exact h.heads
  .simp only[mkD,dd]
 .have cB:Cx (hsV l mods) 4 (mkL (mkD m1 i (d.wb x1))):=cxV l mods hm hm2 hl _ (by simp only[mkL,mkD,dd];rw[zAc hd];exact h.heads) (by simp only[mkL,mkD,dm];exact hmne) (dl.trans h.l) (by
   have:m1.own=i:=g2.own;simp only[mkL,mkD];omega)
  have nm:m1.name<=134217728:=by have:m1.name<=0+134217728:=g2.name2;omega
  have nm0:0<=m1.name:=g2.name1;have lB:Lim (mkL (mkD m1 i (d.wb x1))) 32768:=⟨by simp only[mkL,mkD];omega,by simp only[mkL,mkD];omega,by simp only[mkL,mkD];omega,by simp only[mkL,mkD];omega,by simp only[mkL,mkD];omega,by simp only[mkL,mkD];omega,nm0,by simp only[mkL,mkD];omega⟩;obtain⟨x2,m2,f1,f2,f3,f4,f5⟩:=k0 (mkL (mkD m1 i (d.wb x1))) 4 d.res (cN d) cB lB et (jA _) (zAU hm hm2 hl hhd _).1 e1 (by omega);have sl2:=zOF f4 f2.temp1;have p1:m1.at_<=m2.at_:=f2.at1;have p2:m2.at_<=m1.at_+32768:=f2.at2;have q1:m1.temp<=m2.temp:=f2.temp1;have q2:m2.temp<=m1.temp+32768:=f2.temp2;have dd2:m2.defs=m.defs.set i (d.wb x1):=by have:=f2.defs;rw[this];simp only[mkL,mkD,dd]
  have dm2:m2.mods=m.mods:=by have:=f2.mods;rw[this];simp only[mkL,mkD,dm]
  have dl2:m2.l=m.l:=by have:=f2.l;rw[this];simp only[mkL,mkD,dl]
  have hset:(m.defs.set i (d.wb x1)).set i (d.wb x2)=m.defs.set i (d.wb x2):=by rw[List.set_set]
  have o1:m1.own=i:=g2.own;have hwt:WT (hsV l mods) i (cN d) x2 d.res:=by have:(mkL (mkD m1 i (d.wb x1))).own=i:=o1;rw[this]at f3;exact f3
  have ht1:(mkL (mkD m1 i (d.wb x1))).temp=m1.temp:=rfl;rw[ht1]at f4 sl2;refine⟨mkD m2 i (d.wb x2),⟨?_,dm2.trans h.mods,dl2.trans h.l,by simp only[mkD];omega,by simp only[mkD];omega,by simp only[mkD];omega,by simp only[mkD];omega⟩,⟨d,hd,.inr ⟨hk',x1,m1,g1,dd,dm,by omega,.inr ⟨by omega,x2,m2,f1,dd2,dm2,rfl⟩⟩⟩,
   ⟨d,hd,by simp only[mkD];omega,.inr ⟨hk',x2,?_,hwt,f4.mono b1 (jCg _),f5,by omega⟩⟩⟩
  .simp only[mkD,dd2,hset];rw[zAc hd];exact h.heads
  .simp only[mkD,dd2,hset]
theorem zPd(m0:Mk)(h0:BInv l mods 0 m0):∃ms:Nat->Mk,ms 0=m0/\(∀i≤(qD l mods).length,BInv l mods i (ms i))/\∀i<(qD l mods).length,zNC i (ms i) (ms (i+1))/\zNB (hsV l mods) i (ms i) (ms (i+1)) :=
 zTs (BInv l mods) (fun i m m'=>zNC i m m'/\zNB (hsV l mods) i m m') m0 h0 _ fun i hi a ha=>by obtain⟨b,h1,h2⟩:=zUj hm hm2 hl i hi a ha;exact⟨b,h1,h2⟩
end
end Go.Proofs.YtolkhapmieigcaaGreatDoor
namespace Go.Abs
theorem zYU{P:Program}{KD:Env->Prop}{env:Env} {U:St}{d:wD}{f:FuncId}{args args':wF} {U0:St}{r:A}(h:Ret P f args U0 r U0)(js:wA)(hd:js.Nodup)(ho:bK U j6 (q9 js) js U0)(ha:dT js args' args)
 (hr:ren js U.length r=r)(hp:j7 U js (U0.map (fD js U.length)) = U)(hq:KD (env.put d r)):zC3 P U d KD f args' env:=by
 refine⟨r,cZ h js hd ho ha ?_,hq⟩;rw[hr,hp];simp
end Go.Abs
namespace Go.Proofs.YtolkhapmieigcaaGreatDoor
open Go.Abs
def m7:List Id->Int->List Int->wG
 |ids,_,[]=>ids
 |ids,next,c::cs=>m7 (ids.set c.toNat (idR next)) (next+1) cs
theorem zIj(c:Int):∀(cs:wC) (ids:wG) (next:Int),m7 ids next (cs++[c])=(m7 ids next cs).set c.toNat (idR (next+cs.length))
 |[],ids,next=>by simp[m7]
 |x::cs,ids,next=>by simp only[jBe,m7];rw[zIj c cs,jAc,show next+1+(cs.length:Int)=next+((cs.length+1:Nat):Int) by omega]
theorem zQ1{cs:wC}{k:Nat}(h:k<cs.length)(ids:wG)(next:Int):m7 ids next (cs.take (k+1))=(m7 ids next (cs.take k)).set cs[k].toNat (idR (next+k)):=by rw[jA7 h,zIj,jAv,jAx (by omega)]
@[simp]theorem zCu:∀(cs:wC) (ids:wG) (next:Int),(m7 ids next cs).length=ids.length
 |[],_,_=>rfl
 |_::cs,ids,next=>by simp only[m7];rw[zCu cs,jD]
theorem zGv{c:Nat}:∀(cs:wC) (ids:wG) (next:Int),(∀x∈cs,0<=x/\x≠c)->(m7 ids next cs)[c]?=ids[c]?
 |[],_,_,_=>rfl
 |x::cs,ids,next,h=>by simp only[m7];obtain⟨h1,h2⟩:=h x (by simp);rw[zGv cs _ _ (fun y hy=>h y (by simp[hy])),jAh (by omega)]
theorem zL2:∀(cs:wC) (ids:wG) (next:Int),cs.Nodup->(∀x∈cs,0<=x/\x<ids.length)->∀(k:Nat) (h:k<cs.length),rE (m7 ids next cs) cs[k]=idR (next+k)
 |[],_,_,_,_,k,h=>by simp at h
 |x::cs,ids,next,hn,hb,0,h=>by
  rw[jD9]at hn;obtain⟨h1,h2⟩:=hb x (by simp);obtain⟨n,rfl⟩:∃n:Nat,x=n:=⟨x.toNat,by omega⟩;have hne:∀y∈cs,0<=y/\y≠n:=fun y hy=>⟨(hb y (by simp[hy])).1,fun e=>hn.1 (e▸hy)⟩
  simp only[jD7,m7,rE,jCq,jC5];rw[zGv cs _ _ hne,jAo (by omega)];simp
 |x::cs,ids,next,hn,hb,k+1,h=>by rw[jD9]at hn;simp only[m7,jDv];have:=zL2 cs (ids.set x.toNat (idR next)) (next+1) hn.2 (fun y hy=>by rw[jD];exact hb y (by simp[hy])) k (by simpa using h);rw[this,show next+1+(k:Int)=next+((k+1:Nat):Int) by omega]
def dG(d:Dfn):Bool:=!(decide (d.kind=0)||decide (d.kind=1))
structure NSt where
 ds:List Dfn
 ids:List Id
 next:Int
def zFN(s:NSt)(i:Nat):NSt:=match s.ds[i]? with
 |some d=>if dG d then ⟨s.ds.set i (d.wb (eB (rE (m7 s.ids s.next (tmps d.body))) d.body)),m7 s.ids s.next (tmps d.body),s.next+(tmps d.body).length⟩ else s
 |none=>s
def dY(s:NSt):Nat->NSt
 | 0=>s
 |i+1=>zFN (dY s i) i
theorem vZ(s:NSt):∀i:Nat,(dY s i).ds.length=s.ds.length/\(dY s i).ids.length=s.ids.length
 | 0=>⟨rfl,rfl⟩
 |i+1=>by
  have ih:=vZ s i;simp only[dY,zFN];split
  .split
   .simp[ih]
   .exact ih
  .exact ih
theorem tP(s:NSt):∀(i j:Nat),i<=j->(dY s i).ds[j]?=s.ds[j]?
 | 0,j,_=>rfl
 |i+1,j,h=>by
  have ih:=tP s i j (by omega);simp only[dY,zFN];split
  .split
   .simp only;rw[jAh (by omega),ih]
   .exact ih
  .exact ih
theorem zDi(s:NSt){i:Nat}{d:Dfn}(hd:s.ds[i]?=some d):dY s (i+1)=if dG d then ⟨(dY s i).ds.set i (d.wb (eB (rE (m7 (dY s i).ids (dY s i).next (tmps d.body))) d.body)),m7 (dY s i).ids (dY s i).next (tmps d.body),(dY s i).next+(tmps d.body).length⟩ else dY s i:=by simp only[dY,zFN];rw[tP s i i (jA _),hd]
theorem zFL(s:NSt):∀i:Nat,(dY s i).ds.map Dfn.hd=s.ds.map Dfn.hd
 | 0=>rfl
 |i+1=>by
  have ih:=zFL s i;simp only[dY,zFN];split
  .rename_i d hd;split
   .simp only;rw[zAc hd,ih]
   .exact ih
  .exact ih
theorem zHP(s:NSt){i:Nat}:∀(j:Nat),i<j->(dY s j).ds[i]?=(dY s (i+1)).ds[i]?
 | 0,h=>by omega
 |j+1,h=>by
  by_cases e:i=j
  .rw[e]
  .have ih:=zHP s (i:=i) j (by omega);rw[<-ih];simp only[dY,zFN];split
   .split
    .simp only;rw[jAh (by omega)]
    .rfl
   .rfl
theorem xW{ds:wS}{i:Nat}(h:i<ds.length)(e:Exp):(zQ ds).take (i*31+14)++(zG e++(zQ ds).drop (i*31+14+15))=zQ (ds.set i (ds[i].wb e)):=by
 have hs:=zMj (ds[i].wb e) h;rw[<-hs];have hd:=yA h;have h1:(zQ ds).take (i*31+14)=(zQ ds).take (i*31)++(zJ ds[i]).take 14:=by rw[List.take_add,hd,jCe (by simp)]
 have h2:(zQ ds).drop (i*31+14+15)=(zJ ds[i]).drop 29++(zQ ds).drop (i*31+31):=by
  have h3:(zQ ds).drop (i*31+31)=zQ (ds.drop (i+1)):=by rw[<-jAu,hd,jDa (zSa _)]
  rw[h3,jBb,<-jAu,hd,List.drop_append_of_le_length (by simp)]
 rw[h1,h2,jAq]
 congr 1
end Go.Proofs.YtolkhapmieigcaaGreatDoor
namespace Go.Proofs.YtolkhapmieigcaaGreatDoor
open Go.Abs
def zWn:K:=(G [D 137 4 1,L 138 137 1,J 139 10 31,kd 140 42 31 1 kz0 [(0,31,(kt 139))],kP 141 42 31 352 138 140,D 142 4 1,S 142 141 1] (K.dops [(0,1,D 143 4 0),(1,1,L 144 143 1),(2,0,M 145 7),(3,0,M 146 9),(4,1,kX 147 145 146 11),(5,1,D 148 147 10),(6,1,L 149 148 1),(7,0,D 150 4 0),(8,0,L 151 150 1),(9,0,M 152 7),(10,0,M 153 9),(11,0,kX 154 152 153 11),(12,0,D 155 154 10),(13,0,L 156 155 1),(14,0,kX 157 151 156 6),(15,0,D 158 157 5),(16,0,L 159 158 1),(17,0,D 160 10 0),(18,0,J 161 160 3),(19,0,kd 162 32 3 1 [ki,ki,ki] [(0,3,(kt 161))]),(20,0,kP 163 32 3 24 159 162),(21,0,kX 164 144 149 6),(22,0,D 165 164 5),(23,0,S 165 163 1)]))
def zWm:K:=(G [M 213 13,M 214 14,kU 215 213,D 216 215 6,S 216 214 1] (G [M 217 13,D 218 15 4,J 219 218 3,kU 220 217,D 221 220 7,S 221 219 3] (G [M 222 13,kU 223 222,D 224 223 5,⟨none,.st none (kt 224) (kc 14) 1⟩] (G [M 225 13,kU 226 225,D 227 226 10,⟨none,.st none (kt 227) (kc 0) 1⟩] (Z (K.dops [(0,2,D 228 4 1),(1,4002,L 229 228 1),(2,0,M 230 14),(3,0,M 231 13),(4,0,D 232 15 9),(5,0,J 233 232 5),(6,0,M 234 16),(7,3002,kC 235 37 [(kt 231),(kt 233),(kt 234),(kc 4)]),(8,4002,kX 236 229 230 31),(9,4002,D 237 236 14),(10,0,S 237 235 15)]) (G [D 238 4 1,L 239 238 1,M 240 14,kX 241 239 240 31,D 242 241 14,J 243 242 15,kC 244 38 [(kt 243)],kBi 245 244 30 .gtr] (Y 245 (G [M 246 13,kU 247 246,D 248 247 5,⟨none,.st none (kt 248) (kc 0) 1⟩] (K.dops [(0,2,D 249 4 1),(1,4002,L 250 249 1),(2,0,M 251 14),(3,0,M 252 13),(4,0,D 253 15 9),(5,0,J 254 253 5),(6,0,M 255 16),(7,3002,kC 256 37 [(kt 252),(kt 254),(kt 255),(kc 0)]),(8,4002,kX 257 250 251 31),(9,4002,D 258 257 14),(10,0,S 258 256 15)])) ks)))))))
def zNG:K:=(G [M 259 13,kU 260 259,D 261 260 4,L 262 261 1,⟨none,.mop (some 263) (.mks 32 3 24 [ki,ki,ki]) [(kt 262),(kt 262)]⟩,M 18 263] (Z (G [kMi 19 0] (K.block 10 (K.loop (Z (G [M 264 19,D 265 4 1,L 266 265 1,kN 267 266,kB 268 264 267 .lss] (Y 268 ks (K.exit 10))) (Z (K.block 11 (Z (G [D 271 4 1,L 272 271 1,M 273 19,kX 274 272 273 31,D 275 274 3,L 276 275 1,kQi 277 276 0 false,M 278 277,T 278 false (D 279 4 1),T 278 false (L 280 279 1),T 278 false (M 281 19),T 278 false (kX 282 280 281 31),T 278 false (D 283 282 3),T 278 false (L 284 283 1),T 278 false (kQi 285 284 1 false),kPt 286 278 285] (Y 286 (K.exit 11) ks)) (G [D 287 4 1,L 288 287 1,M 289 19,kX 290 288 289 31,D 291 290 14,J 292 291 15,kC 293 39 [(kt 292),(.const kl)],M 20 293] (Z (G [kMi 21 0] (K.block 12 (K.loop (Z (G [M 294 21,M 295 20,kN 296 295,kB 297 294 296 .lss] (Y 297 ks (K.exit 12))) (Z (K.block 13 (Z (K.dops [(0,0,M 300 18),(1,0,M 301 20),(2,0,M 302 21),(3,0,kX 303 301 302 1),(4,0,L 304 303 1),(5,0,M 305 8),(6,0,kC 306 35 [(kt 305)]),(7,0,kX 307 300 304 3),(8,0,S 307 306 3)]) (K.ops [M 308 8,kBi 309 308 1 .add,M 8 309]))) (K.ops [M 298 21,kBi 299 298 1 .add,M 21 299])))))) (K.dops [(0,0,D 310 4 1),(1,0,L 311 310 1),(2,0,M 312 19),(3,0,D 313 4 1),(4,0,L 314 313 1),(5,0,M 315 19),(6,0,kX 316 314 315 31),(7,0,D 317 316 14),(8,0,J 318 317 15),(9,0,M 319 18),(10,0,kC 320 40 [(kt 318),(kt 319)]),(11,0,kX 321 311 312 31),(12,0,D 322 321 14),(13,0,S 322 320 15)]))))) (K.ops [M 269 19,kBi 270 269 1 .add,
 M 19 270])))))) (G [J 323 4 2,S 2 323 2] kr)))
def zNF:K:=(G [J 166 4 2,M 167 0,kb 168 [kl,kl,kl,ki,ki,ki,ki,ki,ki,ki,ki] [(0,2,(kt 166)),(2,1,(kt 167)),(3,1,(kc 24))],kO 169 168,M 13 169] (Z (G [kMi 14 0] (K.block 6 (K.loop (Z (G [M 170 14,D 171 4 1,L 172 171 1,kN 173 172,kB 174 170 173 .lss] (Y 174 ks (K.exit 6))) (Z (K.block 7 (G [D 177 4 1,L 178 177 1,M 179 14,kX 180 178 179 31,J 181 180 31,kZ 15 kz0,S 15 181 31] (Z (G [D 182 15 3,L 183 182 1,kQi 184 183 0 false,M 185 184,T 185 false (D 186 15 3),T 185 false (L 187 186 1),T 185 false (kQi 188 187 1 false),kPt 189 185 188] (Y 189 (K.exit 7) ks)) (G [kMn 16] (Z (G [kMi 17 0] (K.block 8 (K.loop (Z (G [M 190 17,D 191 15 8,L 192 191 1,kN 193 192,kB 194 190 193 .lss] (Y 194 ks (K.exit 8))) (Z (K.block 9 (K.dops [(0,0,M 197 16),(1,0,D 198 15 8),(2,0,L 199 198 1),(3,0,M 200 17),(4,0,kX 201 199 200 11),(5,0,D 202 201 0),(6,0,J 203 202 3),(7,0,D 204 15 8),(8,0,L 205 204 1),(9,0,M 206 17),(10,0,kX 207 205 206 11),(11,0,D 208 207 4),(12,0,J 209 208 5),(13,0,kb 210 kz7 [(0,3,(kt 203)),(4,5,(kt 209))]),(14,0,kd 211 101 9 1 kz7 [(0,9,(kt 210))]),(15,0,kP 212 101 9 88 197 211),(16,0,M 16 212)])) (K.ops [M 195 17,kBi 196 195 1 .add,M 17 196])))))) (K.wk zWm)))))) (K.ops [M 175 14,kBi 176 175 1 .add,M 14 176])))))) (K.wk zNG)))
def zRe:K:=(G [M 48 0,M 49 3,kC 50 36 [(kt 48),(kt 49)],M 7 50] (G [M 51 3,M 52 7,kN 53 52,kB 54 51 53 .add,M 8 54] (Z (G [kMi 9 0] (K.block 2 (K.loop (Z (G [M 55 9,M 56 7,kN 57 56,kB 58 55 57 .lss] (Y 58 ks (K.exit 2))) (Z (K.block 3 (Z (K.dops [(0,0,M 61 3),(1,0,M 62 9),(2,0,kB 63 61 62 .add),(3,1,kC 64 35 [(kt 63)]),(4,0,M 65 7),(5,0,M 66 9),(6,1,kX 67 65 66 11),(7,1,D 68 67 0),(8,1,L 69 68 1),(9,0,M 70 7),(10,0,M 71 9),(11,1,kX 72 70 71 11),(12,1,D 73 72 10),(13,1,L 74 73 1),(14,1,kC 75 35 [(kt 74)]),(15,0,M 76 7),(16,0,M 77 9),(17,1,kX 78 76 77 11),(18,1,D 79 78 1),(19,1,L 80 79 1),(20,0,M 81 7),(21,0,M 82 9),(22,1,kX 83 81 82 11),(23,1,D 84 83 5),(24,1,J 85 84 5),(25,0,kb 86 kz0 [(0,3,(kt 64)),(3,1,(kt 69)),(4,3,(kt 75)),(7,1,(kt 80)),(9,5,(kt 85))]),(26,0,kZ 10 kz0),(27,0,S 10 86 31)]) (Z (G [kMi 11 0] (K.block 4 (K.loop (Z (G [M 87 11,M 88 7,M 89 9,kX 90 88 89 11,D 91 90 2,L 92 91 1,kN 93 92,kB 94 87 93 .lss] (Y 94 ks (K.exit 4))) (Z (K.block 5 (Z (K.dops [(0,0,M 97 8),(1,1,kC 98 35 [(kt 97)]),(2,0,M 99 7),(3,0,M 100 9),(4,1,kX 101 99 100 11),(5,1,D 102 101 3),(6,1,L 103 102 1),(7,0,M 104 11),(8,1,kX 105 103 104 1),(9,1,L 106 105 1),(10,0,M 107 7),(11,0,M 108 9),(12,1,kX 109 107 108 11),(13,1,D 110 109 2),(14,1,L 111 110 1),(15,0,M 112 11),(16,1,kX 113 111 112 5),(17,1,J 114 113 5),(18,0,M 115 11),(19,0,kb 116 kz5 [(0,3,(kt 98)),(3,1,(kt 106)),(4,5,(kt 114)),(10,1,(kt 115))]),(20,0,kZ 12 kz5),(21,0,S 12 116 11)]) (Z (G [D 117 10 3,
 L 118 117 1,kQi 119 118 4 false] (Y 119 (K.ops [M 120 7,M 121 9,kX 122 120 121 11,D 123 122 4,L 124 123 1,M 125 11,kX 126 124 125 1,L 127 126 1,D 128 12 9,S 128 127 1]) ks)) (G [D 129 10 8,L 130 129 1,J 131 12 11,kd 132 74 11 1 kz5 [(0,11,(kt 131))],kP 133 74 11 112 130 132,D 134 10 8,S 134 133 1] (K.ops [M 135 8,kBi 136 135 1 .add,M 8 136]))))) (K.ops [M 95 11,kBi 96 95 1 .add,M 11 96])))))) (K.wk zWn)))) (K.ops [M 59 9,kBi 60 59 1 .add,M 9 60])))))) (K.wk zNF))))
def qDo:K:=G [kZ 2 [kl,kl]] (G [M 22 0,kC 23 34 [(kt 22),(kc 0),(kc 2)],⟨none,.bin (some 24) .add (kc 1) (kt 23)⟩,M 3 24] (G [kZ 4 [kl,kl]] (Z (G [kMi 5 0] (K.block 0 (K.loop (Z (G [M 25 5,M 26 3,kB 27 25 26 .lss] (Y 27 ks (K.exit 0))) (Z (K.block 1 (Z (K.dops [(0,0,M 30 5),(1,1,kC 31 35 [(kt 30)]),(2,0,⟨none,.bslice (some 32) 9 1 2 [(.string ⟨#[]⟩),(.string ⟨#[]⟩)] [(0,1,(.const (.string ⟨#[99,111,114,101]⟩))),(1,1,(.const (.string ⟨#[109,105,108,108]⟩)))]⟩),(3,0,M 33 5),(4,1,kX 34 32 33 1),(5,1,L 35 34 1),(6,0,kb 36 kz9 [(0,3,(kt 31)),(3,1,(kt 35))]),(7,0,kZ 6 kz9),(8,0,S 6 36 6)]) (Z (G [M 37 5,kQi 38 37 1 false] (Y 38 (K.ops [kC 39 35 [(kc 0)],kd 40 32 3 1 [ki,ki,ki] [(0,3,(kt 39))],D 41 6 4,S 41 40 1]) ks)) (K.ops [D 42 4 0,L 43 42 1,J 44 6 6,kd 45 91 6 1 kz9 [(0,6,(kt 44))],kP 46 91 6 88 43 45,D 47 4 0,S 47 46 1])))) (K.ops [M 28 5,kBi 29 28 1 .add,M 5 29])))))) (K.wk zRe))))
def qNN:Nat->Option wE:=fun|41=>k_ [2,4002,0,0,0,0,0,3002,4002,4002,0] | 44=>k_ [2,4002,0,0,0,0,0,3002,4002,4002,0] | 56=>k_ [0,0,0,0,0,0,0,0,0,0,0,0,0,0]|_=>none
theorem qLz:kx Tryz.f10 qNN qDo:=mz (by kernel_rfl)
abbrev zSq(p:Prg):=fin [RS.cell 2 2 true] (sP 0 (.agg (zI p)) [])
theorem qHj(m:Mk)(M:List Md)(next:Int)(N:Nat)(hN:m.temp=N)(hN1:N<=10000000000)(h0:0<=next)(h1:next<=1000000)(hd8:m.defs.length<=100)
 (hb:∀d∈m.defs,dG d=true->d.body.under N/\(∀c∈tmps d.body,0<=c/\c<N)/\(tmps d.body).length<=1000000) :
 wpK prog 0 zNG (zSq ⟨M,(dY ⟨m.defs,cJ N,next⟩ m.defs.length).ds⟩) (jO [(2,.ptr 2 0),(4,.ptr 3 0),(8,int next),(13,.ptr 0 0)])
  (mkS m++[.box [.nil,.nil],.box [.sl M.length (qA M),.row 1 m.defs.length]]):=by
 generalize hs:(⟨m.defs,cJ N,next⟩:NSt)=s;have hsd:s.ds=m.defs:=by rw[<-hs]
 have hsi:s.ids.length=N:=by rw[<-hs];simp[cJ]
 have hsn:s.next=next:=by rw[<-hs]
 have hz:=nH N;have hz2:s.ids=cJ N:=by rw[<-hs]
 have hnx:∀i≤m.defs.length,0<=(dY s i).next/\(dY s i).next<=1000000+1000000*i:=by
  intro i;induction i with
  |zero=>intro _;simp only[dY,hsn];omega
  |succ i ih =>
   intro hi;have ih:=ih (by omega);have hd:s.ds[i]?=some (m.defs[i]'(by omega)):=by rw[hsd,jA2 (by omega)]
   rw[zDi s hd];split
   .rename_i hbd;have:=(hb _ (jA0 (by omega)) hbd).2.2;simp only;omega
   .omega
 have h24:24*N<=281474976710656:=by omega
 unfold zNG;simp[mkS,mkB,hN,h24];refine⟨by omega,?_⟩;refine qI (S:=Nat) (fun i=>[(2,.ptr 0 0),(4,.ptr 1 0),(8,int (dY s i).next),(18,.row 3 N),(19,int i)])
  (fun i=>[.box [.nil,.nil],.box [.sl M.length (qA M),.row 2 m.defs.length],.row false 42 31 m.defs.length (zQ (dY s i).ds),.row false 32 3 N (zY (dY s i).ids)]) (fun i=>i<=m.defs.length) (fun i=>m.defs.length-i) 0 (by simp)
  (kf [2,3,1,4] 0 (by rfl) (by simp[dY,hsd,hz2,<-hz]) (by simp[dY,hsn])) ?_
 intro i hi;by_cases h:i<m.defs.length
 .have hd:s.ds[i]?=some m.defs[i]:=by rw[hsd,jA2 (by omega)]
  have hst:=zDi s hd;have hcur:(dY s i).ds[i]?=some m.defs[i]:=by rw[tP s i i (jA _)];exact hd
  obtain⟨hlt,hce⟩:=jA5.1 hcur;obtain⟨hl1,hl2⟩:=vZ s i;have hbd:=hb _ (jA0 h);obtain⟨nx0,nx1⟩:=hnx i hi;have hw:=xW hlt (eB (rE (m7 (dY s i).ids (dY s i).next (tmps m.defs[i].body))) m.defs[i].body);have hdr:=yA hlt;rw[hce]at hw hdr;have hi8:(i:Int)<=100:=by omega
  have wi:=yK i (by omega);rw[hsd]at hl1;rw[hsi]at hl2;generalize hse:dY s (i+1)=s' at hst;generalize hte:dY s i=t at *
  generalize m.defs[i]=d at *
  have hb3:i*31+3+1<=m.defs.length*31:=by omega
  have hb14:i*31+14+15<=m.defs.length*31:=by omega
  have hdr3:List.drop (i*31+3) (zQ t.ds)=(zJ d++zQ (t.ds.drop (i+1))).drop 3:=by rw[<-jAu,hdr]
  have hdr14:List.drop (i*31+14) (zQ t.ds)=(zJ d++zQ (t.ds.drop (i+1))).drop 14:=by rw[<-jAu,hdr]
  have henc:zJ d=(zJ d).take 14++zG d.body++[.lit (.int .i64 d.place),.sl d.lay.length (yJ d.lay)]:=rfl;by_cases hk0:d.kind=0
  .have hbf:dG d=false:=by simp[dG,hk0]
   rw[hbf]at hst;simp only[jAg,if_false]at hst;subst hst;simp[h,hdr3,hb3,hl1,zJ,hk0];exact zO (i+1) h (by omega) (mw [0,1,2,3] 0 (by rfl) (by simp[hse,wi]))
  .by_cases hk1:d.kind=1
   .have hbf:dG d=false:=by simp[dG,hk1]
    rw[hbf]at hst;simp only[jAg,if_false]at hst;subst hst;simp[h,hdr3,hb3,hl1,zJ,hk1];exact zO (i+1) h (by omega) (mw [0,1,2,3] 0 (by rfl) (by simp[hse,wi]))
   .have hbf:dG d=true:=by simp[dG,hk0,hk1]
    rw[hbf]at hst;simp only[if_true]at hst;obtain⟨bu,bc,bl⟩:=hbd hbf;have hnum:=zNe d.body (by omega);simp[h,hdr3,hb3,hl1,zJ,hk0,hk1,hdr14,hb14];refine mr hnum [] (by simp[zG]) ?_;generalize hO:tmps d.body=O at *
    simp[lV];refine qI (S:=Nat) (fun k=>[(2,.ptr 0 0),(4,.ptr 1 0),(8,int (t.next+k)),(18,.row 3 N),(19,int i),(20,.row 4 O.length),(21,int k)])
     (fun k=>[.box [.nil,.nil],.box [.sl M.length (qA M),.row 2 m.defs.length],.row false 42 31 m.defs.length (zQ t.ds),.row false 32 3 N (zY (m7 t.ids t.next (O.take k))),lV O]) (fun k=>k<=O.length) (fun k=>O.length-k) 0 (by simp)
     (mw [0,1,2,3,4] 0 (by rfl) (by simp[lV,m7])) ?_
    intro k hk;by_cases hkl:k<O.length
    .obtain⟨hc0,hc1⟩:=bc O[k] (jA0 hkl);obtain⟨c,hc⟩:∃c:Nat,O[k]=c:=⟨O[k].toNat,by omega⟩;have hod:=zAe hkl;rw[hc]at hod hc1;have hcN:c<N:=by omega
     have hst2:=zQ1 hkl t.ids t.next;rw[hc]at hst2;have hsl:(m7 t.ids t.next (O.take k)).length=N:=by rw[zCu];exact hl2
     have hset:=sT (R:=m7 t.ids t.next (O.take k)) (k:=c) (idR (t.next+k)) (by omega);have wk1:=yK k (by omega);have wk2:=qF (t.next+(k:Int)+1) (by omega);have hb3c:c*3+3<=N*3:=by omega
     have hkl':k+1<=O.length:=hkl;simp[lV,hkl,hkl',hod];refine qC (uL (t.next+k)) (by simp) (by simp) ?_;simp[zS,hcN,hsl,hb3c];exact zO (k+1) hkl (by omega) (kf [0,1,2,3,4] 0 (by rfl) (by simp[lV,hst2,<-hset,zS]) (by simp[wk1,wk2];omega))
    .have hke:k=O.length:=by omega
     subst hke;have hren:=zGm (m7 t.ids t.next O) d.body (by rw[zCu,hl2];exact bu);have hsl:(m7 t.ids t.next O).length=N:=by rw[zCu];exact hl2
     unfold a7 at hren;rw[hsl]at hren;rw[jAs];simp[lV,h,hl1,hdr14,hb14,zJ];refine zYU hren [3] (by simp) (by simp) (by simp[zG]) (by simp) (by simp) ?_;simp[h,hl1,hb14];exact zO (i+1) h (by omega) (kf [0,1,2,3] 0 (by rfl) (by simp[hse,hst,<-hw]) (by simp[wi,hse,hst]))
 .have hie:i=m.defs.length:=by omega
  subst hie;obtain⟨hl1,hl2⟩:=vZ s m.defs.length;rw[hsd]at hl1;simp;exact zB 1 (by simp[zI,hl1])
end Go.Proofs.YtolkhapmieigcaaGreatDoor
namespace Go.Abs
section
variable{d:wD}{x i:Operand}{n f:Nat}{g:Bool}{env:Env}{l:List Operand}
@[simp]theorem qBY(h1:4000<=f):dD f (.ld d x n g) env=eX (f-4000) (ev env x):=propext (zL9 h1)
@[simp]theorem qAl(h1:4000<=f):dD f (.idx d x i n) env=isRow (ev env x):=propext (zIq h1)
@[simp]theorem qBX{o:Nat}(h1:6<f):dD f (.addr d x o) env=True:=by
 unfold dD;split
 .omega
 .omega
 .split
  .rfl
  .split
   .rfl
   .split<;>rfl
@[simp]theorem qAk(h1:6<f):dD f (.call d x l) env=True:=by
 unfold dD;split
 .omega
 .omega
 .split
  .rfl
  .split
   .rfl
   .split<;>rfl
@[simp]theorem qKc{U:St}(h1:2<f):oW f U = U:=by unfold oW;rw[if_neg (by omega),if_neg (by omega)]
end
theorem zXA{a a' x x' y y' z z':wF}{fz fz':Bool}{e:TypeId}{s n:Nat}{cs cs':wF}:zGN [.box a,.row fz e s n cs,.box x,.box y,.box z] [.box a',.row fz' e s n cs',.box x',.box y',.box z']:=by
 intro l f e2 s2 n2 c2 h
 match l,h with
 | 0,h=>simp at h
 | 1,h =>
  simp at h;obtain⟨rfl,rfl,rfl,rfl,rfl⟩:=h;exact⟨fz',cs',rfl⟩
 | 2,h=>simp at h
 | 3,h=>simp at h
 | 4,h=>simp at h
 |n+5,h=>simp at h
end Go.Abs
namespace Go.Proofs.YtolkhapmieigcaaGreatDoor
open Go.Abs
theorem zSd{d:Dfn}{j:Nat}(h:j<d.slots.length):(cN d)[j]'(by simpa using h)=⟨d.slots[j].id,0,d.slots[j].typ⟩:=by simp[cN]
theorem qHi(l:wC)(M:List Md)(n:Nat)(hn:n<=100)(next:Int)(m0:Mk)(hm0:m0={mods:=M,defs:=m0.defs,l:=l,at_:=24,temp:=0,left:=0,own:=0,home:=Id.zero,name:=0})(ms:Nat->Mk)(h0:ms 0=m0)
 (hlen:∀i≤n,(ms i).defs.length=n)(hsl:∀i≤n,∀d∈(ms i).defs,d.slots.length<=6)(hst:∀i<n,zNC i (ms i) (ms (i+1)))(p:Prg)
 (hD:wpK prog 0 zNG (zSq p) (jO [(2,.ptr 2 0),(4,.ptr 3 0),(8,int next),(13,.ptr 0 0)]) (mkS (ms n)++[.box [.nil,.nil],.box [.sl M.length (qA M),.row 1 (ms n).defs.length]])) :
 wpK prog 0 zNF (zSq p) (jO [(0,.sl l.length (aQ l)),(2,.ptr 0 0),(4,.ptr 1 0),(8,int next)])
  [.box [.nil,.nil],.box [.sl M.length (qA M),.row 2 n],.row false 42 31 n (zQ m0.defs)]:=by
 have hl0:=hlen 0 (by omega);rw[h0]at hl0;have e0:mkS m0=[.box [.sl M.length (qA M),.row 1 n,.sl l.length (aQ l),int 24,int 0,int 0,int 0,int 0,int 0,int 0,int 0],.row false 42 31 n (zQ m0.defs)]:=by rw[hm0];simp[mkS,mkB,Id.zero,hl0]
 unfold zNF;simp;refine qI (S:=Nat) (fun i=>[(2,.ptr 2 0),(4,.ptr 3 0),(8,int next),(13,.ptr 0 0),(14,int i)])
  (fun i=>mkS (ms i)++[.box [.nil,.nil],.box [.sl M.length (qA M),.row 1 n]]) (fun i=>i<=n) (fun i=>n-i) 0 (by simp)
  (mw [3,2,0,1] 0 (by rfl) (by simp[h0,e0])) ?_
 intro i hi;by_cases h:i<n
 .obtain⟨d,hd,hcase⟩:=hst i h;obtain⟨hlt,hce⟩:=jA5.1 hd;have hli:=hlen i hi;have hd6:=hsl i hi d (hce▸jA0 hlt);generalize hms':ms (i+1)=m' at hcase;generalize hms:ms i=m at *
  have hdr:=yA hlt;have hi8:(i:Int)<=100:=by omega
  have wi:=yK i (by omega);rw[hce]at hdr;have hb31:i*31+31<=n*31:=by omega
  rcases hcase with ⟨hk,hm'⟩|⟨⟨hk0,hk1⟩,e1,m1,g1,gd,gm,gl,hcase⟩
  .subst hm';rcases hk with hk|hk
   all_goals
    simp[mkS,mkB,h,hdr,hb31,hli,zJ,hk];exact zO (i+1) h (by omega) (mw [0,1,2,3] 0 (by rfl) (by simp[mkS,mkB,hms',hli,wi]))
  .simp[mkS,mkB,h,hdr,hb31,hli,zJ,hk0,hk1];refine qI (S:=Nat) (fun j=>[(2,.ptr 2 0),(4,.ptr 3 0),(8,int next),(13,.ptr 0 0),(14,int i),(15,.ptr 4 0),(16,.row 5 j),(17,int j)])
    (fun j=>mkS m++[.box [.nil,.nil],.box [.sl M.length (qA M),.row 1 n],.box (zJ d),.row false 101 9 j (z6 ((cN d).take j))]) (fun j=>j<=d.slots.length) (fun j=>d.slots.length-j) 0 (by simp)
    ((jS (t:=16) (by simp) 101 9).trans (mw [0,1,2,3,4,5] 0 (by rfl) (by simp[mkS,mkB,zJ,hli]))) ?_
   intro j hj;by_cases hjl:j<d.slots.length
   .have hdS0:List.drop (j*11) (qP d.slots)=aF d.slots[j]++qP (d.slots.drop (j+1)):=qW hjl;have hdS:List.drop (j*11+4) (qP d.slots)=(aF d.slots[j]++qP (d.slots.drop (j+1))).drop 4:=by rw[<-jAu,hdS0]
    have hbS:j*11+4+5<=d.slots.length*11:=by omega
    have hbS3:j*11+3<=d.slots.length*11:=by omega
    have hst2:=zCG (l:=cN d) (i:=j) (by simpa using hjl);rw[zSd hjl]at hst2;have wj:=yK j (by omega);simp[mkS,mkB,zJ,hjl,hdS0,hdS,hbS,hbS3,aF];intro _;refine⟨⟨by simp[maxLen];omega,by omega⟩,?_⟩;exact zO (j+1) hjl (by omega) (mw [0,1,2,3,4,5] 0 (by rfl) (by simp[mkS,mkB,zJ,hst2,cQ,wj]))
   .have hje:j=d.slots.length:=by omega
    subst hje;have hall:(cN d).take d.slots.length=cN d:=jAl (by simp);have hw1:=xW hlt e1;rw[hce]at hw1;have hdr14:List.drop (i*31+14) (zQ (m.defs.set i (d.wb e1)))=(zJ (d.wb e1)++zQ ((m.defs.set i (d.wb e1)).drop (i+1))).drop 14:=by have:=yA (l:=m.defs.set i (d.wb e1)) (i:=i) (by simpa using hlt);rw[<-jAu,this,jDn]
    have hb14:i*31+14+15<=n*31:=by omega
    have hnodes:=zKV e1 gl;simp[mkS,mkB,zJ];intro _;refine⟨jO [(2,.ptr 2 0),(4,.ptr 3 0),(8,int next),(13,.ptr 0 0),(14,int i),(15,.ptr 4 0),(16,.sl (cN d).length (z6 (cN d)))],mkS m++[.box [.nil,.nil],.box [.sl M.length (qA M),.row 1 n],.box (zJ d)],
     mw [0,1,2,3,4] 1 (by rfl) (by simp[mkS,mkB,zJ,hall]),?_⟩
    unfold zWm;simp[mkS,mkB,zJ];refine zNZ g1 [0,1] (by decide) (by simp[mkS,mkB,mkA]) (by simp[zF]) (by simp) (by simp) (by simp[mkS]) (by simp[mkS,gd,hli];exact zXA) ?_;have hclen:(zQ m.defs).length=n*31:=by rw[zMi,hli]
    have hdq:∀X:wF,List.drop (i*31+14) (List.take (i*31+14) (zQ m.defs)++X)=X:=fun X=>jDa (by rw[jAv,hclen];omega)
    have hlen15:i*31+14+15<=min (i*31+14) (n*31)+(15+(n*31-(i*31+14+15))):=by omega
    simp[mkS,mkB,gd,hli,h,hb14,hdq,hlen15];refine mu hnodes (by simp) ?_;rcases hcase with ⟨c30,hm'⟩|⟨c30,e2,m2,g2,gd2,gm2,hm'⟩
    .have c30':¬(30:Int)<(tmps e1).length:=by omega
     simp[c30'];exact zO (i+1) h (by omega) (kf [0,1,2,3] 0 (by rfl) (by simp[mkS,mkB,hms',hm',mkD,gd,hli,<-hw1]) (by simp[wi]))
    .have c30':(30:Int)<(tmps e1).length:=by omega
     have hw2:=xW (ds:=m.defs.set i (d.wb e1)) (i:=i) (by simpa using hlt) e2;rw[jDn]at hw2;have hww:(d.wb e1).wb e2=d.wb e2:=rfl;rw[hww,List.set_set]at hw2;simp[c30',hw1];refine zNZ g2 [0,1] (by decide) (by simp[mkS,mkB,mkL,mkD,gd,hli]) (by simp[zF]) (by simp) (by simp) (by simp[mkS]) (by simp[mkS,gd2,hli];exact zXA) ?_;simp[mkS,mkB,gd2,hli,h,hb14];exact zO (i+1) h (by omega) (kf [0,1,2,3] 0 (by rfl) (by simp[mkS,mkB,hms',hm',mkD,gd2,hli,<-hw2]) (by simp[wi]))
 .have hie:i=n:=by omega
  subst hie;have hli:=hlen i hi;simp[mkS,mkB,hli];exact⟨_,_,mw [0,1,2,3] 0 (by rfl) (by simp[mkS,mkB,hli]),hD⟩
variable{l:List ByteArray}{i:Nat}
theorem zJY(h:i<l.length):(yJ l).drop i=.lit (.string l[i])::yJ (l.drop (i+1)):=by have:=gH (enc:=zSb) (k:=1) (fun _=>rfl) h;rw[Nat.mul_one]at this;exact this
theorem zHF(mods:Int)(ps:List Pln)(c:Int)(h:i<ps.length):uU mods ps c (i+1)=uU mods ps c i++(if ps[i].mod=c then [idR (mods+i)]else []):=by
 simp only[uU,List.range_succ,jCw,jBa]
 congr 1
 simp only[List.filter_cons,jA2 h,List.filter_nil,decide_eq_true_eq];split<;>simp
theorem zPM{mods:Int}{ps:List Pln}{c:Int}(h:∀p∈ps,p.mod≠c)(i:Nat):uU mods ps c i=[]:=by
 simp only[uU,List.map_eq_nil_iff,List.filter_eq_nil_iff];intro j _;split
 .rename_i p hp;have:=h p (jBs hp)
  simpa using this
 .simp
theorem zK5(mods:Int)(ps:List Pln)(c:Int)(i:Nat):(uU mods ps c i).length<=i:=by simp only[uU,jAb];exact jAz (jBp _ _) (by simp)
def m0C:wF:=[int (idR 0).a,int (idR 0).b,int (idR 0).c,.lit (.string ⟨#[99,111,114,101]⟩)]
def m1C:wF:=[int (idR 1).a,int (idR 1).b,int (idR 1).c,.lit (.string ⟨#[109,105,108,108]⟩),.fsl 1 (zS (idR 0))]
def MC:Nat->wF
 | 0=>[]
 | 1=>m0C++[.nil,.nil]
 |_=>m0C++[.nil,.nil]++m1C++[.nil]
def MR(nm k0 k1:Nat):wF:=if nm=1 then m0C++[.row 5 k1,.row 4 k0]else m0C++[.nil,.row 4 k0]++m1C++[.row 5 k1]
theorem zOR{rf:Bool->Nat->Nat->A}{g:Nat->wD}{nm k0 k1:Nat}(h4:g 4=some 4)(h5:g 5=some 5):vwL rf g (MR nm k0 k1)=MR nm k0 k1:=by unfold MR;split<;>simp[m0C,m1C,h4,h5,zS]
def stB(nm:Nat)(ps:List Pln)(i:Nat):St :=
 [.box [.nil,.nil],.box [.row 2 nm,.row 3 i],.row false 91 6 nm (MR nm (uU nm ps 0 i).length (uU nm ps 1 i).length),.row false 42 31 i (zQ ((pH nm ps).take i)),
  .row false 32 3 (uU nm ps 0 i).length (zY (uU nm ps 0 i)),.row false 32 3 (uU nm ps 1 i).length (zY (uU nm ps 1 i))]
theorem zGR(next:Int)(p:Pln){k:Nat}(h:k<p.types.length):qP ((dO next p).take (k+1))=qP ((dO next p).take k)++aF (zIm next p k):=by
 have:=zCJ (l:=dO next p) (i:=k) (by simpa using h);rw[this]
 congr 2
 simp[dO]
theorem qHh(l:wC)(hl:∀x∈l,w64 x=x)(nm:Nat)(hnm:nm=1\/nm=2)(ps:List Pln)(hps:ps=qD l nm)(p:Prg)
 (hC:wpK prog 0 zNF (zSq p) (jO [(0,.sl l.length (aQ l)),(2,.ptr 0 0),(4,.ptr 1 0),(8,int (bH nm ps ps.length))])
  [.box [.nil,.nil],.box [.sl (zCg nm ps).length (qA (zCg nm ps)),.row 2 ps.length],.row false 42 31 ps.length (zQ (pH nm ps))]) :
 wpK prog 0 zRe (zSq p) (jO [(0,.sl l.length (aQ l)),(2,.ptr 0 0),(3,int nm),(4,.ptr 1 0)])
  [.box [.nil,.nil],.box [.row 2 nm,.row 3 0],.row false 91 6 nm (MC nm),.row false 42 31 0 []]:=by
 have hpl:=zTg l nm (by omega) (by omega) hl;have hok:=eA l nm (by omega) (by omega) hl;have hlen:=(bR l nm).2;rw[<-hps]at hpl hok hlen;have hnr:=iI (mods:=nm) (ps:=ps) (by omega) (fun p hp=>(hok p hp).t6);have w0:=qF ((nm:Int)+ps.length) (by omega);have start:fU 0 (jO [(0,.sl l.length (aQ l)),(2,.ptr 0 0),(3,int nm),(4,.ptr 1 0),(7,.sl ps.length (y8 ps)),(8,int (nm+ps.length)),(9,int 0)]) (stB nm ps 0)
  (jO [(0,.sl l.length (aQ l)),(2,.ptr 0 0),(3,int nm),(4,.ptr 1 0),(7,.sl ps.length (y8 ps)),(8,int (nm+ps.length)),(9,int 0)])
  [.box [.nil,.nil],.box [.row 2 nm,.row 3 0],.row false 91 6 nm (MC nm),.row false 42 31 0 []]:=by
  rcases hnm with rfl|rfl
  .exact((pZ (l:=2) (o:=5) rfl rfl 32 3).trans (pZ (l:=2) (o:=4) rfl rfl 32 3)).trans (mw [0,1,2,3,4,5] 0 (by rfl) (by simp[stB,MC,MR,m0C,m1C,uU]))
  .exact((pZ (l:=2) (o:=5) rfl rfl 32 3).trans (pZ (l:=2) (o:=11) rfl rfl 32 3)).trans (mw [0,1,2,3,4,5] 0 (by rfl) (by simp[stB,MC,MR,m0C,m1C,uU,zS]))
 have hl1:(pH nm ps).length=ps.length:=zPq _ _;unfold zRe;simp;refine mu hpl (by simp) ?_;simp[w0];intro _;refine qI (S:=Nat) (fun i=>[(0,.sl l.length (aQ l)),(2,.ptr 0 0),(3,int nm),(4,.ptr 1 0),(7,.sl ps.length (y8 ps)),(8,int (bH nm ps i)),(9,int i)]) (fun i=>stB nm ps i) (fun i=>i<=ps.length) (fun i=>ps.length-i) 0 (by simp)
  (fU.trans (kf [0,1,2,3] 0 (by rfl) (by rcases hnm with rfl|rfl<;>simp[MC,m0C,m1C]) (by simp)) start) ?_
 intro i hi;by_cases h:i<ps.length
 .have hpk:=hok _ (jA0 h);obtain⟨n0,n1⟩:=hnr i;have hns:=zFO nm ps h;have hdg:=xZ nm ps h;have hst:=zCH (l:=pH nm ps) (i:=i) (by omega);rw[hdg]at hst;clear hdg;have hcg:=zJX h;have i0:=zHF nm ps 0 h;have i1:=zHF nm ps 1 h;have l0:=zK5 nm ps 0 i;have l1:=zK5 nm ps 1 i;have hi8:(i:Int)<=8:=by omega
  have wi:=yK i (by omega);have wmi:=qF ((nm:Int)+i) (by omega);have hcg5:List.drop (i*11+5) (y8 ps)=(dX ps[i]++y8 (ps.drop (i+1))).drop 5:=by rw[<-jAu,hcg]
  have hb5:i*11+5+5<=ps.length*11:=by omega
  generalize ps[i]=q at *
  generalize bH nm ps i=nx at *
  simp[stB,h,hcg,hcg5,hb5,dX,wmi];intro _;refine aI (uL (nm+i)) (by simp) (by simp) ?_;simp[h,hcg,hcg5,hb5,dX];refine aI (uL q.mod) (by simp) (by simp) ?_;simp[h,hcg,hcg5,hb5,dX,zS];refine qI (S:=Nat) (fun k=>[(0,.sl l.length (aQ l)),(2,.ptr 0 0),(3,int nm),(4,.ptr 1 0),(7,.sl ps.length (y8 ps)),(8,int (nx+k)),(9,int i),(10,.ptr 6 0),(11,int k)])
   (fun k=>stB nm ps i++[.box [int (idR (nm+i)).a,int (idR (nm+i)).b,int (idR (nm+i)).c,int q.kind,int (idR q.mod).a,int (idR q.mod).b,int (idR q.mod).c,.lit (.string q.name),.row 7 k,int q.out.k,int q.out.id.a,int q.out.id.b,int q.out.id.c,.sl q.out.kids.length (jM q.out.kids),int 0,int 0,int 0,int 0,int 0,int 0,int 0,int 0,int 0,int 0,int 0,int 0,.nil,.nil,.nil,int 0,.nil],
    .row false 74 11 k (qP ((dO nx q).take k))]) (fun k=>k<=q.types.length) (fun k=>q.types.length-k) 0 (by simp)
   ((yN (l:=6) (o:=8) rfl rfl 74 11).trans (mw [0,1,2,3,4,5,6,7] 0 (by rfl) (by simp[stB,zOR]))) ?_
  intro k hk;by_cases hkl:k<q.types.length
  .have hnl:=hpk.names;have hkn:k<q.names.length:=by omega
   have hN:=zJY hkn;have hT:=iG hkl;have hT5:k*5+5<=q.types.length*5:=by omega
   have hS:=zGR nx q hkl;have t6:=hpk.t6;have wnk:=qF (nx+(k:Int)+1) (by omega);have wk:=yK k (by omega);have hcg2:List.drop (i*11+2) (y8 ps)=(dX q++y8 (ps.drop (i+1))).drop 2:=by rw[<-jAu,hcg]
   have hsv:zIm nx q k=⟨idR (nx+k),q.names[k],q.types[k],if q.kind=4 then q.most.getD k 0 else 0,k⟩:=by simp[zIm,jC5,hkn,hkl]
   rw[hsv]at hS;by_cases hk4:q.kind=4
   .have hkm:k<q.most.length:=by have:=hpk.most hk4;omega
    have hM:=zAe hkm;have hmg:q.most[k]?.getD 0=q.most[k]:=by simp[hkm]
    have hkm':k+1<=q.most.length:=hkm;simp[stB,h,hcg,dX,hkl]
    intros
    refine aI (uL (nx+k)) (by simp) (by simp) ?_;simp[h,hcg,dX,hkn,hkl,hN,hT,hT5,zF,hk4,zS,hM,hkm,hkm']
    intros
    refine⟨⟨by simp[maxLen];omega,by omega⟩,?_⟩;exact zO (k+1) hkl (by omega) (kf [0,1,2,3,4,5,6,7] 0 (by rfl) (by rw[hS];simp[stB,zOR,aF,hk4,hmg]) (by simp[wk,wnk];omega))
   .simp[stB,h,hcg,dX,hkl]
    intros
    refine aI (uL (nx+k)) (by simp) (by simp) ?_;simp[h,hcg,dX,hkn,hkl,hN,hT,hT5,zF,hk4,zS]
    intros
    refine⟨⟨by simp[maxLen];omega,by omega⟩,?_⟩;exact zO (k+1) hkl (by omega) (kf [0,1,2,3,4,5,6,7] 0 (by rfl) (by rw[hS];simp[stB,zOR,aF,hk4]) (by simp[wk,wnk];omega))
  .have hke:k=q.types.length:=by omega
   subst hke;have hall:(dO nx q).take q.types.length=dO nx q:=jAl (by simp);have t6:=hpk.t6;simp[stB,h,hcg,dX]
   intros
   refine⟨jO [(0,.sl l.length (aQ l)),(2,.ptr 0 0),(3,int nm),(4,.ptr 1 0),(7,.sl ps.length (y8 ps)),(8,int (nx+q.types.length)),(9,int i),(10,.ptr 6 0)],stB nm ps i++[.box (zJ (zFm nm nx i q))],
    mw [0,1,2,3,4,5,6] 1 (by rfl) (by simp[stB,zOR,zJ,zFm,hall,Exp.zero,Id.zero,Typ.zero]),?_⟩
   unfold zWn;have m0:=hpk.mod0;have m1:=hpk.mod1;have hen:zJ (zFm nm nx i q)=zS (idR (nm+i))++(zJ (zFm nm nx i q)).drop 3:=rfl;have hcase:nm=1/\q.mod=0\/nm=2/\q.mod=0\/nm=2/\q.mod=1:=by omega
   have hd3:List.take 3 (zJ (zFm nm nx i q))=[int (idR (nm+i)).a,int (idR (nm+i)).b,int (idR (nm+i)).c]:=rfl;rcases hcase with ⟨rfl,hq⟩|⟨rfl,hq⟩|⟨rfl,hq⟩
   .have en:((1:Nat):Int)=1:=rfl;simp only[hq,en,if_true,if_false,show ((0:Int)=1)=False from by simp,show ((1:Int)=0)=False from by simp,jAt]at i0 i1 hst hns l0 l1 hd3;simp[stB,h,hcg,dX,hq,MR,m0C,m1C,zS];refine⟨by simp[maxLen];omega,⟨by simp[maxLen];omega,by omega⟩,?_⟩;exact zO (i+1) h (by omega) (mw [0,1,2,3,4,5] 0 (by rfl) (by simp[stB,MR,m0C,m1C,zS,i0,i1,hst,hd3,qO,wi,hns]))
   all_goals
    have en:((2:Nat):Int)=2:=rfl;simp only[hq,en,if_true,if_false,show ((0:Int)=1)=False from by simp,show ((1:Int)=0)=False from by simp,jAt]at i0 i1 hst hns l0 l1 hd3;simp[stB,h,hcg,dX,hq,MR,m0C,m1C,zS];refine⟨by simp[maxLen];omega,⟨by simp[maxLen];omega,by omega⟩,?_⟩;exact zO (i+1) h (by omega) (mw [0,1,2,3,4,5] 0 (by rfl) (by simp[stB,MR,m0C,m1C,zS,i0,i1,hst,hd3,qO,wi,hns]))
 .have hie:i=ps.length:=by omega
  subst hie;have hall:(pH nm ps).take ps.length=pH nm ps:=jAl (by simp);simp[stB]
  intros
  rcases hnm with rfl|rfl
  .have hn1:uU ((1:Nat):Int) ps 1 ps.length=[]:=zPM (fun p hp=>by have:=(hok p hp).mod1;omega) _;have en:((1:Nat):Int)=1:=rfl;simp only[en]at hn1 hall;exact⟨_,_,mw [0,1,3] 2 (by rfl) (by simp[zCg,MR,m0C,m1C,iF,rB,hall,hn1]),hC⟩
  .have en:((2:Nat):Int)=2:=rfl;simp only[en]at hall;exact⟨_,_,mw [0,1,3] 2 (by rfl) (by simp[zCg,MR,m0C,m1C,iF,rB,hall,zS]),hC⟩
theorem zLA{e:Exp}{c:Int}(hc:c∈tmps e):∀{ks:wH},e∈ks->c∈jJ ks
 |x::ks,h=>by
  simp only[jJ,jA6];rcases jA1.1 h with rfl|h
  .exact .inl hc
  .exact .inr (zLA hc h)
theorem zOo:∀(ks:wH),ks.length<=(jJ ks).length
 |[]=>jA _
 |e::ks=>by
  have:=zOo ks;have h1:1<=(tmps e).length:=by rw[bL,jA4,jAn];omega
  simp only[jJ,jA4,jAc];omega
section
variable{N:Nat}{i:Id}{k n:Int}{r:Id}{t:Typ}{ks:wH}{ns:List ByteArray}
theorem yV(hb:∀c∈tmps (.mk i k n r t ks ns),0<=c/\c<N)(hl:(tmps (.mk i k n r t ks ns)).length<=1000000000)(hk:k≠2)(hs:∀e∈ks,e.under N):(Exp.mk i k n r t ks ns).under N:=by simp only[Exp.under,zBv];have:=zOo ks;simp only[tmps,jA4,jAn]at hl;exact⟨hb i.c (by simp[tmps]),fun h=>(hk h).elim,by omega,hs⟩
theorem dR(hb:∀c∈tmps (.mk i k n r t ks ns),0<=c/\c<N){e:Exp}(he:e∈ks):∀c∈tmps e,0<=c/\c<N:=fun c hc=>hb c (by simp only[tmps,jA6];exact .inl (zLA hc he))
theorem dS(hl:(tmps (.mk i k n r t ks ns)).length<=1000000000){e:Exp}(he:e∈ks):(tmps e).length<=1000000000:=by have:=xI he;simp only[tmps,jA4,jAn]at hl;omega
end
theorem zSJ{env:wJ}{x:Id}{n:Int}{t:Typ}(h:fC env x n=some t):∃b∈env,b.id=x/\b.n=n/\b.typ=t:=by simp only[fC,jAf]at h;obtain⟨b,hb,rfl⟩:=h;have h1:=jCy hb;have h2:=jD6 hb;simp only[jA8,decide_eq_true_eq]at h2;exact⟨b,by simpa using h1,h2.1,h2.2,rfl⟩
theorem zTI{hs:wQ}{own:Int}{N:Nat}{env:wJ}{e:Exp}{t:Typ}(h:WT hs own env e t):(∀b∈env,b.id.b=0->0<=b.id.c/\b.id.c<N)->(∀c∈tmps e,0<=c/\c<N)->(tmps e).length<=1000000000->e.under N:=by
 induction h with
 |int env i n h1 h2=>exact fun _ hb hl=>yV hb hl (by omega) (by simp)
 |bool env i n h=>exact fun _ hb hl=>yV hb hl (by omega) (by simp)
 |var env i n x t h =>
  intro he hb hl;simp only[Exp.under,zD3,and_true];obtain⟨b,h1,h2,_,_⟩:=zSJ h;exact⟨hb i.c (by simp[tmps]),fun _ h0=>by rw[<-h2]at h0 ⊢;exact he b h1 h0,by simp⟩
 |call env i k h ks ho hk hlen hw ih =>
  refine fun he hb hl=>yV hb hl (by omega) fun e hm=>?_
  obtain⟨j,hj,rfl⟩:=jAe hm;exact ih j hj he (dR hb hm) (dS hl hm)
 |arith env i n a b h1 h2 ha hb' iha ihb =>
  refine fun he hb hl=>yV hb hl (by omega) fun e hm=>?_
  have k1:=dR hb hm;have k2:=dS hl hm;simp only[jA1,jAr,or_false]at hm;rcases hm with rfl|rfl
  .exact iha he k1 k2
  .exact ihb he k1 k2
 |less env i a b ha hb' iha ihb =>
  refine fun he hb hl=>yV hb hl (by omega) fun e hm=>?_
  have k1:=dR hb hm;have k2:=dS hl hm;simp only[jA1,jAr,or_false]at hm;rcases hm with rfl|rfl
  .exact iha he k1 k2
  .exact ihb he k1 k2
 |same env i a b u ha hb' iha ihb =>
  refine fun he hb hl=>yV hb hl (by omega) fun e hm=>?_
  have k1:=dR hb hm;have k2:=dS hl hm;simp only[jA1,jAr,or_false]at hm;rcases hm with rfl|rfl
  .exact iha he k1 k2
  .exact ihb he k1 k2
 |andor env i n a b h ha hb' iha ihb =>
  refine fun he hb hl=>yV hb hl (by omega) fun e hm=>?_
  have k1:=dR hb hm;have k2:=dS hl hm;simp only[jA1,jAr,or_false]at hm;rcases hm with rfl|rfl
  .exact iha he k1 k2
  .exact ihb he k1 k2
 |not env i a ha iha =>
  refine fun he hb hl=>yV hb hl (by omega) fun e hm=>?_
  have k1:=dR hb hm;have k2:=dS hl hm;simp only[jA1,jAr,or_false]at hm;subst hm;exact iha he k1 k2
 |join env i a b t ha hb' iha ihb =>
  refine fun he hb hl=>yV hb hl (by omega) fun e hm=>?_
  have k1:=dR hb hm;have k2:=dS hl hm;simp only[jA1,jAr,or_false]at hm;rcases hm with rfl|rfl
  .exact iha he k1 k2
  .exact ihb he k1 k2
 |len env i a t ha iha =>
  refine fun he hb hl=>yV hb hl (by omega) fun e hm=>?_
  have k1:=dR hb hm;have k2:=dS hl hm;simp only[jA1,jAr,or_false]at hm;subst hm;exact iha he k1 k2
 |ite env i a b c t ha hb' hc iha ihb ihc =>
  refine fun he hb hl=>yV hb hl (by omega) fun e hm=>?_
  have k1:=dR hb hm;have k2:=dS hl hm;simp only[jA1,jAr,or_false]at hm;rcases hm with rfl|rfl|rfl
  .exact iha he k1 k2
  .exact ihb he k1 k2
  .exact ihc he k1 k2
 |lets env i a b u t ns hn ha hb' iha ihb =>
  refine fun he hb hl=>yV hb hl (by omega) fun e hm=>?_
  have k1:=dR hb hm;have k2:=dS hl hm;have ki:=hb i.c (by simp[tmps]);simp only[jA1,jAr,or_false]at hm;rcases hm with rfl|rfl
  .exact iha he k1 k2
  .refine ihb (fun b hb0 h0=>?_) k1 k2;rcases jA6.1 hb0 with hb0|hb0
   .exact he b hb0 h0
   .rw[jAi.1 hb0];exact ki
 |record env i k h ks hk hlen hw ih =>
  refine fun he hb hl=>yV hb hl (by omega) fun e hm=>?_
  obtain⟨j,hj,rfl⟩:=jAe hm;exact ih j hj he (dR hb hm) (dS hl hm)
 |field env i k h j hj a hk ha iha =>
  refine fun he hb hl=>yV hb hl (by omega) fun e hm=>?_
  have k1:=dR hb hm;have k2:=dS hl hm;simp only[jA1,jAr,or_false]at hm;subst hm;exact iha he k1 k2
 |case env i k h j hj a hk ha iha =>
  refine fun he hb hl=>yV hb hl (by omega) fun e hm=>?_
  have k1:=dR hb hm;have k2:=dS hl hm;simp only[jA1,jAr,or_false]at hm;subst hm;exact iha he k1 k2
 |mtch env i k h a ks t ns hn hk hlen ha hw iha ih =>
  refine fun he hb hl=>yV hb hl (by omega) fun e hm=>?_
  have k1:=dR hb hm;have k2:=dS hl hm;have ki:=hb i.c (by simp[tmps]);rcases jA1.1 hm with rfl|hm
  .exact iha he k1 k2
  .obtain⟨j,hj,rfl⟩:=jAe hm;refine ih j hj (fun b hb0 h0=>?_) k1 k2;rcases jA6.1 hb0 with hb0|hb0
   .exact he b hb0 h0
   .rw[jAi.1 hb0];exact ki
 |list env i t ks hw ih =>
  refine fun he hb hl=>yV hb hl (by omega) fun e hm=>?_
  obtain⟨j,hj,rfl⟩:=jAe hm;exact ih j hj he (dR hb hm) (dS hl hm)
 |fold env i l s b u t ns hn hl' hs' hb' ihl ihs ihb =>
  refine fun he hb hl=>yV hb hl (by omega) fun e hm=>?_
  have k1:=dR hb hm;have k2:=dS hl hm;have ki:=hb i.c (by simp[tmps]);simp only[jA1,jAr,or_false]at hm;rcases hm with rfl|rfl|rfl
  .exact ihl he k1 k2
  .exact ihs he k1 k2
  .refine ihb (fun b hb0 h0=>?_) k1 k2;rcases jA6.1 hb0 with hb0|hb0
   .rcases jA6.1 hb0 with hb0|hb0
    .exact he b hb0 h0
    .rw[jAi.1 hb0];exact ki
   .rw[jAi.1 hb0];exact ki
structure Renamed(hs:List Hd)(k:Nat)(d:Dfn)(base:Int)(e:Exp)(f:Int->Id):Prop where
 body:d.body=eB f e
 wt:WT hs k (cN d) e d.res
 nd:(tmps e).Nodup
 num:e.num0
 len:(tmps e).length<=32768
 ids:∀(j:Nat) (h:j<(tmps e).length),f (tmps e)[j]=idR (base+j)
def nmV(l:wC):Nat:=(1+atV l 0 2).toNat
theorem zJe(l:wC)(hl:∀x∈l,w64 x=x):(nmV l:Int)=1+atV l 0 2/\(nmV l=1\/nmV l=2):=by obtain⟨a,b⟩:=yZ (i:=0) hl (most:=2) (by omega);unfold nmV;omega
def NmD(d:Dfn):Prop:=d.name.size<=100/\∀s∈d.slots,s.name.size<=100
theorem zQg(h:(l.all fun n=>Nat.ble n.size 100)=true):∀n∈l,n.size<=100:=fun n hn=>Nat.le_of_ble_eq_true (jB3.1 h n hn)
theorem zJq(l:wC)(mods:Int):∀p∈qD l mods,p.name.size<=100/\∀n∈p.names,n.size<=100:=by
 intro p hp;have hp':p=dM l mods\/p=dZ l mods\/p=i6 l mods\/p=zDp mods\/p=pF l mods\/p=zA8 mods\/p=pG l mods\/p=pT l mods\/p=pC l mods:=by
  simp only[qD,plB,plC,plD,plE,jA6,jA1]at hp;rcases hp with ((h|h|h)|h)|h|h|h|h
  .simp[h]
  .simp[h]
  .simp at h
  .split at h
   .simp at h;rcases h with h|h<;>simp[h]
   .simp at h
  .simp[h]
  .split at h<;>simp[h]
  .simp[h]
  .split at h
   .simp at h;simp[h]
   .simp at h
 rcases hp' with rfl|rfl|rfl|rfl|rfl|rfl|rfl|rfl|rfl<;>exact⟨Nat.le_of_ble_eq_true rfl,zQg rfl⟩
theorem zMu{mods next:Int}{p:Pln}(h:p.name.size<=100/\∀n∈p.names,n.size<=100):NmD (zFm mods next i p):=by
 refine⟨h.1,fun s hs=>?_⟩;obtain⟨k,_,rfl⟩:=jA9.1 hs;show (p.names.getD k ⟨#[]⟩).size<=100;rw[jC5];cases hk:p.names[k]? with
 |none=>simp[ByteArray.size]
 |some n=>exact h.2 n (jBs hk)
theorem zFM(s:NSt)(h:∀d∈s.ds,NmD d):∀i:Nat,∀d∈(dY s i).ds,NmD d
 | 0=>h
 |i+1=>by
  have ih:=zFM s h i;simp only[dY,zFN];split
  .rename_i d hd;split
   .intro x hx;rcases List.mem_or_eq_of_mem_set hx with hx|rfl
    .exact ih x hx
    .exact ih d (jBs hd)
   .exact ih
  .exact ih
structure PrgOk(l:List Int)(P:Prg):Prop where
 mods:P.mods=zCg (nmV l) (qD l (nmV l))
 heads:P.defs.map Dfn.hd=hsV l (nmV l)
 names:∀d∈P.defs,NmD d
 bodies:∃base:Nat->Int,base 0=bH (nmV l) (qD l (nmV l)) (qD l (nmV l)).length/\∀(k:Nat) (d:Dfn),P.defs[k]?=some d ->
  (dG d=false/\d.body=Exp.zero/\base (k+1)=base k)\/(dG d=true/\∃e f,Renamed (hsV l (nmV l)) k d (base k) e f/\base (k+1)=base k+(tmps e).length)
end Go.Proofs.YtolkhapmieigcaaGreatDoor

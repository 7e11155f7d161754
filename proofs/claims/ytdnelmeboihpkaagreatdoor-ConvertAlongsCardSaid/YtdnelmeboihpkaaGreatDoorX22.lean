/- domain.measure: how many values a type has. -/
import Derived.Test.YtdnelmeboihpkaaGreatDoorX21
set_option linter.unusedVariables false
set_option maxHeartbeats 8000000
set_option maxRecDepth 100000
set_option linter.unusedSimpArgs false
open Go.Proofs.Tryz
namespace Go.Proofs.YtdnelmeboihpkaaGreatDoor
open Go.Abs
structure Sz where
 a:Int
 b:Int
 e:Int
def pQ:Int->Int->List Sz->Sz
 |a,b,[]=>⟨a,b,0⟩
 |a,b,k::l=>if a*k.a > 4096 then ⟨0,0,4⟩ else pQ (a*k.a) (b+k.b) l
def lE:Int->Int->List Sz->Sz
 |a,b,[]=>⟨a,b,0⟩
 |a,b,k::l=>lE (a+k.a) (max b (1+k.b)) l
def sL:List Sz->Int
 |[]=>0
 |k::l=>if k.e≠0 then k.e else sL l
def bI(rec:Bool)(l:List Sz):Sz:=if sL l≠0 then ⟨0,0,sL l⟩ else if rec then pQ 1 1 l else lE 0 1 l
def eI(m:Int)(k:Sz):Sz:=if k.e≠0 then ⟨0,0,k.e⟩ else if m<=0 then ⟨1,1,0⟩ else if m<=1 then ⟨1+k.a,1+k.b,0⟩ else ⟨1+k.a+k.a*k.a,1+k.b+k.b,0⟩
def gH(k:Sz):Sz:=if k.e≠0 then ⟨0,0,k.e⟩ else if k.a > 4096\/k.b > 256 then ⟨0,0,4⟩ else ⟨k.a,if k.a=0 then 0 else k.b,0⟩
def yE(p:Prg)(m:Int):Nat->Typ->Sz
 | 0,t=>if validT p t=false then ⟨0,0,1⟩ else ⟨0,0,4⟩
 |n+1,t=>if validT p t=false then ⟨0,0,1⟩ else if t.k=0 then ⟨2*m+1,1,0⟩ else if t.k=1 then ⟨2,1,0⟩ else
  if t.k=2 then gH (eI m (yE p m n (t.kids.headD Typ.zero)))else gH (bI (decide ((dfn p t.id).kind=0)) ((dfn p t.id).slots.map fun s=>yE p m n s.typ))
def Sz.Ok(k:Sz):Prop:=k.e=0->0<=k.a/\k.a<=4096/\0<=k.b/\k.b<=256
def szR(k:Sz):A:=.tup [.agg [int k.a,int k.b],int k.e]
def fB(l:List Sz):wE:=l.flatMap fun k=>[int k.a,int k.b]
@[simp]theorem zY6:fB []=[]:=rfl
@[simp]theorem zWB(k:Sz)(l:List Sz):fB (k::l)=int k.a::int k.b::fB l:=rfl
@[simp]theorem zTy(k l:List Sz):fB (k++l)=fB k++fB l:=by simp[fB]
@[simp]theorem zY5(l:List Sz):(fB l).length=l.length*2:=by
 induction l with
 |nil=>rfl
 |cons k l ih=>simp[ih];omega
theorem sI:∀l:List Sz,qV (fB l)
 |[]=>qV.nil
 |k::l=>by have h:=sI l;exact⟨by simp[h.1],fun rf g=>by simp[h.2]⟩
@[simp]theorem zXn(l:List Sz):jO (fB l)=fB l:=(sI l).1
@[simp]theorem qCh{rf g}(l:List Sz):vwL rf g (fB l)=fB l:=(sI l).2 _ _
theorem uM:∀{l:List Sz} {i:Nat} (h:i<l.length),(fB l).drop (i*2)=int l[i].a::int l[i].b::fB (l.drop (i+1))
 |k::l,0,_=>by simp
 |k::l,i+1,h=>by
  have:=uM (l:=l) (i:=i) (by simpa using h);rw[show (i+1)*2=i*2+2 by omega]
  simpa using this
def yR:A:=.clo 116 [] [.ptr 0 0,.ptr 1 0,.ptr 2 0]
def mSt(p:Prg)(m:Int):St:=[.box (zN p),.box [int m],.box [yR]]
theorem lL:∀{l:List Sz},sL l=0->∀k∈l,k.e=0
 |[],_,k,hk=>by simp at hk
 |x::l,h,k,hk=>by
  simp only[sL]at h;split at h
  .contradiction
  .rename_i hx;rcases jA3.1 hk with rfl|hk
   .simpa using hx
   .exact lL h k hk
theorem zSS(p:Prg)(m:Int)(id:Id)(k:Int)(kids:wS)(d:Int)(hd:0<=d/\d<=24)(D:Dfn)(hD:dfn p id=D)(g:Typ->Sz)(hg:∀s∈D.slots,(g s.typ).Ok/\my 116 [.agg (zB s.typ),int (d+1),.ptr 0 0,.ptr 1 0,.ptr 2 0] (mSt p m) (szR (g s.typ)) (mSt p m))(hs:D.slots.length<=1000000) :
 my 117 [.agg (zN p),.agg (zB (.mk k id kids)),int d,yR] (mSt p m) (szR (bI (decide (D.kind=0)) (D.slots.map fun s=>g s.typ))) (mSt p m):=by
 refine mj [] [31] [] [.cell 8 2 true,.slot 9] func117 (by kernel_rfl) ?_
 (conv in kH _ _ _=>cbv)
 simp[zN,zB,mSt,yR];refine mu (nO p id) (by simp[zN,zL,bL]) ?_;rw[dfn]at hD;have hwd:=z8 (d+1) (by omega);simp[bL,hD,zK];intro hl;refine qO (S:=Nat) (fun i=>[(2,int d),(3,yR),(4,.ptr 3 0),(5,.ptr 4 0),(8,.ptr 5 0),(9,int 0),(10,.ptr 6 0),(12,bl (decide (D.kind=0))),(13,.row 7 i),(33,.sl D.slots.length (jN D.slots)),(34,int D.slots.length),(35,int i)])
  (fun i=>mSt p m++[.box (zN p),.box (zB (.mk k id kids)),.box [int 0,int 0],.box (zK D),.row false 123 2 i (fB ((D.slots.map fun s=>g s.typ).take i))])
  (fun i=>i<=D.slots.length/\sL (D.slots.map fun s=>g s.typ)=sL ((D.slots.map fun s=>g s.typ).drop i)) (fun i=>D.slots.length-i) 0 (by simp)
  (mw [0,1,2,3,4,5,6,7] 0 (by rfl) (by simp[mSt,zN,zB,zK,yR])) ?_
 rintro i ⟨hi,ho⟩;by_cases h:i<D.slots.length
 .have hm:(D.slots.map fun s=>g s.typ).drop i=g D.slots[i].typ::(D.slots.map fun s=>g s.typ).drop (i+1):=by rw[jAp (by simpa using h)];simp
  have htk:(D.slots.map fun s=>g s.typ).take (i+1)=(D.slots.map fun s=>g s.typ).take i++[g D.slots[i].typ]:=by rw[jA8 (by simpa using h)];simp
  obtain⟨hok,hret⟩:=hg D.slots[i] (jA0 h);simp[h,qW h,j4,yR,mSt,hwd,zN];refine mr hret [0,1,2] (by simp[mSt,yR,zN,zB]) ?_;simp[szR,mSt,yR,zN];refine jM (fun h'=>?_) (fun h'=>?_)<;>simp at h'
  .simp;exact mv [0,1,2] 0 (by rfl) (by simp[mSt,yR,zN,bI,ho,hm,sL,h'])
  .simp;refine⟨⟨by simp[maxLen];omega,by omega⟩,?_⟩;exact zS (i+1) ⟨h,by rw[ho,hm];simp[sL,h']⟩ (by omega) (mw [0,1,2,3,4,5,6,7] 0 (by rfl) (by simp[mSt,zN,zB,zK,yR,htk,qF h hl]))
 .have hi:i=D.slots.length:=by omega
  subst hi;have htk:(D.slots.map fun s=>g s.typ).take D.slots.length=D.slots.map fun s=>g s.typ:=jAe (by simp)
  have hoks:∀k∈D.slots.map fun s=>g s.typ,k.Ok:=fun k hk=>by obtain⟨s,hs,rfl⟩:=jAg.1 hk;exact(hg s hs).1
  have hln:(D.slots.map fun s=>g s.typ).length=D.slots.length:=by simp
  generalize (D.slots.map fun s=>g s.typ)=Z at ho htk hoks hln ⊢;have ho':sL Z=0:=by rw[ho,<-hln];simp[sL]
  clear ho;have hn6:Z.length<=1000000:=by omega
  rw[<-hln]at hl htk;have hzk:∀k∈Z,k.e=0/\0<=k.a/\k.a<=4096/\0<=k.b/\k.b<=256:=fun k hk=>⟨lL ho' k hk,hoks k hk (lL ho' k hk)⟩
  simp[mSt,yR,htk,<-hln];refine jM (fun h'=>?_) (fun h'=>?_)<;>simp at h'
  .simp[h',oL];refine qO (S:=Nat×Int×Int) (fun s=>[(8,.ptr 5 0),(9,int 0),(12,bl true),(18,.ptr 8 0),(60,.row 7 Z.length),(61,int Z.length),(62,int s.1)])
    (fun s=>mSt p m++[.box (zN p),.box (zB (.mk k id kids)),.box [int 0,int 0],.box (zK D),.row false 123 2 Z.length (fB Z),.box [int s.2.1,int s.2.2]])
    (fun s=>s.1<=Z.length/\pQ 1 1 Z=pQ s.2.1 s.2.2 (Z.drop s.1)/\0<=s.2.1/\s.2.1<=4096/\0<=s.2.2/\s.2.2<=1+256*s.1) (fun s=>Z.length-s.1) (0,1,1) (by simp)
    (mw [0,1,2,3,4,5,6,7,8] 0 (by rfl) (by simp[mSt,zN,zB,zK,yR,h'])) ?_
   rintro⟨j,a,b⟩ ⟨hj,hr,ha0,ha,hb0,hb⟩;simp only at hj hr ha0 ha hb0 hb;by_cases hjl:j<Z.length
   .obtain⟨_,g1,g2,g3,g4⟩:=hzk Z[j] (jA0 hjl);have hd:Z.drop j=Z[j]::Z.drop (j+1):=jAp hjl;have hab0:0<=a*Z[j].a:=Int.mul_nonneg ha0 g1;have hab1:a*Z[j].a<=4096*4096:=Int.mul_le_mul ha g2 g1 (by decide);have hw1:=z8 (a*Z[j].a) (by omega);have hw2:=z8 (b+Z[j].b) (by omega);have hw3:=jY j (by omega);have hj2:j*2+2<=Z.length*2:=by omega
    simp[hjl,vB,uM hjl,mSt,yR,hw1,hw2,hw3,hj2];refine jM (fun h4=>?_) (fun h4=>?_)<;>simp at h4
    .simp;have e:pQ 1 1 Z=⟨0,0,4⟩:=by rw[hr,hd,pQ,if_pos h4]
     exact mv [0,1,2] 0 (by rfl) (by simp[mSt,yR,zN,bI,ho',e,h',szR])
    .simp;exact zS (j+1,a*Z[j].a,b+Z[j].b) ⟨hjl,by rw[hr,hd,pQ,if_neg (by omega)],hab0,h4,by simp only;omega,by simp only;omega⟩ (by simp only;omega) (mw [0,1,2,3,4,5,6,7,8] 0 (by rfl) (by simp[mSt,zN,zB,zK,yR,hw3]))
   .have hjl':j=Z.length:=by omega
    subst hjl';simp[mSt,yR];exact mv [0,1,2] 0 (by rfl) (by simp[mSt,yR,zN,bI,ho',hr,h',pQ,szR])
  .simp[h',oL];refine qO (S:=Nat×Int×Int) (fun s=>[(8,.ptr 5 0),(9,int 0),(12,bl false),(18,.ptr 8 0),(60,.row 7 Z.length),(61,int Z.length),(62,int s.1)])
    (fun s=>mSt p m++[.box (zN p),.box (zB (.mk k id kids)),.box [int 0,int 0],.box (zK D),.row false 123 2 Z.length (fB Z),.box [int s.2.1,int s.2.2]])
    (fun s=>s.1<=Z.length/\lE 0 1 Z=lE s.2.1 s.2.2 (Z.drop s.1)/\0<=s.2.1/\s.2.1<=4096*s.1/\0<=s.2.2/\s.2.2<=257) (fun s=>Z.length-s.1) (0,0,1) (by simp)
    (mw [0,1,2,3,4,5,6,7,8] 0 (by rfl) (by simp[mSt,zN,zB,zK,yR,h'])) ?_
   rintro⟨j,a,b⟩ ⟨hj,hr,ha0,ha,hb0,hb⟩;simp only at hj hr ha0 ha hb0 hb;by_cases hjl:j<Z.length
   .obtain⟨_,g1,g2,g3,g4⟩:=hzk Z[j] (jA0 hjl);have hd:Z.drop j=Z[j]::Z.drop (j+1):=jAp hjl;have hw1:=z8 (a+Z[j].a) (by omega);have hw2:=z8 (1+Z[j].b) (by omega);have hw3:=jY j (by omega);have hj2:j*2+2<=Z.length*2:=by omega
    have hmx:max b (1+Z[j].b)=if b<1+Z[j].b then 1+Z[j].b else b:=by rw[Int.max_def];split<;>split<;>omega
    simp[hjl,vB,uM hjl,mSt,yR,hw1,hw2,hw3,hj2];exact zS (j+1,a+Z[j].a,max b (1+Z[j].b)) ⟨hjl,by rw[hr,hd];simp[lE],by simp only;omega,by simp only;omega,by simp only;omega,by simp only;omega⟩ (by simp only;omega) (mw [0,1,2,3,4,5,6,7,8] 0 (by rfl) (by simp[mSt,zN,zB,zK,yR,hmx,hw3]))
   .have hjl':j=Z.length:=by omega
    subst hjl';simp[mSt,yR];exact mv [0,1,2] 0 (by rfl) (by simp[mSt,yR,zN,bI,ho',hr,h',lE,szR])
def Sml(p:Prg):Prop:=∀d∈p.defs,d.slots.length<=1000000
variable{p:Prg}
theorem Sml.dfn(h:Sml p)(id:Id):(dfn p id).slots.length<=1000000:=by
 unfold Go.Proofs.YtdnelmeboihpkaaGreatDoor.dfn;cases hf:jH p.defs id with
 |none=>simp[Dfn.zero]
 |some d=>exact h d (aN hf).1
theorem zDv{n:Nat}{t:Typ}(h:j9 p n t=true)(hk:t.k=2):∃x,t.kids=[x]:=by
 cases n with
 |zero=>simp[j9]at h
 |succ n =>
  cases t with
  |mk k id kids =>
   simp only[Typ.k_mk]at hk;subst hk;rcases kids with _|⟨x,_|⟨y,l⟩⟩
   .simp[j9]at h
   .exact⟨x,rfl⟩
   .simp[j9]at h
theorem zJj{k:Sz}(h0:k.e=0->0<=k.a/\0<=k.b):(gH k).Ok:=by
 intro he;unfold gH at *
 split at he
 .simp at he;contradiction
 .rename_i h1;simp at h1;split at he
  .simp at he
  .rename_i h2;rw[if_neg (by simp[h1]),if_neg h2];have:=h0 h1;simp only;split<;>omega
theorem zNQ:∀{l:List Sz} {a b:Int},(∀k∈l,k.e=0/\k.Ok)->0<=a->0<=b->0<=(pQ a b l).a/\0<=(pQ a b l).b
 |[],a,b,_,ha,hb=>⟨ha,hb⟩
 |k::l,a,b,h,ha,hb=>by
  have hk:=(h k (by simp)).2 (h k (by simp)).1;simp only[pQ];split
  .simp
  .exact zNQ (fun k hk=>h k (jAm _ hk)) (Int.mul_nonneg ha hk.1) (by omega)
theorem zIO:∀{l:List Sz} {a b:Int},(∀k∈l,k.e=0/\k.Ok)->0<=a->0<=b->0<=(lE a b l).a/\0<=(lE a b l).b
 |[],a,b,_,ha,hb=>⟨ha,hb⟩
 |k::l,a,b,h,ha,hb=>by have hk:=(h k (by simp)).2 (h k (by simp)).1;simp only[lE];exact zIO (fun k hk=>h k (jAm _ hk)) (by omega) (by omega)
theorem zFx{r:Bool}{l:List Sz}(h:∀k∈l,k.Ok)(he:(bI r l).e=0):0<=(bI r l).a/\0<=(bI r l).b:=by
 unfold bI at *
 split
 .simp
 .rename_i h0;have h0:sL l=0:=by simpa using h0
  have hk:∀k∈l,k.e=0/\k.Ok:=fun k hk=>⟨lL h0 k hk,h k hk⟩
  split
  .exact zNQ hk (by decide) (by decide)
  .exact zIO hk (by decide) (by decide)
variable{m:Int}
theorem zPn{k:Sz}(h:k.Ok)(he:(eI m k).e=0):0<=(eI m k).a/\0<=(eI m k).b:=by
 unfold eI at *
 split
 .simp
 .rename_i h0;have h1:=h (by simpa using h0);have h2:0<=k.a*k.a:=Int.mul_nonneg h1.1 h1.1;split
  .simp
  .split<;>simp only<;>omega
theorem eT(p:Prg)(m:Int)(hm:0<=m/\m<=64):∀(n:Nat) (t:Typ),(yE p m n t).Ok
 | 0,t=>by unfold yE;split<;>intro h<;>simp at h
 |n+1,t=>by
  unfold yE;split
  .intro h;simp at h
  split
  .intro _;simp only;omega
  split
  .intro _;simp
  split
  .exact zJj (zPn (eT p m hm n _))
  .exact zJj (zFx (fun k hk=>by obtain⟨s,_,rfl⟩:=jAg.1 hk;exact eT p m hm n _))
variable{N:Int}
theorem nG{M:Int}(h:M > 4096\/N > 256):gH ⟨M,N,0⟩=⟨0,0,4⟩:=by simp[gH,h]
theorem zAx(h:¬N > 256):gH ⟨0,N,0⟩=⟨0,0,0⟩:=by simp[gH,h]
theorem zAw{M:Int}(h:¬(M > 4096\/N > 256))(h0:M≠0):gH ⟨M,N,0⟩=⟨M,N,0⟩:=by simp[gH,h,h0]
def tb(a b:Int):Nat->Int×Int×Int
 | 0=>(1,1,1)
 | 1=>(a,1+a,1+b)
 |_=>(a*a,1+a+a*a,1+b+b)
theorem zSr(p:Prg)(hs:Sml p)(m:Int)(hm:0<=m/\m<=64):∀(n:Nat) (t:Typ) (d:Int),d=25-n->n<=24 ->
 my 116 [.agg (zB t),int d,.ptr 0 0,.ptr 1 0,.ptr 2 0] (mSt p m) (szR (yE p m n t)) (mSt p m):=by
 intro n;induction n with
 |zero =>
  intro t d hd _;have hd:d=25:=by omega
  subst hd;refine mq [(11,[0,1,2,3,4,7])] [.cell 7 2 true,.slot 8] func116 (by kernel_rfl) ?_
  (conv in kq _ _=>cbv)
  simp[zN,zB,mSt,yR];refine mu (zF6 p t) (by simp[zN,zB]) ?_;simp;cases hv:validT p t with
  |false =>
   simp;exact mv [0,1,2] 0 (by rfl) (by simp[yE,hv,szR])
  |true =>
   simp;exact mv [0,1,2] 0 (by rfl) (by simp[yE,hv,szR])
 |succ n ih =>
  intro t d hd hn;refine mq [(11,[0,1,2,3,4,7])] [.cell 7 2 true,.slot 8] func116 (by kernel_rfl) ?_
  (conv in kq _ _=>cbv)
  simp[zN,zB,mSt,yR];refine mu (zF6 p t) (by simp[zN,zB]) ?_;have hd24:¬(24<d):=by omega
  have hwd:=z8 (d+1) (by omega);simp;cases hv:validT p t with
  |false =>
   simp;exact mv [0,1,2] 0 (by rfl) (by simp[yE,hv,szR])
  |true =>
   by_cases h0:t.k=0
   .have hw1:=z8 (2*m) (by omega);have hw2:=z8 (2*m+1) (by omega);simp[hd24,h0,hw1,hw2];exact mv [0,1,2] 0 (by rfl) (by simp[yE,hv,szR,h0])
   by_cases h1:t.k=1
   .simp[hd24,h1];exact mv [0,1,2] 0 (by rfl) (by simp[yE,hv,szR,h1])
   by_cases h2:t.k=2
   .obtain⟨x,hx⟩:=zDv hv h2;simp[hd24,h2,hx,hwd];have hok:=eT p m hm n x;have hsz:yE p m (n+1) t=gH (eI m (yE p m n x)):=by simp[yE,hv,h0,h1,h2,hx]
    rw[hsz];refine zHA (ih x (d+1) (by omega) (by omega)) [0,1,2] (by simp) (by simp[mSt,yR,zN]) (by simp[zB,qN]) (by simp[szR]) ?_;generalize yE p m n x=Z at hok ⊢;simp[szR];refine jM (fun he=>?_) (fun he=>?_)<;>simp at he
    .simp;exact mv [0,1,2] 0 (by rfl) (by simp[eI,gH,szR,he])
    .obtain⟨a,b,e⟩:=Z;simp only at he;subst he;have hok:=hok rfl;simp only at hok;simp;have htail:∀M N:Int,True:=fun _ _=>trivial
     refine qO (S:=Nat) (fun j=>[(3,.ptr 1 0),(7,.ptr 4 0),(8,int 0),(9,.ptr 5 0),(10,.ptr 6 0),(12,int (tb a b j).1),(57,int (if 2<m then 2 else m)),(58,int j)])
      (fun j=>mSt p m++[.box (zB t),.box [int 0,int 0],.box [int (tb a b j).2.1,int (tb a b j).2.2],.box [int a,int b]])
      (fun j=>j=0\/(j=1/\1<=m)\/(j=2/\2<=m)) (fun j=>2-j) 0 (.inl rfl)
      (mw [0,1,2,3,4,5,6] 0 (by rfl) (by simp[mSt,zN,zB,yR,tb,h2,hx])) ?_
     have haa0:0<=a*a:=Int.mul_nonneg hok.1 hok.1;have haa1:a*a<=4096*4096:=Int.mul_le_mul hok.2.1 hok.2.1 hok.1 (by decide);have hw1:=z8 a (by omega);have hw2:=z8 (1+a) (by omega);have hw3:=z8 (1+b) (by omega);have hw4:=z8 (a*a) (by omega);have hw5:=z8 (1+a+a*a) (by omega);have hw6:=z8 (1+b+b) (by omega);have hsel:∀j:Nat,True:=fun _=>trivial
     rintro j (rfl|⟨rfl,hm1⟩|⟨rfl,hm2⟩)
     .by_cases hm1:1<=m
      .have hK:(0:Int)<(if 2<m then 2 else m):=by split<;>omega
       simp[hK,mSt,yR,tb,hw1,hw2,hw3];exact zS 1 (.inr (.inl ⟨rfl,hm1⟩)) (by simp) (mw [0,1,2,3,4,5,6] 0 (by rfl) (by simp[mSt,zN,zB,yR,tb,show IntKind.i64.wrap 1=1 from by decide,show IntKind.i64.wrap 2=2 from by decide]))
      .have hK:¬((0:Int)<(if 2<m then 2 else m)):=by split<;>omega
       have hfin:eI m ⟨a,b,0⟩=⟨1,1,0⟩:=by simp[eI,show m<=0 by omega]
       simp[hK,mSt,yR,tb];exact mv [0,1,2] 0 (by rfl) (by simp[zN,szR,hfin,gH])
     .by_cases hm2:2<=m
      .have hK:(1:Int)<(if 2<m then 2 else m):=by split<;>omega
       simp[hK,mSt,yR,tb,hw4,hw5,hw6];exact zS 2 (.inr (.inr ⟨rfl,hm2⟩)) (by simp) (mw [0,1,2,3,4,5,6] 0 (by rfl) (by simp[mSt,zN,zB,yR,tb,show IntKind.i64.wrap 1=1 from by decide,show IntKind.i64.wrap 2=2 from by decide]))
      .have hK:¬((1:Int)<(if 2<m then 2 else m)):=by split<;>omega
       have hfin:eI m ⟨a,b,0⟩=⟨1+a,1+b,0⟩:=by simp[eI,show ¬m<=0 by omega,show m<=1 by omega]
       by_cases g4:4096<(1+a)
       .simp[hK,mSt,yR,tb,g4];exact ke [0,1,2] 0 (by rfl) (by simp[zN]) (by simp[szR,hfin,nG (N:=(1+b)) (.inl g4)])
       by_cases g5:256<(1+b)
       .simp[hK,mSt,yR,tb,g4,g5];exact ke [0,1,2] 0 (by rfl) (by simp[zN]) (by simp[szR,hfin,nG (M:=(1+a)) (.inr g5)])
       by_cases g6:(1+a)=0
       .simp[hK,mSt,yR,tb,g4,g5,g6];exact mv [0,1,2] 0 (by rfl) (by simp[zN,szR,hfin,g6,zAx g5])
       .simp[hK,mSt,yR,tb,g4,g5,g6];exact ke [0,1,2] 0 (by rfl) (by simp[zN]) (by simp[szR,hfin,zAw (show ¬((1+a) > 4096\/(1+b) > 256) by omega) g6])
     .have hK:¬((2:Int)<(if 2<m then 2 else m)):=by split<;>omega
      have hfin:eI m ⟨a,b,0⟩=⟨1+a+a*a,1+b+b,0⟩:=by simp[eI,show ¬m<=0 by omega,show ¬m<=1 by omega]
      by_cases g4:4096<(1+a+a*a)
      .simp[hK,mSt,yR,tb,g4];exact ke [0,1,2] 0 (by rfl) (by simp[zN]) (by simp[szR,hfin,nG (N:=(1+b+b)) (.inl g4)])
      by_cases g5:256<(1+b+b)
      .simp[hK,mSt,yR,tb,g4,g5];exact ke [0,1,2] 0 (by rfl) (by simp[zN]) (by simp[szR,hfin,nG (M:=(1+a+a*a)) (.inr g5)])
      by_cases g6:(1+a+a*a)=0
      .simp[hK,mSt,yR,tb,g4,g5,g6];exact mv [0,1,2] 0 (by rfl) (by simp[zN,szR,hfin,g6,zAx g5])
      .simp[hK,mSt,yR,tb,g4,g5,g6];exact ke [0,1,2] 0 (by rfl) (by simp[zN]) (by simp[szR,hfin,zAw (show ¬((1+a+a*a) > 4096\/(1+b+b) > 256) by omega) g6])
   .obtain⟨k,id,kids⟩:=t;simp only[Typ.k_mk]at h0 h1 h2;have hsz:yE p m (n+1) (.mk k id kids)=gH (bI (decide ((dfn p id).kind=0)) ((dfn p id).slots.map fun s=>yE p m n s.typ)):=by simp[yE,hv,h0,h1,h2];rfl
    have hok:=zFx (r:=decide ((dfn p id).kind=0)) (l:=(dfn p id).slots.map fun s=>yE p m n s.typ) (fun k hk=>by obtain⟨s,_,rfl⟩:=jAg.1 hk;exact eT p m hm n _)
    rw[hsz];simp[hd24,h0,h1,h2];refine mr (zSS p m id k kids d (by omega) (dfn p id) rfl (yE p m n) (fun s _=>⟨eT p m hm n _,ih s.typ (d+1) (by omega) (by omega)⟩) (hs.dfn id)) [0,1,2] (by simp[mSt,yR,zN,zB]) ?_;generalize bI (decide ((dfn p id).kind=0)) ((dfn p id).slots.map fun s=>yE p m n s.typ)=Z at hok ⊢;simp[szR,mSt,yR];refine jM (fun he=>?_) (fun he=>?_)<;>simp at he
    .simp;exact mv [0,1,2] 0 (by rfl) (by simp[zN,gH,szR,he])
    .obtain⟨a,b,e⟩:=Z;simp only at he;subst he;have hok:=hok rfl;simp only at hok;have hfin:True:=trivial;by_cases g4:4096<a
     .simp[mSt,yR,g4];exact mv [0,1,2] 0 (by rfl) (by simp[zN,szR,hfin,nG (N:=b) (.inl g4)])
     by_cases g5:256<b
     .simp[mSt,yR,g4,g5];exact mv [0,1,2] 0 (by rfl) (by simp[zN,szR,hfin,nG (M:=a) (.inr g5)])
     by_cases g6:a=0
     .simp[mSt,yR,g4,g5,g6];exact mv [0,1,2] 0 (by rfl) (by simp[zN,szR,hfin,g6,zAx g5])
     .simp[mSt,yR,g4,g5,g6];exact ke [0,1,2] 0 (by rfl) (by simp[zN]) (by simp[szR,hfin,zAw (show ¬(a > 4096\/b > 256) by omega) g6])
def size(p:Prg)(m:Int)(t:Typ):Sz:=yE p m 24 t
theorem zMh(p:Prg)(hs:Sml p)(m:Int)(hm:0<=m/\m<=64)(t:Typ):my 75 [.agg (zN p),.agg (zB t),int m] [] (szR (size p m t)) []:=by
 refine mq [] [.cell 6 2 true,.slot 7] func75 (by kernel_rfl) ?_
 (conv in kq _ _=>cbv)
 simp[zN,zB];refine mr (zSr p hs m hm 24 t 1 (by decide) (by decide)) [0,2,4] (by simp[mSt,yR,zN,zB]) ?_;simp[szR,mSt,yR,zN];exact zA 0 (by simp[szR,size])
section
variable{l:wB}
def stH(l:wB)(m:Gm)(Ds:wQ)(i:Nat):St :=
 [.box [.nil,.nil],.box (gB l m),.row false 112 6 1 [int (idR 0).a,int (idR 0).b,int (idR 0).c,.lit (.string ⟨#[99,111,114,101]⟩),.nil,.row 5 i],.box [.row 2 1,.row 4 Ds.length],.row false 41 31 Ds.length (z6 Ds),.row false 31 3 i (zV ((Ds.map (·.id)).take i))]
variable{i:Nat}
theorem zRS{Ds:wQ}(h:i<Ds.length):zV ((Ds.map (·.id)).take (i+1))=zV ((Ds.map (·.id)).take i)++[int Ds[i].id.a,int Ds[i].id.b,int Ds[i].id.c]:=by rw[jA8 (by simpa using h),yH];simp[zV]
theorem zUW(m:Gm)(Ds:wQ)(hD:Ds.length<=100):wpK prog 0 zLc (zL9 ⟨[⟨idR 0,⟨#[99,111,114,101]⟩,[],Ds.map (·.id)⟩],Ds⟩) (qS [(2,.ptr 0 0),(4,.ptr 3 0)]) (stG l m Ds):=by
 unfold zLc;simp[stG,gB];refine qO (S:=Nat) (fun i=>[(2,.ptr 0 0),(4,.ptr 3 0),(18,int i)]) (stH l m Ds) (fun i=>i<=Ds.length) (fun i=>Ds.length-i) 0 (by simp)
  ((mH (l:=2) (o:=5) rfl rfl 31 3).trans (mw [0,1,2,3,4,5] 0 (by rfl) (by simp[stH,gB,nX]))) ?_
 intro i hi;by_cases h:i<Ds.length
 .have hw:=qF h (show Ds.length<=maxLen by simp[maxLen];omega);have hd:=yD h;have hne:Ds≠[]:=fun e=>by rw[e]at h;simp at h
  have hb:i*31+3<=Ds.length*31:=by omega
  simp[stH,gB,h,hd,hne,zK,hb];refine⟨⟨by simp[maxLen];omega,by omega⟩,?_⟩;exact zS (i+1) h (by omega) (mw [0,1,2,3,4,5] 0 (by rfl) (by simp[stH,gB,zRS h,hw]))
 .have hie:i=Ds.length:=by omega
  subst hie;have htk:(Ds.map (·.id)).take Ds.length=Ds.map (·.id):=jAe (by simp);simp[stH,gB];exact zA 2 (by simp[zN,fM,nQ,htk])
theorem zRE(many:Nat)(m:Gm):Gst m (gI l many m).2.2 3:=by
 unfold gI;split
 .split
  all_goals
   exact((qR _).trans (qR _) (jAd _)).trans (qR _) (by omega)
 .exact(qR _).trans (qR _) (by omega)
theorem zJy(R:wQ)(x y:Nat)(s:Id)(m:Gm):zJx l R x y s m=fG l x y (R.getD x .zero) (R.getD y .zero) s m:=rfl
theorem zRG{R:wQ}(hR:∀d∈R,d.slots.length<=6)(y:Nat):(R.getD y .zero).slots.length<=6:=by
 by_cases h:y<R.length
 .rw[oV h];exact hR _ (jA0 h)
 .rw[jB7,jBd (by omega)];simp[Dfn.zero]
theorem zG2{R:wQ}(hR:∀d∈R,d.slots.length<=6)(m:Gm):∀n:Nat,Gst m (aU l R n m).2 (404*n)
 | 0=>Gst.refl _ (by omega)
 |n+1=>by have ih:=zG2 hR m n;simp only[aU,zBu,zJy];exact(ih.trans (zRE _ _) (jAd _)).trans (zLG _ _ _ _ _ _ (zRG hR _)) (by omega)
theorem zUV(hl:∀x∈l,w64 x=x)(R:wQ)(many:Nat)(hmany:R.length=many)(hm1:0<many)(hm2:many<=4)(m0:Gm)(hok:m0.Ok 4000)(hR:∀d∈R,d.slots.length<=6/\∀u∈d.slots,u.typ=tK u.typ.k/\(u.typ.k=0\/u.typ.k=1))
 (p:Prg)(hp:p=⟨[⟨idR 0,⟨#[99,111,114,101]⟩,[],(R++(aU l R (gN l m0 8).toNat m0.tick).1).map (·.id)⟩],R++(aU l R (gN l m0 8).toNat m0.tick).1⟩) :
 wpK prog 0 zLb (zL9 p) (qS [(2,.ptr 0 0),(3,.ptr 1 0),(4,.ptr 3 0),(5,int many)]) (stG l m0 R):=by
 obtain⟨v0,v1⟩:=dO hl m0 (n:=8) (by omega);obtain⟨cv,hcv⟩:∃cv:Nat,gN l m0 8=cv:=⟨(gN l m0 8).toNat,by omega⟩;have hR1:∀d∈R,d.slots.length<=6:=fun d hd=>(hR d hd).1
 rw[hcv]at hp v1;simp only[jCk]at hp;unfold zLb;simp[stG,gB];refine mr (eF (l:=l) m0 8 (by omega) (hok.mono (by omega))) [1] (by simp[gS,gB]) ?_;simp[gS,gB];rw[hcv];refine qO (S:=Nat) (fun i=>[(2,.ptr 0 0),(3,.ptr 1 0),(4,.ptr 3 0),(5,int many),(10,int cv),(11,int i)]) (fun i=>stG l (aU l R i m0.tick).2 (R++(aU l R i m0.tick).1)) (fun i=>i<=cv) (fun i=>cv-i) 0 (by simp)
  (mw [0,1,2,3,4] 0 (by rfl) (by simp[stG,gB,nX,aU])) ?_
 intro i hi;have hst:=zG2 (l:=l) hR1 m0.tick i;have hcl:=gX l R m0.tick i;by_cases h:i<cv
 .have hstep:aU l R (i+1) m0.tick=((aU l R i m0.tick).1++[(zBu l R i (aU l R i m0.tick).2).1],(zBu l R i (aU l R i m0.tick).2).2):=rfl;generalize hmi:(aU l R i m0.tick).2=mi at hst hstep;generalize hki:(aU l R i m0.tick).1=ki at hcl hstep;have hok1:mi.Ok 1000:=hok.adv ((qR m0).trans hst (jAd _)) (by omega);have hwi:=jY i (by omega);obtain⟨x0,x1⟩:=dO hl mi (n:=many) (by omega);obtain⟨y0,y1⟩:=dO hl mi.tick (n:=many) (by omega);obtain⟨x,hx⟩:∃x:Nat,gN l mi many=x:=⟨(gN l mi many).toNat,by omega⟩;obtain⟨y,hy⟩:∃y:Nat,gN l mi.tick many=y:=⟨(gN l mi.tick many).toNat,by omega⟩;rw[hx]at x0 x1;rw[hy]at y0 y1;have hxl:x<many:=by omega
  have hyl:y<many:=by omega
  have n1:=eF (l:=l) mi many (by omega) (hok1.mono (by omega));have n2:=eF (l:=l) mi.tick many (by omega) (hok1.adv (qR mi) (by omega));have fin:∀(x' y':Nat) (m':Gm),x'<many->y'<many->m'.Ok 500->gI l R.length mi=(x',y',m')->∀Q:Ex->wK,
   (∀env' U',bW 0 (qS [(2,.ptr 0 0),(3,.ptr 1 0),(4,.ptr 3 0),(5,int many),(10,int cv),(11,int i)]) (stG l (aU l R (i+1) m0.tick).2 (R++(aU l R (i+1) m0.tick).1)) env' U'->Q .norm env' U') ->
   wpK prog 0 zHw Q (qS [(2,.ptr 0 0),(3,.ptr 1 0),(4,.ptr 3 0),(5,int many),(10,int cv),(11,int i),(12,int x'),(13,int y')]) (stG l m' (R++ki)):=by
   intro x' y' m' hx' hy' hok2 he Q hQ;have hxR:x'<R.length:=by omega
   have hyR:y'<R.length:=by omega
   have ex:(R++ki)[x']'(by simp;omega)=R[x']:=jBn hxR;have ey:(R++ki)[y']'(by simp;omega)=R[y']:=jBn hyR;refine zZ7 hl Q m' hok2 (R++ki) x' y' i (by simp;omega) (by simp;omega) (by simp;omega) (by omega) many cv (by rw[ex];exact(hR _ (jA0 hxR)).1) (by rw[ey];exact(hR _ (jA0 hyR)).1) (by rw[ey];exact(hR _ (jA0 hyR)).2) fun E S hw=>hQ E S ?_
   rw[hstep];simp only[zBu,he,zJy,oV hxR,oV hyR];rw[ex,ey]at hw;rw[<-jAq];exact hw
  have hcR:(R++ki).length=R.length+i:=by simp[hcl]
  simp[stG,gB,h];refine mr n1 [1] (by simp[gS,gB]) ?_;simp[gS,gB,hx];refine mr n2 [1] (by simp[gS,gB]) ?_;simp[gS,gB,hy];by_cases hxy:x=y
  .have hxy':(x:Int)=y:=by omega
   have n3:=eF (l:=l) mi.tick.tick 3 (by omega) (hok1.adv ((qR mi).trans (qR _) (jAd _)) (by omega));simp[hxy'];refine mr n3 [1] (by simp[gS,gB]) ?_;by_cases h3:0<gN l mi.tick.tick 3
   .have wx:=jY x (by omega);have wy:=jY y (by omega);have hmn:¬many=0:=by omega
    have htm:((y:Int)+1).tmod many=(((y+1) % many:Nat):Int):=by rw[jD1 (by omega)];simp
    have he:gI l R.length mi=(x,(x+1) % many,mi.tick.tick.tick):=by unfold gI;rw[hmany,hx,hy,if_pos hxy',if_pos h3];simp
    simp[gS,gB,h3,wx,wy,htm,hmn];refine⟨_,_,kf [0,1,2,3,4] 0 (by rfl) ?_ ?_,fin x ((x+1) % many) mi.tick.tick.tick (by omega) (Nat.mod_lt _ (by omega)) (hok1.adv (((qR mi).trans (qR _) (jAd _)).trans (qR _) (jAd _)) (by omega)) he _ fun E S hw=>?_⟩
    .simp[stG,gB,nX]
    .simp[hxy,hxy']
    .simp;refine⟨_,_,hw,?_⟩;simp[stG,gB];exact zS (i+1) h (by omega) (mw [0,1,2,3,4] 0 (by rfl) (by simp[stG,gB,nX,hwi]))
   .have he:gI l R.length mi=(x,x,mi.tick.tick.tick):=by unfold gI;rw[hmany,hx,hy,if_pos hxy',if_neg h3];simp
    simp[gS,gB,h3];refine⟨_,_,kf [0,1,2,3,4] 0 (by rfl) ?_ ?_,fin x x mi.tick.tick.tick (by omega) (by omega) (hok1.adv (((qR mi).trans (qR _) (jAd _)).trans (qR _) (jAd _)) (by omega)) he _ fun E S hw=>?_⟩
    .simp[stG,gB,nX]
    .simp[hxy,hxy']
    .simp;refine⟨_,_,hw,?_⟩;simp[stG,gB];exact zS (i+1) h (by omega) (mw [0,1,2,3,4] 0 (by rfl) (by simp[stG,gB,nX,hwi]))
  .have hxy':¬(x:Int)=y:=by omega
   .have he:gI l R.length mi=(x,y,mi.tick.tick):=by unfold gI;rw[hmany,hx,hy,if_neg hxy'];simp
    simp[gS,gB,hxy'];refine⟨_,_,kf [0,1,2,3,4] 0 (by rfl) ?_ ?_,fin x y mi.tick.tick (by omega) (by omega) (hok1.adv ((qR mi).trans (qR _) (jAd _)) (by omega)) he _ fun E S hw=>?_⟩
    .simp[stG,gB,nX]
    .simp
    .simp;refine⟨_,_,hw,?_⟩;simp[stG,gB];exact zS (i+1) h (by omega) (mw [0,1,2,3,4] 0 (by rfl) (by simp[stG,gB,nX,hwi]))
 .have hie:i=cv:=by omega
  subst hie;simp[stG,gB];have hC:=zUW (l:=l) (aU l R i m0.tick).2 (R++(aU l R i m0.tick).1) (by simp;omega);rw[<-hp]at hC;refine⟨_,_,kf [0,1,2,3,4] 0 (by rfl) ?_ ?_,hC⟩
  .simp[stG,gB,nX]
  .simp
theorem zCr(i:Nat)(m:Gm):∀n:Nat,Gst m (aZ l i n m).2 n
 | 0=>Gst.refl _ (by omega)
 |n+1=>by simp only[aZ];exact(zCr i m n).trans (qR _) (by omega)
theorem zRF(hl:∀x∈l,w64 x=x)(i:Nat)(m:Gm):Gst m (u9 l i m).2 3:=by
 obtain⟨h0,h1⟩:=dO hl m (n:=2) (by omega);have hc:eE l m<=2:=by unfold eE;omega
 exact((qR m).trans (zCr i _ _) (jAd _)).mono (by omega)
theorem zJ4(hl:∀x∈l,w64 x=x)(m:Gm):∀n:Nat,Gst m (yU l n m).2 (3*n)
 | 0=>Gst.refl _ (by omega)
 |n+1=>by simp only[yU];exact(zJ4 hl m n).trans (zRF hl _ _) (by omega)
theorem zT5(h:i<4):∃R,List.drop i [A.lit (.string ⟨#[65]⟩),.lit (.string ⟨#[66]⟩),.lit (.string ⟨#[67]⟩),.lit (.string ⟨#[68]⟩)]=.lit (.string (zXJ.getD i ⟨#[]⟩))::R:=by
 have:i=0\/i=1\/i=2\/i=3:=by omega
 rcases this with rfl|rfl|rfl|rfl<;>exact⟨_,rfl⟩
theorem qA0(h:i<2):∃R,List.drop i [A.lit (.string ⟨#[120]⟩),.lit (.string ⟨#[121]⟩)]=.lit (.string (xyT.getD i ⟨#[]⟩))::R:=by
 have:i=0\/i=1:=by omega
 rcases this with rfl|rfl<;>exact⟨_,rfl⟩
def u7(i:Nat)(ss:List Slt):Dfn:=⟨idR ((1+i:Nat):Int),0,idR 0,zXJ.getD i ⟨#[]⟩,ss,.zero,.zero,0,[]⟩
def gRB(i k:Nat):wE:=(zK (u7 i [])).take 8++[.row 6 k]++(zK (u7 i [])).drop 9
theorem zRM(hl:∀x∈l,w64 x=x):my 28 [.sl l.length (yC l)] [] (.agg (zN (u6 l))) []:=by
 obtain⟨v0,v1⟩:=dO hl ⟨0,40⟩ (n:=3) (by omega);have hmN:gN l ⟨0,40⟩ 3+2=yY l:=by have:gN l ⟨0,40⟩ 3=atV l 0 3:=rfl;unfold yY;rw[<-this];omega
 have hm2:yY l<=4:=by omega
 have hm1:2<=yY l:=by omega
 have hw2:IntKind.i64.wrap (2+gN l ⟨0,40⟩ 3)=yY l:=by rw[<-hmN,Int.add_comm];exact IntWalk.i64_in _ (by omega)
 have hgp:u6 l=⟨[⟨idR 0,⟨#[99,111,114,101]⟩,[],(aJ l).map (·.id)⟩],aJ l⟩:=rfl;have hgd:aJ l=(yU l (yY l) ⟨1,40⟩).1++(aU l (yU l (yY l) ⟨1,40⟩).1 (gN l (yU l (yY l) ⟨1,40⟩).2 8).toNat (yU l (yY l) ⟨1,40⟩).2.tick).1:=rfl;have hRf:∀d∈(yU l (yY l) ⟨1,40⟩).1,d.slots.length<=6/\∀u∈d.slots,u.typ=tK u.typ.k/\(u.typ.k=0\/u.typ.k=1):=fun d hd=>⟨(sS hl d hd).few,fun u hu=>(sS hl d hd).typ hu⟩
 generalize yY l=many at *
 refine zM func28 rfl qEs (rs:=[.cell 2 2 true]) (by kernel_rfl) ?_;unfold zVK;simp;refine mu (vA 0) (by simp[zL]) ?_;simp[zL];refine mr (eF (l:=l) ⟨0,40⟩ 3 (by omega) (by simp[Gm.Ok])) [1] (by simp[gS,gB]) ?_;simp[gS,gB,hw2];refine qO (S:=Nat) (fun i=>[(2,.ptr 0 0),(3,.ptr 1 0),(4,.ptr 3 0),(5,int many),(6,int i)]) (fun i=>stG l (yU l i ⟨1,40⟩).2 (yU l i ⟨1,40⟩).1) (fun i=>i<=many) (fun i=>many-i) 0 (by simp)
  ((yJ (l:=3) (o:=1) rfl rfl 41 31).trans (mw [0,1,2,3,4] 0 (by rfl) (by simp[stG,gB,nX,yU,Gm.tick]))) ?_
 intro i hi;have hst:=zJ4 hl ⟨1,40⟩ i;have hcl:=iF l ⟨1,40⟩ i;by_cases h:i<many
 .have hstep:yU l (i+1) ⟨1,40⟩=((yU l i ⟨1,40⟩).1++[(u9 l i (yU l i ⟨1,40⟩).2).1],(u9 l i (yU l i ⟨1,40⟩).2).2):=rfl;generalize hmi:(yU l i ⟨1,40⟩).2=mi at hst hstep;generalize hki:(yU l i ⟨1,40⟩).1=Ri at hcl hstep;have hok0:(⟨1,40⟩:Gm).Ok 6000:=by simp[Gm.Ok]
  have hok1:mi.Ok 5000:=hok0.adv hst (by omega);have hwi:=jY i (by omega);have w1:=z8 (1+(i:Int)) (by omega);have w2:=z8 (2*(i:Int)) (by omega);have w3:=z8 (20+2*(i:Int)) (by omega);have i1:=vA (1+(i:Int));have i0:=vA 0;have hi4:i<4:=by omega
  have hi4':(i:Int)<4:=by omega
  obtain⟨c0,c1⟩:=dO hl mi (n:=2) (by omega);have hcnt:1+gN l mi 2=(eE l mi:Int):=by unfold eE;omega
  have hcr:=sP hl mi;have wc:IntKind.i64.wrap (1+gN l mi 2)=eE l mi:=by rw[<-hcnt];exact IntWalk.i64_in _ (by omega)
  obtain⟨Ra,ha⟩:=zT5 hi4;have hrec:(u9 l i mi).1=u7 i (aZ l i (eE l mi) mi.tick).1:=rfl;have hrec2:(u9 l i mi).2=(aZ l i (eE l mi) mi.tick).2:=rfl;generalize eE l mi=cnt at *
  simp[stG,gB,h,w1];refine j3 i1 (by simp) (by simp[zL]) ?_;refine j3 i0 (by simp) (by simp[zL]) ?_;simp[hi4,hi4',ha,zL];refine mr (eF (l:=l) mi 2 (by omega) (hok1.mono (by omega))) [1] (by simp[gS,gB]) ?_;simp[gS,gB,wc];refine qO (S:=Nat) (fun k=>[(2,.ptr 0 0),(3,.ptr 1 0),(4,.ptr 3 0),(5,int many),(6,int i),(7,.ptr 5 0),(8,int cnt),(9,int k)]) (fun k=>stG l (aZ l i k mi.tick).2 Ri++[.box (gRB i k),.row false 85 11 k (jN (aZ l i k mi.tick).1)]) (fun k=>k<=cnt) (fun k=>cnt-k) 0 (by simp)
   ((yJ (l:=5) (o:=8) rfl rfl 85 11).trans (mw [0,1,2,3,4,5,6] 0 (by rfl) (by simp[stG,gB,nX,aZ,gRB,u7,zK,zL,Typ.zero,Exp.zero,Id.zero,Typ.k,Typ.id,Typ.kids]))) ?_
  intro k hk;have hst2:=zCr (l:=l) i mi.tick k;have hsl:=lM l i mi.tick k;by_cases hk2:k<cnt
  .have hsstep:aZ l i (k+1) mi.tick=((aZ l i k mi.tick).1++[zN2 l i k (aZ l i k mi.tick).2],(aZ l i k mi.tick).2.tick):=rfl;generalize hmk:(aZ l i k mi.tick).2=mk at hst2 hsstep;generalize hss:(aZ l i k mi.tick).1=ss at hsl hsstep;have hwk:=jY k (by omega);have w4:=z8 (20+2*(i:Int)+k) (by omega);have i2:=vA (20+2*(i:Int)+k);have hk3:k<2:=by omega
   have hk3':(k:Int)<2:=by omega
   obtain⟨Rx,hxy⟩:=qA0 hk3;obtain⟨g0,g1⟩:=dO hl mk (n:=3) (by omega);have nk:=eF (l:=l) mk 3 (by omega) (hok1.adv ((qR mi).trans hst2 (jAd _)) (by omega));simp[stG,gB,hk2,w2,w3,w4,gRB,u7,zK];refine qA i2 (by simp) (by simp[zL]) ?_;simp[hk3,hk3',hxy];refine aK nk [1] (by decide) (by simp[gS,gB]) (by simp) (by decide) (by simp) (by simp[gS]) ?_;have hg3:gN l mk 3=0\/gN l mk 3=1\/gN l mk 3=2:=by omega
   rcases hg3 with hg|hg|hg
   all_goals
    simp[gS,gB,hg,zL];refine⟨⟨by simp[maxLen];omega,by omega⟩,?_⟩;exact zS (k+1) hk2 (by omega) (mw [0,1,2,3,4,5,6] 0 (by rfl) (by simp[stG,gB,nX,hsstep,pK,mB,gRB,u7,zK,j4,zN2,hg,tK,jK,jR,zL,Typ.zero,Exp.zero,Id.zero,Typ.k,Typ.id,Typ.kids,hwk]))
  .have hke:k=cnt:=by omega
   subst hke;generalize hmk:(aZ l i k mi.tick).2=mk at hst2 hrec2;generalize hss:(aZ l i k mi.tick).1=ss at hsl hrec;subst hsl;subst hcl;simp[stG,gB];refine⟨qS [(2,.ptr 0 0),(3,.ptr 1 0),(4,.ptr 3 0),(5,int many),(6,int Ri.length),(7,.ptr 5 0)],stG l mk Ri++[.box (zK (u7 Ri.length ss))],mw [0,1,2,3,4,5] 1 (by rfl) (by simp[stG,gB,nX,gRB,u7,zK]),?_⟩;simp[stG,gB,zK];refine⟨⟨by simp[maxLen];omega,by omega⟩,?_⟩;exact zS (Ri.length+1) h (by omega) (mw [0,1,2,3,4] 0 (by rfl) (by simp[stG,gB,nX,hstep,hrec,hrec2,x7,uL,zK,hwi]))
 .have hie:i=many:=by omega
  subst hie;simp[stG,gB];have hok0:(⟨1,40⟩:Gm).Ok 6000:=by simp[Gm.Ok]
  have hB:=zUV hl (yU l i ⟨1,40⟩).1 i hcl (by omega) (by omega) (yU l i ⟨1,40⟩).2 (hok0.adv hst (by omega)) hRf (u6 l) (by rw[hgp,hgd]);refine⟨_,_,kf [0,1,2,3,4] 0 (by rfl) ?_ ?_,hB⟩
  .simp[stG,gB,nX]
  .simp
end
def qC8:K:=G [kO 3 0,kO 4 1,kMn 6] (G [kZ 7 [kl]] (Z (G [D 21 4 0,L 22 21 1] (K.block 0 (G [kQi 24 22 0 false,M 23 24] (Y 23 (Z (G [M 25 2,⟨none,.neg (some 26) (kt 25)⟩,M 8 26] (K.block 1 (K.loop (Z (G [M 27 8,M 28 2,kB 29 27 28 .leq] (Y 29 ks (K.exit 1))) (Z (K.block 2 (K.dops [(0,0,L 32 7 1),(1,0,M 33 8),(2,0,kb 34 [ki,ki,kl] [(0,1,(kc 0)),(1,1,(kt 33))]),(3,0,kN 35 32),(4,0,kd 36 46 3 1 [ki,ki,kl] [(0,3,(.const (.agg #[ki,ki,kl])))]),(5,0,kP 37 46 3 40 32 36),(6,6,kX 38 37 35 3),(7,6,S 38 34 3),(8,5,S 7 37 1)])) (K.ops [M 30 8,kBi 31 30 1 .add,M 8 31])))))) (G [L 39 7 1,M 6 39] kr)) (G [kQi 41 22 1 false,M 40 41] (Y 40 (G [kb 42 [ki,ki,kl] [(0,1,(kc 1))],kb 43 [ki,ki,kl] [(0,1,(kc 1)),(1,1,(kc 1))],⟨none,.brow (some 44) 46 3 2 [ki,ki,kl,ki,ki,kl] [(0,3,(kt 42)),(3,3,(kt 43))]⟩,M 6 44] kr) (G [kQi 46 22 2 false,M 45 46] (Y 45 (Z (K.dops [(0,1,J 47 3 2),(1,1,D 48 4 4),(2,1,L 49 48 1),(3,1,kXi 50 49 5 0),(4,1,J 51 50 5),(5,0,M 52 2),(6,3,kC 53 76 [(kt 47),(kt 51),(kt 52)]),(7,0,M 9 53)]) (Z (G [M 54 2,⟨none,.mm (some 55) false [(kt 54),(kc 2)]⟩,kBi 56 55 1 .add,kMi 57 0] (K.block 3 (K.loop (G [kB 58 57 56 .lss] (Z (Y 58 ks (K.exit 3)) (Z (K.block 4 (G [M 59 57,M 10 59] (G [M 60 9,kd 61 44 1 1 [kl] [(0,1,(kt 60))],M 62 10,kC 63 119 [(kt 61),(kt 62)],kC 64 118 [(kt 63)]] (K.block 5 (K.rng (kt 64) [65] (K.ops [M 11 65]) (K.block 6 (K.dops [(0,0,L 66 7 1),(1,0,
 M 67 11),(2,0,kb 68 [ki,ki,kl] [(0,1,(kc 4)),(2,1,(kt 67))]),(3,0,kN 69 66),(4,0,kd 70 46 3 1 [ki,ki,kl] [(0,3,(.const (.agg #[ki,ki,kl])))]),(5,0,kP 71 46 3 40 66 70),(6,6,kX 72 71 69 3),(7,6,S 72 68 3),(8,5,S 7 71 1)]))))))) (K.ops [kBi 73 57 1 .add,M 57 73]))))))) (G [L 74 7 1,M 6 74] kr))) ks)))))))) (G [J 76 3 2,D 77 4 1,J 78 77 3,kC 79 96 [(kt 76),(kt 78)],M 75 79,kE 80 75 0,kE 81 75 1,kZ 12 kz0,S 12 80 31,M 13 81] (G [kMn 14] (Z (G [D 82 12 8,L 83 82 1,kN 84 83,kMi 85 0] (K.block 7 (K.loop (G [kB 86 85 84 .lss] (Z (Y 86 ks (K.exit 7)) (Z (K.block 8 (G [M 87 85,kX 88 83 85 11,J 89 88 11,kZ 16 kz5,M 15 87,S 16 89 11] (G [J 90 3 2,D 91 16 4,J 92 91 5,M 93 2,kC 94 76 [(kt 90),(kt 92),(kt 93)],M 17 94] (G [M 95 14,M 96 17,kd 97 44 1 1 [kl] [(0,1,(kt 96))],kP 98 44 1 24 95 97,M 14 98] (G [M 99 17,kN 100 99,kMi 101 0] (K.block 9 (K.loop (G [kB 102 101 100 .lss] (Z (Y 102 ks (K.exit 9)) (Z (K.block 10 (G [kX 103 99 101 3,J 104 103 3,kZ 19 [ki,ki,kl],S 19 104 3] (G [D 105 12 3,L 106 105 1,kQi 107 106 1 false] (Y 107 (K.dops [(0,0,L 108 7 1),(1,0,M 109 15),(2,0,J 110 19 3),(3,0,kd 111 46 3 1 [ki,ki,kl] [(0,3,(kt 110))]),(4,0,kb 112 [ki,ki,kl] [(0,1,(kc 3)),(1,1,(kt 109)),(2,1,(kt 111))]),(5,0,kN 113 108),(6,0,kd 114 46 3 1 [ki,ki,kl] [(0,3,(.const (.agg #[ki,ki,kl])))]),(7,0,kP 115 46 3 40 108 114),(8,6,kX 116 115 113 3),(9,6,S 116 112 3),(10,5,S 7 115 1)]) ks)))) (K.ops [kBi 117 101 1 .add,M 101 117]))))))))))) (K.ops [kBi 118 85 1 .add,M 85 118]))))))) (Z (G [D 119 12 3,
 L 120 119 1,kQi 121 120 0 false] (Y 121 (K.wk (G [M 122 14,kC 123 118 [(kt 122)]] (K.block 11 (K.rng (kt 123) [124] (K.ops [M 20 124]) (K.block 12 (K.dops [(0,0,L 125 7 1),(1,0,M 126 20),(2,0,kb 127 [ki,ki,kl] [(0,1,(kc 2)),(2,1,(kt 126))]),(3,0,kN 128 125),(4,0,kd 129 46 3 1 [ki,ki,kl] [(0,3,(.const (.agg #[ki,ki,kl])))]),(5,0,kP 130 46 3 40 125 129),(6,6,kX 131 130 128 3),(7,6,S 131 127 3),(8,5,S 7 130 1)])))))) ks)) (G [L 132 7 1,M 6 132] kr)))))))
def zD0:Nat->Option wD:=fun|12=>k_ [1,1,1,1,1,0,3,0] | 7=>k_ [0,0,0,0,0,0,6,6,5] | 18=>k_ [0,0,0,0,0,0,6,6,5] | 38=>k_ [0,0,0,0,0,0,6,6,5] | 32=>k_ [0,0,0,0,0,0,0,0,6,6,5]|_=>none
theorem qK2:kx f76 zD0 qC8:=mz (by kernel_rfl)
def mT(m:Int):wI:=(List.range (2*m+1).toNat).map fun(i:Nat)=>.mk 0 (i-m) []
def zHX(m:Int)(e:wI):wI:=(List.range ((if 2<m then 2 else m)+1).toNat).flatMap fun k=>(aQ (List.replicate k e)).map (.mk 4 0)
def yF(i:Int):List wI->wI
 |[]=>[]
 |l::r=>l.map (fun v=>.mk 3 i [v])++yF (i+1) r
def rL(l:List wI):wI:=(aQ l).map (.mk 2 0)
def tM(k:Int)(l:List wI):wI:=if k=0 then rL l else if k=1 then yF 0 l else []
def dS(p:Prg)(m:Int):Nat->Typ->wI
 | 0,_=>[]
 |n+1,t=>if t.k=0 then mT m else if t.k=1 then [.mk 1 0 [],.mk 1 1 []]else if t.k=2 then zHX m (dS p m n (t.kids.headD Typ.zero))
  else tM (dfn p t.id).kind ((dfn p t.id).slots.map fun s=>dS p m n s.typ)
theorem zB8:∀(l acc:List wI),(l.foldl gL acc).length=acc.length*(l.map List.length).foldl (· * ·) 1
 |[],acc=>by simp
 |a::l,acc=>by
  have h:∀(l:wA) (x y:Nat),l.foldl (· * ·) (x*y)=x*l.foldl (· * ·) y:=by
   intro l;induction l with
   |nil=>intro x y;rfl
   |cons a l ih=>intro x y;simp only[jBp,Nat.mul_assoc,ih]
  simp only[jBp,jAi,zB8 l,i9,Nat.one_mul];have:=h (l.map List.length) a.length 1;rw[Nat.mul_one]at this;rw[this,Nat.mul_assoc]
theorem zGV:∀(l:List wI) (z:List Sz) (a b:Int),z.map (·.a)=l.map (fun x=>(x.length:Int))->(pQ a b z).e=0->(pQ a b z).a=a*((l.map List.length).foldl (· * ·) 1:Nat)
 |[],[],a,b,_,_=>by simp[pQ]
 |x::l,k::z,a,b,h,he=>by
  simp only[jAi,jBf]at h;simp only[pQ]at he ⊢;split at he
  .simp at he
  .rename_i hn;rw[if_neg hn,zGV l z _ _ h.2 he,h.1];have hh:∀(l:wA) (x y:Nat),l.foldl (· * ·) (x*y)=x*l.foldl (· * ·) y:=by
    intro l;induction l with
    |nil=>intro x y;rfl
    |cons a l ih=>intro x y;simp only[jBp,Nat.mul_assoc,ih]
   have:=hh (l.map List.length) x.length 1;rw[Nat.mul_one]at this;simp only[jAi,jBp,Nat.one_mul,this];rw[Int.natCast_mul,Int.mul_assoc]
 |[],_::_,_,_,h,_=>by simp at h
 |_::_,[],_,_,h,_=>by simp at h
theorem zDY:∀(l:List wI) (z:List Sz) (i a b:Int),z.map (·.a)=l.map (fun x=>(x.length:Int))->(lE a b z).a=a+(yF i l).length
 |[],[],i,a,b,_=>by simp[lE,yF]
 |x::l,k::z,i,a,b,h=>by simp only[jAi,jBf]at h;simp only[lE,yF,jA5,jAb];rw[zDY l z (i+1) _ _ h.2,h.1];omega
 |[],_::_,_,_,_,h=>by simp at h
 |_::_,[],_,_,_,h=>by simp at h
theorem zMb(m:Int)(hm:0<=m)(e:wI)(k:Sz)(hk:k.a=e.length)(he:k.e=0):(eI m k).a=(zHX m e).length:=by
 have h2:gL (gL [[]] e) e=aQ [e,e]:=rfl;unfold eI zHX;rw[if_neg (by simp[he])];have c0:m=0\/m=1\/2<=m:=by omega
 rcases c0 with rfl|rfl|hm
 .simp[List.range_succ]
 .simp[List.range_succ,aQ,i9,hk];omega
 .have e1:((if 2<m then 2 else m)+1).toNat=3:=by split<;>omega
  rw[e1,if_neg (by omega),if_neg (by omega)];simp[List.range_succ,aQ,i9,hk,List.replicate];omega
theorem zSq{n:Nat}(ih:∀t,(yE p m n t).e=0->(yE p m n t).a=(dS p m n t).length):∀(l:List Slt),sL (l.map fun s=>yE p m n s.typ)=0 ->
 (l.map fun s=>yE p m n s.typ).map (·.a)=(l.map fun s=>dS p m n s.typ).map (fun x=>(x.length:Int)):=by
 intro l h;have h0:=lL h;rw[jCc,jCc];apply jC2;intro s hs;exact ih s.typ (h0 _ (List.mem_map_of_mem hs))
theorem xC{k:Sz}(h:(gH k).e=0):k.e=0/\(gH k).a=k.a/\k.a<=4096:=by
 unfold gH at h⊢;split at h
 .simp at h;contradiction
 .rename_i h1;split at h
  .simp at h
  .rename_i h2;rw[if_neg h1,if_neg h2];simp at h1;exact⟨h1,rfl,by omega⟩
theorem zAL{n:Nat}{t:Typ}(h:j9 p n t=true)(h0:t.k≠0)(h1:t.k≠1)(h2:t.k≠2):(dfn p t.id).kind=0\/(dfn p t.id).kind=1:=by
 cases n with
 |zero=>simp[j9]at h
 |succ n =>
  cases t with
  |mk k id kids =>
   simp only[Typ.k_mk]at h0 h1 h2;unfold dfn;simp only[j9,Typ.k_mk,Typ.id_mk,Typ.kids_mk,h2,if_false]at h;by_cases hk:kids=[]
   .by_cases h3:k=3
    .cases hf:jH p.defs id with
     |none=>simp[hk,h3,hf,s4]at h
     |some d=>simpa[hk,h3,hf,s4]using h
    .simp[hk,h3,h0,h1]at h
   .simp[hk]at h
theorem oE(p:Prg)(m:Int)(hm:0<=m):∀(n:Nat) (t:Typ),(yE p m n t).e=0->(yE p m n t).a=(dS p m n t).length
 | 0,t,h=>by unfold yE at h;split at h<;>simp at h
 |n+1,t,h=>by
  unfold yE dS at *
  split at h
  .simp at h
  rename_i hv;have hv:validT p t=true:=by simpa using hv
  rw[if_neg (by simp[hv])];by_cases h0:t.k=0
  .simp[h0,mT];omega
  by_cases h1:t.k=1
  .simp[h1]
  by_cases h2:t.k=2
  .rw[if_neg h0,if_neg h1,if_pos h2]at h⊢;rw[if_neg h0,if_neg h1,if_pos h2];obtain⟨e1,e2,_⟩:=xC h;have e3:(yE p m n (t.kids.headD Typ.zero)).e=0:=by
    by_cases hz:(yE p m n (t.kids.headD Typ.zero)).e=0
    .exact hz
    .exact absurd e1 (by rw[eI,if_pos hz];exact hz)
   rw[e2];exact zMb m hm _ _ (oE p m hm n (t.kids.headD Typ.zero) e3) e3
  .rw[if_neg h0,if_neg h1,if_neg h2]at h⊢;rw[if_neg h0,if_neg h1,if_neg h2];obtain⟨e1,e2,_⟩:=xC h;rw[e2];have e3:sL ((dfn p t.id).slots.map fun s=>yE p m n s.typ)=0:=by
    by_cases hz:sL ((dfn p t.id).slots.map fun s=>yE p m n s.typ)=0
    .exact hz
    .exact absurd e1 (by simp[bI,hz])
   have e4:=zSq (fun t=>oE p m hm n t) _ e3;have e5:=zAL hv h0 h1 h2;unfold tM;rcases e5 with e5|e5
   .rw[if_pos e5];have ee:bI (decide ((dfn p t.id).kind=0)) ((dfn p t.id).slots.map fun s=>yE p m n s.typ)=pQ 1 1 ((dfn p t.id).slots.map fun s=>yE p m n s.typ):=by simp[bI,e3,e5]
    rw[ee]at e1 ⊢;rw[zGV _ _ _ _ e4 e1,rL,jAb,aQ,zB8];simp
   .rw[if_neg (by omega),if_pos e5];have ee:bI (decide ((dfn p t.id).kind=0)) ((dfn p t.id).slots.map fun s=>yE p m n s.typ)=lE 0 1 ((dfn p t.id).slots.map fun s=>yE p m n s.typ):=by simp[bI,e3,e5]
    rw[ee,zDY _ _ 0 _ _ e4];simp
def num(x:Int):Val:=.mk 0 x []
variable{j:Nat}
theorem zPb(h:j<(2*m+1).toNat):(mT m).take (j+1)=(mT m).take j++[.mk 0 (j-m) []]:=by rw[jA8 (by simpa[mT]using h)];simp[mT]
def aP(X:wI)(j:Nat):wI:=(List.range j).flatMap fun k=>(aQ (List.replicate k X)).map (.mk 4 0)
mutual
theorem zOn:∀(a:A) (k:Nat),vw j5 (fun _=>none) a=a->a.bnd k=true
 | .any,k,h=>rfl
 | .nil,k,h=>rfl
 | .lit _,k,h=>rfl
 | .agg cs,k,h=>by simp only[vw,A.agg.injEq]at h;simpa[A.bnd]using dX cs k h
 | .tup cs,k,h=>by simp only[vw,A.tup.injEq]at h;simpa[A.bnd]using dX cs k h
 | .sl n cs,k,h=>by simp only[vw,A.sl.injEq]at h;simpa[A.bnd]using dX cs k h.2
 | .fsl n cs,k,h=>by simp only[vw,A.fsl.injEq]at h;simpa[A.bnd]using dX cs k h.2
 | .ptr l off,k,h=>by simp[vw]at h
 | .rptr cs,k,h=>by simp only[vw,A.rptr.injEq]at h;simpa[A.bnd]using dX cs k h
 | .row l n,k,h=>by simp[vw,j5]at h
 | .rwp l n off,k,h=>by simp[vw]at h
 | .map l,k,h=>by simp[vw]at h
 | .clo f first cap,k,h=>by simp only[vw,A.clo.injEq,true_and]at h;simp[A.bnd,dX first k h.1,dX cap k h.2]
theorem dX:∀(cs:wE) (k:Nat),vwL j5 (fun _=>none) cs=cs->dT k cs=true
 |[],k,h=>rfl
 |c::cs,k,h=>by simp only[vwL,jBf]at h;simp[dT,zOn c k h.1,dX cs k h.2]
end
theorem vD(X:wI)(j:Nat):aP X (j+1)=aP X j++(aQ (List.replicate j X)).map (.mk 4 0):=by simp[aP,List.range_succ]
theorem zMa(X:wI)(j d:Nat):∃R,aP X (j+d)=aP X j++R:=by
 induction d with
 |zero=>exact⟨[],by simp⟩
 |succ d ih =>
  obtain⟨R,hR⟩:=ih;exact⟨R++(aQ (List.replicate (j+d) X)).map (.mk 4 0),by rw[<-jBk,vD,hR,jAq]⟩
theorem zJR{X:wI}{N i:Nat}(h:j<N)(hi:i<(aQ (List.replicate j X)).length) :
 (aP X N).take ((aP X j).length+(i+1))=(aP X N).take ((aP X j).length+i)++[.mk 4 0 (aQ (List.replicate j X))[i]]/\(aP X j).length+(i+1)<=(aP X N).length:=by
 obtain⟨R,hR⟩:=zMa X (j+1) (N-(j+1));rw[show j+1+(N-(j+1))=N by omega,vD]at hR;have hl:(aP X j).length+(i+1)<=(aP X N).length:=by rw[hR];simp;omega
 refine⟨?_,hl⟩;rw[<-jBk,jA8 (by omega)]
 congr 2
 have:(aP X N)[(aP X j).length+i]?=some (.mk 4 0 (aQ (List.replicate j X))[i]):=by rw[hR,jAq,jAy (by omega),Nat.add_sub_cancel_left,jAj (by simpa using hi)];simp[hi]
 rw[jA1 (by omega)]at this;exact jB0 this
theorem zLu(l:wS)(k:Nat):dT k (jL l)=true:=dX _ k ((y9 l).2 _ _)
attribute [simp] zLu
theorem pH(i:Int):∀(l r:List wI),yF i (l++r)=yF i l++yF (i+l.length) r
 |[],r=>by simp[yF]
 |x::l,r=>by have h:=pH (i+1) l r;simp only[jB6,yF,h,jA9,jAq];rw[show i+1+(l.length:Int)=i+((l.length+1:Nat):Int) by omega]
variable{L:List wI}
theorem zIP(h:j<L.length):yF 0 (L.take (j+1))=yF 0 (L.take j)++L[j].map (fun v=>.mk 3 j [v]):=by rw[jA8 h,pH];simp[yF,jAv (Nat.le_of_lt h)]
theorem zIQ{j k:Nat}(h:j<L.length)(hk:k<L[j].length) :
 (yF 0 L).take ((yF 0 (L.take j)).length+(k+1))=(yF 0 L).take ((yF 0 (L.take j)).length+k)++[.mk 3 j [L[j][k]]]/\(yF 0 (L.take j)).length+(k+1)<=(yF 0 L).length:=by
 have hR:yF 0 L=yF 0 (L.take j)++(L[j].map (fun v=>Val.mk 3 j [v])++yF ((j:Int)+1) (L.drop (j+1))):=by
  conv=>lhs;rw[<-jCb j L]
  rw[pH,jAp h];simp[yF,jAv (Nat.le_of_lt h)]
 have hl:(yF 0 (L.take j)).length+(k+1)<=(yF 0 L).length:=by rw[hR];simp;omega
 refine⟨?_,hl⟩;rw[<-jBk,jA8 (by omega)]
 congr 2
 have:(yF 0 L)[(yF 0 (L.take j)).length+k]?=some (.mk 3 j [L[j][k]]):=by rw[hR,jAy (by omega),Nat.add_sub_cancel_left,jAj (by simpa using hk)];simp[hk]
 rw[jA1 (by omega)]at this;exact jB0 this
theorem zIF{X:wI}(h:j<=X.length):(∀ds,(zR (X.take j)++ds).take (j*3)=zR (X.take j))/\(∀ds,(zR (X.take j)++ds).drop (j*3+3)=ds.drop 3):=by
 have hl:(zR (X.take j)).length=j*3:=by simp[jAv h]
 refine⟨fun ds=>by rw[<-hl];simp,fun ds=>by rw[<-hl,List.drop_append];simp⟩
theorem zXM(p:Prg)(hs:Sml p)(m:Int)(hm:0<=m/\m<=64):∀(n:Nat) (t:Typ),(yE p m n t).e=0->my 76 [.agg (zN p),.agg (zB t),int m] [] (.row 0 (dS p m n t).length) [.row false 46 3 (dS p m n t).length (zR (dS p m n t))]:=by
 intro n;induction n with
 |zero =>
  intro t h;unfold yE at h;split at h<;>simp at h
 |succ n ih =>
  intro t h;have hlen:=oE p m hm.1 (n+1) t h;have hle:=eT p m hm (n+1) t h;refine zM func76 rfl qK2 (rs:=[.slot 6]) (by kernel_rfl) ?_;unfold qC8;unfold yE at h;split at h
  .simp at h
  rename_i hv;have hv:validT p t=true:=by simpa using hv
  by_cases h0:t.k=0
  .have ha:dS p m (n+1) t=mT m:=by rw[dS,if_pos h0]
   rw[ha];have hli:(mT m).length=(2*m+1).toNat:=by simp[mT]
   have hw0:=z8 (0-m) (by omega);have hw0':IntKind.i64.wrap (-m) = -m:=IntWalk.i64_in _ (by omega);simp[zN,zB,h0,hw0,hw0'];refine qO (S:=Nat) (fun j=>[(2,int m),(6,.nil),(7,.ptr 2 0),(8,int (j-m))])
    (fun j=>[.box (zN p),.box (zB t),.box [.row 3 j],.row false 46 3 j (zR ((mT m).take j))])
    (fun j=>(j:Int)<=2*m+1) (fun j=>(2*m+1).toNat-j) 0 (by simp;omega)
    ((yJ (l:=2) (o:=0) rfl rfl 46 3).trans (mw [0,1,2,3] 0 (by rfl) (by simp[zN,zB,h0]))) ?_
   intro j hj;by_cases hjl:(j:Int)-m<=m
   .have htk:=zPb (m:=m) (j:=j) (by omega);have hw1:=z8 ((j:Int)-m+1) (by omega);have hll:((mT m).take j).length=j:=by simp;omega
    have hjx:j<=(mT m).length:=by omega
    simp[hjl,vB,oL,hw1,jAv hjx,(zIF hjx).1,(zIF hjx).2];refine⟨⟨by simp[maxLen];omega,by omega⟩,by omega,?_⟩;exact zS (j+1) (by omega) (by omega) (kf [0,1,2,3] 0 (by rfl) (by simp[zN,zB,h0,htk,zC,Val.k,Val.n,Val.kids]) (by simp;omega))
   .have hjj:(j:Int)=2*m+1:=by omega
    have hjn:j=(mT m).length:=by omega
    have htk:(mT m).take j=mT m:=by rw[hjn];exact jAe (jA _)
    simp[hjl,htk];exact mv [3] 0 (by rfl) (by simp[hjn])
  by_cases h1:t.k=1
  .have ha:dS p m (n+1) t=[.mk 1 0 [],.mk 1 1 []]:=by rw[dS,if_neg h0,if_pos h1]
   rw[ha];simp[zN,zB,h1];exact mv [3] 0 (by rfl) (by simp[zC,Val.k,Val.n,Val.kids])
  by_cases h2:t.k=2
  .obtain⟨x,hx⟩:=zDv hv h2;rw[if_neg h0,if_neg h1,if_pos h2,hx]at h;obtain⟨e1,_,_⟩:=xC h;have e3:(yE p m n x).e=0:=by
    by_cases hz:(yE p m n x).e=0
    .exact hz
    .exact absurd e1 (by rw[jD2,eI,if_pos hz];exact hz)
   have ha:dS p m (n+1) t=aP (dS p m n x) ((if 2<m then 2 else m)+1).toNat:=by rw[dS,if_neg h0,if_neg h1,if_pos h2,hx];rfl
   have hex:=eT p m hm n x e3;have hel:=oE p m hm.1 n x e3;have ih:=ih x e3;rw[ha]at hlen ⊢;generalize dS p m n x=X at ih hel hlen;simp[zN,zB,h2,hx];refine zH9 ih (by simp[zN,zB,qN]) ?_;obtain⟨K,hK,hK2⟩:∃K:Nat,(if 2<m then 2 else m)+1=(K:Int)/\K<=3:=⟨((if 2<m then 2 else m)+1).toNat,by split<;>omega,by split<;>omega⟩;have hw3:IntKind.i64.wrap ((if 2<m then 2 else m)+1)=(K:Int):=by rw[<-hK];exact IntWalk.i64_in _ (by split<;>omega)
   rw[hK]at hlen ⊢;simp only[jCk]at hlen ⊢;have hW:(aP X K).length<=4096:=by omega
   simp[hw3];refine qO (S:=Nat) (fun j=>[(7,.ptr 2 0),(9,.sl X.length (zR X)),(56,int K),(57,int j)])
    (fun j=>[.box (zN p),.box (zB t),.box [.row 3 (aP X j).length],.row false 46 3 (aP X j).length (zR ((aP X K).take (aP X j).length))])
    (fun j=>j<=K) (fun j=>K-j) 0 (by simp)
    ((yJ (l:=2) (o:=0) rfl rfl 46 3).trans (mw [0,1,2,4] 1 (by rfl) (by simp[zN,zB,h2,hx,aP]))) ?_
   intro j hj;by_cases hjl:j<K
   .have hw4:=jY j (by omega);simp[hjl,hw4];have hrep:my 119 [.sl 1 (yL [X]),int j] [] (.sl (List.replicate j X).length (yL (List.replicate j X))) []:=by have:=zP7 j (by omega) (.sl X.length (zR X));rw[List.length_replicate,yL,yL,List.map_replicate];exact this
    refine mu hrep (by simp) ?_;simp;refine mu (zCJ (List.replicate j X)) (by simp) ?_;simp;have hc1:(aP X (j+1)).length=(aP X j).length+(aQ (List.replicate j X)).length:=by rw[vD];simp
    refine⟨[(7,.ptr 2 0),(9,.sl X.length (zR X)),(56,int K),(57,int j),(64,.clo 154 [] [.rptr [.sl (List.replicate j X).length (yL (List.replicate j X))]])],4,(aQ (List.replicate j X)).map (fun t=>[oN t]),
     fun i=>[.box (zN p),.box (zB t),.box [.row 3 ((aP X j).length+i)],.row false 46 3 ((aP X j).length+i) (zR ((aP X K).take ((aP X j).length+i)))],
     154,[],[.rptr [.sl (List.replicate j X).length (yL (List.replicate j X))]],by simp,zLn,zN7 _ _ rfl (by simp;omega),zCd (τ:=[]) (by simp) (by simp) (by simp) (by simp) (by simp[zN,zB]),by omega,?_,by simp,by simp,?_,?_⟩
    .intro i hi;simp[zN,zB]
    .intro i hi b' M r r';simp only[jAb]at hi;obtain⟨htk,hle⟩:=zJR hjl hi;have hlx:(aP X j).length+i<=(aP X K).length:=by omega
     have hcast:(((aP X j).length:Int)+(i:Int)).toNat=(aP X j).length+i:=by omega
     simp[vB,oL,jAv hlx,(zIF hlx).1,(zIF hlx).2,hcast];refine⟨⟨by simp[maxLen];omega,by omega⟩,⟨by omega,by omega⟩,?_⟩;refine⟨qS [],_,?_,rfl⟩;exact mw [0,1,2,3,4] 0 (by rfl) (by simp[zN,zB,htk,zC,Val.k,Val.n,Val.kids,jBk])
    .simp;exact zS (j+1) hjl (by omega) (mw [0,1,2,3] 0 (by rfl) (by simp[hc1,zN,zB,hw4]))
   .have hjj:j=K:=by omega
    subst hjj;simp;exact mv [3] 0 (by rfl) (by simp)
  .rw[if_neg h0,if_neg h1,if_neg h2]at h;obtain⟨e1,_,_⟩:=xC h;have ha:dS p m (n+1) t=tM (dfn p t.id).kind ((dfn p t.id).slots.map fun s=>dS p m n s.typ):=by rw[dS,if_neg h0,if_neg h1,if_neg h2]
   have e5:=zAL hv h0 h1 h2;have hsl:=hs.dfn t.id;have e3:sL ((dfn p t.id).slots.map fun s=>yE p m n s.typ)=0:=by
    by_cases hz:sL ((dfn p t.id).slots.map fun s=>yE p m n s.typ)=0
    .exact hz
    .exact absurd e1 (by simp[bI,hz])
   have e4:∀s∈(dfn p t.id).slots,(yE p m n s.typ).e=0:=fun s hs=>lL e3 _ (List.mem_map_of_mem hs)
   have e6:∀s∈(dfn p t.id).slots,(dS p m n s.typ).length<=4096:=fun s hs=>by have g1:=eT p m hm n s.typ (e4 s hs);have g2:=oE p m hm.1 n s.typ (e4 s hs);omega
   rw[ha]at hlen ⊢;obtain⟨k,id,kids⟩:=t;simp only[Typ.k_mk,Typ.id_mk]at h0 h1 h2 hlen hsl e3 e4 e5 e6 ⊢;generalize hD:dfn p id=D at hlen hsl e3 e4 e5 e6 ⊢;rw[dfn]at hD;have hW:(tM D.kind (D.slots.map fun s=>dS p m n s.typ)).length<=4096:=by omega
   have hih:∀s∈D.slots,my 76 [.agg (zN p),.agg (zB s.typ),int m] [] (.row 0 (dS p m n s.typ).length) [.row false 46 3 (dS p m n s.typ).length (zR (dS p m n s.typ))]:=fun s hs=>ih s.typ (e4 s hs)
   have hLl:(D.slots.map fun s=>dS p m n s.typ).length=D.slots.length:=by simp
   have hLg:∀i (h:i<D.slots.length),(D.slots.map fun s=>dS p m n s.typ)[i]?=some (dS p m n D.slots[i].typ):=fun i h=>by simp[h]
   generalize (D.slots.map fun s=>dS p m n s.typ)=L at hLl hLg hW hlen ⊢;clear hlen h e1 ha hle hv;simp[zN,zB,h0,h1,h2];refine mu (nO p id) (by simp[zN,zL,bL]) ?_;simp[bL,hD,zK];intro hl;rcases e5 with e5|e5
   .have hsv:tM D.kind L=rL L:=by simp[tM,e5]
    rw[hsv]at hW ⊢;refine qO (S:=Nat) (fun i=>[(2,int m),(3,.ptr 0 0),(7,.ptr 2 0),(12,.ptr 3 0),(14,.row 4 i),(83,.sl D.slots.length (jN D.slots)),(84,int D.slots.length),(85,int i)])
     (fun i=>[.box (zN p),.box (zB (.mk k id kids)),.box [.nil],.box (zK D),.row false 44 1 i (yL (L.take i))])
     (fun i=>i<=D.slots.length) (fun i=>D.slots.length-i) 0 (by simp)
     ((yK (t:=14) (by simp) 44 1).trans (mw [0,1,2,3,4] 0 (by rfl) (by simp[zN,zB,zK]))) ?_
    intro i hi;by_cases h:i<D.slots.length
    .have hil:i<L.length:=by omega
     have hl6:=e6 D.slots[i] (jA0 h);have hc:=hih D.slots[i] (jA0 h);have hLi:=hLg i h;rw[jA1 hil]at hLi;rw[<-jB0 hLi]at hc hl6;simp[h,qW h,j4,zN];refine mr hc [] (by simp[zN,zB]) ?_;simp[oL];refine⟨⟨by simp[maxLen];omega,by omega⟩,?_⟩;have htL:yL (L.take (i+1))=yL (L.take i)++[.sl L[i].length (zR L[i])]:=by rw[jA8 hil,zAa];rfl
     refine qO (S:=Nat) (fun k=>[(2,int m),(3,.ptr 0 0),(7,.ptr 2 0),(12,.ptr 3 0),(14,.row 4 (i+1)),(15,int i),(83,.sl D.slots.length (jN D.slots)),(84,int D.slots.length),(85,int i),(99,.sl L[i].length (zR L[i])),(100,int L[i].length),(101,int k)])
      (fun q=>[.box (zN p),.box (zB (.mk k id kids)),.box [.nil],.box (zK D),.row false 44 1 (i+1) (yL (L.take (i+1)))])
      (fun q=>q<=L[i].length) (fun q=>L[i].length-q) 0 (by simp)
      (mw [0,1,2,3,4] 1 (by rfl) (by simp[zN,zB,zK,htL])) ?_
     intro q hq;by_cases hql:q<L[i].length
     .have hwq:=jY q (by omega);simp[hql,qT hql,zK,e5,vB,oL,hwq];exact zS (q+1) hql (by omega) (mw [0,1,2,3,4] 0 (by rfl) (by simp[zN,zB,zK,e5,hwq]))
     .have hqq:q=L[i].length:=by omega
      subst hqq;have hwi:=jY i (by omega);simp;exact zS (i+1) h (by omega) (mw [0,1,2,3,4] 0 (by rfl) (by simp[zN,zB,zK,hwi]))
    .have hi:i=D.slots.length:=by omega
     subst hi;have htk:L.take D.slots.length=L:=jAe (by omega);simp[htk,e5,zK];refine⟨qS [(7,.ptr 0 0),(14,.sl L.length (yL L))],[.box [.row 1 0],.row false 46 3 0 []],(yJ (l:=2) (o:=0) rfl rfl 46 3).trans (mw [2,5] 1 (by rfl) (by simp[hLl])),?_⟩;simp;refine mu (zCJ L) (by simp) ?_;simp;have hWl:(aQ L).length=(rL L).length:=by simp[rL]
     refine⟨[(7,.ptr 0 0),(123,.clo 154 [] [.rptr [.sl L.length (yL L)]])],2,(aQ L).map (fun t=>[oN t]),
      fun i=>[.box [.row 1 i],.row false 46 3 i (zR ((rL L).take i))],
      154,[],[.rptr [.sl L.length (yL L)]],by simp,zLn,zN7 _ _ rfl (by omega),zCd (τ:=[]) (by simp) (by simp) (by simp) (by simp) (by simp),by omega,?_,by simp,by simp,?_,?_⟩
     .intro i hi;simp
     .intro i hi b' M r r';simp only[jAb]at hi;have hlx:i<=(rL L).length:=by omega
      have htk:zR ((rL L).take (i+1))=zR ((rL L).take i)++zC (.mk 2 0 (aQ L)[i]):=by rw[jA8 (by omega),bS];simp[rL,zC]
      simp[vB,oL,jAv hlx,(zIF hlx).1,(zIF hlx).2];refine⟨⟨by simp[maxLen];omega,by omega⟩,by omega,?_⟩;refine⟨qS [],_,?_,rfl⟩;exact mw [0,1,2] 0 (by rfl) (by simp[htk,zC,Val.k,Val.n,Val.kids])
     .have htk:(rL L).take (aQ L).length=rL L:=jAe (by omega);simp[htk];exact mv [1] 0 (by rfl) (by simp[hWl])
   .have hsv:tM D.kind L=yF 0 L:=by simp[tM,e5]
    rw[hsv]at hW ⊢;refine qO (S:=Nat) (fun i=>[(2,int m),(3,.ptr 0 0),(7,.ptr 2 0),(12,.ptr 3 0),(14,.row 5 i),(83,.sl D.slots.length (jN D.slots)),(84,int D.slots.length),(85,int i)])
     (fun i=>[.box (zN p),.box (zB (.mk k id kids)),.box [.row 4 (yF 0 (L.take i)).length],.box (zK D),.row false 46 3 (yF 0 (L.take i)).length (zR ((yF 0 L).take (yF 0 (L.take i)).length)),.row false 44 1 i (yL (L.take i))])
     (fun i=>i<=D.slots.length) (fun i=>D.slots.length-i) 0 (by simp)
     (((yJ (l:=2) (o:=0) rfl rfl 46 3).trans (yK (t:=14) (by simp) 44 1)).trans (mw [0,1,2,3,4,5] 0 (by rfl) (by simp[zN,zB,zK,yF]))) ?_
    intro i hi;by_cases h:i<D.slots.length
    .have hil:i<L.length:=by omega
     have hl6:=e6 D.slots[i] (jA0 h);have hc:=hih D.slots[i] (jA0 h);have hLi:=hLg i h;rw[jA1 hil]at hLi;rw[<-jB0 hLi]at hc hl6;simp[h,qW h,j4,zN];refine mr hc [] (by simp[zN,zB]) ?_;simp[oL];refine⟨⟨by simp[maxLen];omega,by omega⟩,?_⟩;have hcs:=zIP hil;have hc1:(yF 0 (L.take (i+1))).length=(yF 0 (L.take i)).length+L[i].length:=by rw[hcs];simp
     have htL:yL (L.take (i+1))=yL (L.take i)++[.sl L[i].length (zR L[i])]:=by rw[jA8 hil,zAa];rfl
     refine qO (S:=Nat) (fun k=>[(2,int m),(3,.ptr 0 0),(7,.ptr 2 0),(12,.ptr 3 0),(14,.row 5 (i+1)),(15,int i),(83,.sl D.slots.length (jN D.slots)),(84,int D.slots.length),(85,int i),(99,.sl L[i].length (zR L[i])),(100,int L[i].length),(101,int k)])
      (fun q=>[.box (zN p),.box (zB (.mk k id kids)),.box [.row 4 ((yF 0 (L.take i)).length+q)],.box (zK D),.row false 46 3 ((yF 0 (L.take i)).length+q) (zR ((yF 0 L).take ((yF 0 (L.take i)).length+q))),.row false 44 1 (i+1) (yL (L.take (i+1)))])
      (fun q=>q<=L[i].length) (fun q=>L[i].length-q) 0 (by simp)
      (mw [0,1,2,3,4,5] 1 (by rfl) (by simp[zN,zB,zK,htL])) ?_
     intro q hq;by_cases hql:q<L[i].length
     .obtain⟨htk,hle⟩:=zIQ hil hql;have hlx:(yF 0 (L.take i)).length+q<=(yF 0 L).length:=by omega
      have hcast:(((yF 0 (L.take i)).length:Int)+(q:Int)).toNat=(yF 0 (L.take i)).length+q:=by omega
      have hwq:=jY q (by omega);simp[hql,qT hql,zK,e5,vB,oL,jAv hlx,(zIF hlx).1,(zIF hlx).2,hcast,hwq];refine⟨⟨by simp[maxLen];omega,by omega⟩,⟨by omega,by omega⟩,?_⟩;exact zS (q+1) hql (by omega) (mw [0,1,2,3,4,5] 0 (by rfl) (by simp[zN,zB,zK,e5,htk,zC,Val.k,Val.n,Val.kids,jBk,hwq]))
     .have hqq:q=L[i].length:=by omega
      subst hqq;have hwi:=jY i (by omega);simp;exact zS (i+1) h (by omega) (mw [0,1,2,3,4,5] 0 (by rfl) (by simp[zN,zB,zK,hc1,hwi]))
    .have hi:i=D.slots.length:=by omega
     subst hi;have htk:L.take D.slots.length=L:=jAe (by omega);simp[htk,e5,zK];exact mv [4] 0 (by rfl) (by simp)
def bJ(p:Prg)(t:Typ)(m:Int):wI×Int:=if m<0\/64<m then ([],1)else if (size p m t).e≠0 then ([],(size p m t).e)else (pA zLy (dS p m 24 t),0)
theorem zPR(p:Prg)(hs:Sml p)(t:Typ)(m:Int):my 34 [.agg (zN p),.agg (zB t),int m] [] (.tup [.sl (bJ p t m).1.length (zR (bJ p t m).1),int (bJ p t m).2]) []:=by
 refine mq [] [.slot 6,.slot 7] func34 (by kernel_rfl) ?_
 (conv in kq _ _=>cbv)
 by_cases h1:m<0
 .have e:bJ p t m=([],1):=by simp[bJ,h1]
  simp[h1,e];exact zA 1 (by simp)
 by_cases h2:64<m
 .have e:bJ p t m=([],1):=by simp[bJ,h2]
  simp[h1,h2,e];exact zA 1 (by simp)
 simp[h1,h2,zN,zB];refine mu (zMh p hs m (by omega) t) (by simp[zN,zB,szR]) ?_;by_cases h3:(size p m t).e=0
 .have e:bJ p t m=(pA zLy (dS p m 24 t),0):=by simp[bJ,h1,h2,h3]
  simp[szR,h3,e];refine mr (zXM p hs m (by omega) 24 t h3) [] (by simp[zN,zB]) ?_;simp;have hl:=oE p m (by omega) 24 t h3;have hle:=eT p m (by omega) 24 t h3;refine mr (zK9 (dS p m 24 t) (by omega)) [3] (by simp) ?_;simp;exact zA 1 (by simp[pA])
 .have e:bJ p t m=([],(size p m t).e):=by simp[bJ,h1,h2,h3]
  simp[szR,h3,e];exact zA 1 (by simp)
def xO(p:Prg)(a b:wF)(v:Val)(fuel:Int):Bool:=decide ((qU p a v fuel).2.2=(qU p b v fuel).2.2)&&decide (gU (qU p b v fuel).1 (qU p a v fuel).1=0)
def zJc(p:Prg)(all:List wF)(v:Val)(fuel:Int):Option wF:=all.tail.find? fun q=>!xO p (all.headD []) q v fuel
def rZ(p:Prg)(all:List wF)(fuel:Int):List Val->Option (Val×wF)
 |[]=>none
 |v::l=>match zJc p all v fuel with
  |some q=>some (v,q)
  |none=>rZ p all fuel l
def r6(p:Prg)(a b:Id)(most fuel:Int):Val×List wF×Int :=
 if gG p a=true/\gG p b=true then
  if (bJ p (yO a) most).2≠0 then (vz,[],(bJ p (yO a) most).2)
  else match rZ p (bM p a b) fuel (bJ p (yO a) most).1 with
   |some x=>(x.1,[(bM p a b).headD [],x.2],19)
   |none=>(vz,[],0)
 else (vz,[],6)
def zBR(r:Val×List wF×Int):A:=.tup [.agg (zC r.1),.sl r.2.1.length (jZ r.2.1),int r.2.2]
theorem zID(p:Prg)(all:List wF)(fuel:Int){l:wI}{i:Nat}(h:i<l.length):rZ p all fuel (l.drop i)=match zJc p all l[i] fuel with
 |some q=>some (l[i],q)
 |none=>rZ p all fuel (l.drop (i+1)):=by
 rw[jAp h];rfl
def zWJ:Nat->Option wD:=fun|19=>k_ [0,0,2,2,0,0,0,0,0]|_=>none
theorem zQ7{hs:wP}(hf:Fit p hs)(hsm:Sml p)(a b:Id)(h64:(bM p a b).length<=64)(hql:∀q∈bM p a b,q.length<=1000000)(most fuel:Int)(h0 : -90000<=fuel)(h1:fuel<=90000)
 (hv:∀v∈(bJ p (yO a) most).1,zZ v<=256/\j6 v<=24) :
 my 26 [.agg (zN p),.agg (zL a),.agg (zL b),int most,int fuel] [] (zBR (r6 p a b most fuel)) []:=by
 have hP:=eP p;have hpa:=zDK hf a b h64;refine mn zWJ [] [.cell 10 3 true,.slot 11,.slot 12] func26 (by kernel_rfl) ?_
 (conv in zY _ _ _ _=>cbv)
 simp[hP,zL];refine zT hpa (by simp[hP,zL]) (by unfold oA;split<;>simp) ?_;by_cases hst:gG p a=true/\gG p b=true
 .have hpr:oA p a b=.tup [.sl (bM p a b).length (jZ (bM p a b)),int 0]:=by unfold oA;rw[if_pos hst]
  rw[hpr];have hval:=zPR p hsm (yO a) most;simp;refine mu hval (by simp[hP,zL,zB,yO,Typ.k,Typ.id,Typ.kids]) ?_;by_cases he:(bJ p (yO a) most).2=0
  .have hres:r6 p a b most fuel=match rZ p (bM p a b) fuel (bJ p (yO a) most).1 with
    |some x=>(x.1,[(bM p a b).headD [],x.2],19)
    |none=>(vz,[],0):=by
    unfold r6;rw[if_pos hst,if_neg (by simp[he])]
   rw[hres,he];generalize (bJ p (yO a) most).1=L at *
   generalize bM p a b=all at *
   obtain⟨q0,hq0⟩:∃q0,q0=all.headD []:=⟨_,rfl⟩;have hdf:∀v,zJc p all v fuel=all.tail.find? fun q=>!xO p q0 q v fuel:=fun v=>by rw[hq0];rfl
   rw[<-hq0];rw[<-hq0]at hres;have hvz:zC vz=[int 0,int 0,.sl 0 []]:=by simp[zC,vz,Val.k,Val.n,Val.kids]
   simp;intro hmx;refine qO (S:=Nat) (fun i=>[(4,int fuel),(5,.ptr 0 0),(10,.ptr 1 0),(13,.sl all.length (jZ all)),(48,.sl L.length (zR L)),(49,int L.length),(50,int i)]) (fun i=>[.box (zN p),.box (zC vz)])
    (fun i=>i<=L.length/\rZ p all fuel L=rZ p all fuel (L.drop i)) (fun i=>L.length-i) 0 ⟨by omega,by simp⟩
    (mw [0,3] 0 (by rfl) (by simp[hP,hvz])) ?_
   rintro i ⟨hi,hag⟩;by_cases h:i<L.length
   .have hw:=qF h hmx;have hdr:=zID p all fuel h;have hvi:=hv L[i] (jA0 h);have hcd:=qT h;have hLne:¬L=[]:=fun e=>by rw[e]at h;simp at h
    generalize L[i]=v at hdr hvi hcd;simp[h,hP,hvz,hcd,hLne];intro hma;refine qO (S:=Nat) (fun k=>[(4,int fuel),(5,.ptr 0 0),(10,.ptr 1 0),(13,.sl all.length (jZ all)),(48,.sl L.length (zR L)),(49,int L.length),(50,int i),(17,.ptr 2 0),(18,.ptr 3 0),(19,int (if k=0 then 0 else (qU p q0 v fuel).2.2)),(54,.sl all.length (jZ all)),(55,int all.length),(56,int k)])
     (fun k=>[.box (zN p),.box (zC vz),.box (zC v),.box (zC (if k=0 then vz else (qU p q0 v fuel).1))])
     (fun k=>k<=all.length/\∀j,0<j->j<k->xO p q0 (all.getD j []) v fuel=true) (fun k=>all.length-k) 0 ⟨by omega,fun j _ hj=>by omega⟩
     (mw [0,1,2,3] 0 (by rfl) (by simp[hP,zC,vz,Val.k,Val.n,Val.kids])) ?_
    rintro k ⟨hk,hsame⟩;by_cases hk2:k<all.length
    .have hfo:=zCo hf all[k] (hql _ (jA0 hk2)) v hvi fuel h0 h1;have hwk:=qF hk2 hma;have hpd:=fY hk2;have hane:¬all=[]:=fun e=>by rw[e]at hk2;simp at hk2
     have hgd:all.getD k []=all[k]:=by rw[jB7,jA1 hk2];rfl
     unfold cD at hfo;have hgd2:all[k]?.getD []=all[k]:=by rw[jA1 hk2];rfl
     by_cases hk0:k=0
     .subst hk0;have hhd:q0=all[0]:=by rw[hq0];exact by cases all with|nil=>simp at hk2|cons x l=>rfl
      rw[hhd];simp[hP,hvz,hk2,hpd,hane,zC];refine mu hfo (by simp[hP,zC]) ?_;simp[zC];exact zS 1 ⟨hk2,fun j hj0 hj1=>by omega⟩ (by omega) (mw [0,1,2,3] 0 (by rfl) (by simp[hP,zC,vz,Val.k,Val.n,Val.kids,hhd,show IntKind.i64.wrap 1=1 from rfl]))
     .have hk0':¬(k:Int)=0:=by omega
      simp[hP,hvz,hk2,hpd,hane,zC,hk0,hk0'];refine mu hfo (by simp[hP,zC]) ?_;simp[zC,hk0,hk0'];have hse:xO p q0 all[k] v fuel=(decide ((qU p q0 v fuel).2.2=(qU p all[k] v fuel).2.2)&&decide (gU (qU p all[k] v fuel).1 (qU p q0 v fuel).1=0)):=rfl;have hcm:=zDB (qU p all[k] v fuel).1 (qU p q0 v fuel).1;have hdiff:xO p q0 all[k] v fuel=false->rZ p all fuel L=some (v,all[k]):=fun hs=>by
       have hd:zJc p all v fuel=some all[k]:=by
        rw[hdf,List.find?_eq_some_iff_getElem];refine⟨by simp[hs],k-1,by simp;omega,?_,fun j hj=>?_⟩
        .simp only[List.getElem_tail]
         congr 1;omega
        .have:=hsame (j+1) (by omega) (by omega);rw[jB7,jA1 (by omega),jBe]at this;simp only[List.getElem_tail];simp[this]
       rw[hag,hdr,hd]
      have hh0:0<all.length:=by omega
      have hpd0:=fY hh0;have hhd:q0=all[0]:=by rw[hq0];cases all with|nil=>simp at hk2|cons x l=>rfl
      rw[List.drop_zero]at hpd0;generalize hx0:(qU p q0 v fuel).1=x0 at *
      generalize he0:(qU p q0 v fuel).2.2=e0 at *
      generalize hxk:(qU p all[k] v fuel).1=xk at *
      generalize hek:(qU p all[k] v fuel).2.2=ek at *
      by_cases hee:ek=e0
      .by_cases hcc:gU xk x0=0
       .have hs:xO p q0 all[k] v fuel=true:=by rw[hse];simp[hee,hcc]
        simp[hee];refine mu hcm (by simp[zC]) ?_;simp[hcc];exact zS (k+1) ⟨hk2,fun j hj0 hj1=>by
         by_cases e:j=k
         .subst e;first|(rw[hgd];exact hs)|(rw[hgd2];exact hs)
         .exact hsame j hj0 (by omega)⟩ (by omega) (mw [0,1,2,3] 0 (by rfl) (by simp[hP,zC,vz,Val.k,Val.n,Val.kids,hk0,hx0,hvz,hwk,he0]))
       .have hs:=hdiff (by rw[hse];simp[hcc]);rw[hs];simp[hee];refine mu hcm (by simp[zC]) ?_;simp[hcc,hane,hh0,hpd0];exact zA 0 (by simp[zBR,zC,sF,hhd])
      .have hs:=hdiff (by rw[hse];simp[Ne.symm hee]);rw[hs];simp[hee,hane,hh0,hpd0];exact zA 0 (by simp[zBR,zC,sF,hhd])
    .have hke:k=all.length:=by omega
     subst hke;have hd:zJc p all v fuel=none:=by
      rw[hdf,jCv];intro q hq;obtain⟨j,hj,rfl⟩:=jAn hq;have hj2:j+1<all.length:=by simp at hj;omega
      have:=hsame (j+1) (by omega) hj2;rw[jB7,jA1 hj2,jBe]at this;simp only[List.getElem_tail];simp[this]
     rw[hd]at hdr;simp[hP,hvz];exact zS (i+1) ⟨h,by rw[hag,hdr]⟩ (by omega) (mw [0,1] 0 (by rfl) (by simp[hP,hvz,hw]))
   .have hie:i=L.length:=by omega
    subst hie;rw[List.drop_length]at hag;simp only[rZ]at hag;rw[hag];simp[hP,hvz];exact zA 0 (by simp[zBR,hvz])
  .have hres:r6 p a b most fuel=(vz,[],(bJ p (yO a) most).2):=by unfold r6;rw[if_pos hst,if_pos he]
   rw[hres];simp[he];exact zA 0 (by simp[zBR,zC,vz,Val.k,Val.n,Val.kids])
 .have hpr:oA p a b=.tup [.sl 0 [],int 6]:=by unfold oA;rw[if_neg hst]
  have hres:r6 p a b most fuel=(vz,[],6):=by unfold r6;rw[if_neg hst]
  rw[hpr,hres];simp;exact zA 0 (by simp[zBR,zC,vz,Val.k,Val.n,Val.kids])
end Go.Proofs.YtdnelmeboihpkaaGreatDoor

/- domain.measure: how many values a type has. -/
import Derived.Test.YtdnelmeboihpkaaGreatDoorX20
set_option linter.unusedVariables false
set_option maxHeartbeats 8000000
set_option maxRecDepth 100000
set_option linter.unusedSimpArgs false
open Go.Proofs.Tryz
namespace Go.Proofs.YtdnelmeboihpkaaGreatDoor
open Go.Abs
structure Sz where
 a:Int
 b:Int
 e:Int
def iJ:Int->Int->List Sz->Sz
 |a,b,[]=>⟨a,b,0⟩
 |a,b,k::l=>if a*k.a > 4096 then ⟨0,0,4⟩ else iJ (a*k.a) (b+k.b) l
def gD:Int->Int->List Sz->Sz
 |a,b,[]=>⟨a,b,0⟩
 |a,b,k::l=>gD (a+k.a) (max b (1+k.b)) l
def lW:List Sz->Int
 |[]=>0
 |k::l=>if k.e≠0 then k.e else lW l
def yQ(rec:Bool)(l:List Sz):Sz:=if lW l≠0 then ⟨0,0,lW l⟩ else if rec then iJ 1 1 l else gD 0 1 l
def bP(m:Int)(k:Sz):Sz:=if k.e≠0 then ⟨0,0,k.e⟩ else if m<=0 then ⟨1,1,0⟩ else if m<=1 then ⟨1+k.a,1+k.b,0⟩ else ⟨1+k.a+k.a*k.a,1+k.b+k.b,0⟩
def cI(k:Sz):Sz:=if k.e≠0 then ⟨0,0,k.e⟩ else if k.a > 4096\/k.b > 256 then ⟨0,0,4⟩ else ⟨k.a,if k.a=0 then 0 else k.b,0⟩
def jI(p:Prg)(m:Int):Nat->Typ->Sz
 | 0,t=>if validT p t=false then ⟨0,0,1⟩ else ⟨0,0,4⟩
 |n+1,t=>if validT p t=false then ⟨0,0,1⟩ else if t.k=0 then ⟨2*m+1,1,0⟩ else if t.k=1 then ⟨2,1,0⟩ else
  if t.k=2 then cI (bP m (jI p m n (t.kids.headD Typ.zero)))else cI (yQ (decide ((dfn p t.id).kind=0)) ((dfn p t.id).slots.map fun s=>jI p m n s.typ))
def Sz.Ok(k:Sz):Prop:=k.e=0->0<=k.a/\k.a<=4096/\0<=k.b/\k.b<=256
def szR(k:Sz):A:=.tup [.agg [int k.a,int k.b],int k.e]
def fP(l:List Sz):wE:=l.flatMap fun k=>[int k.a,int k.b]
@[simp]theorem zYM:fP []=[]:=rfl
@[simp]theorem zWV(k:Sz)(l:List Sz):fP (k::l)=int k.a::int k.b::fP l:=rfl
@[simp]theorem zTN(k l:List Sz):fP (k++l)=fP k++fP l:=by simp[fP]
@[simp]theorem zYL(l:List Sz):(fP l).length=l.length*2:=by
 induction l with
 |nil=>rfl
 |cons k l ih=>simp[ih];omega
theorem sR:∀l:List Sz,qY (fP l)
 |[]=>qY.nil
 |k::l=>by have h:=sR l;exact⟨by simp[h.1],fun rf g=>by simp[h.2]⟩
@[simp]theorem zX5(l:List Sz):jT (fP l)=fP l:=(sR l).1
@[simp]theorem qCv{rf g}(l:List Sz):vwL rf g (fP l)=fP l:=(sR l).2 _ _
theorem u5:∀{l:List Sz} {i:Nat} (h:i<l.length),(fP l).drop (i*2)=int l[i].a::int l[i].b::fP (l.drop (i+1))
 |k::l,0,_=>by simp
 |k::l,i+1,h=>by
  have:=u5 (l:=l) (i:=i) (by simpa using h);rw[show (i+1)*2=i*2+2 by omega]
  simpa using this
def yP:A:=.clo 116 [] [.ptr 0 0,.ptr 1 0,.ptr 2 0]
def mSt(p:Prg)(m:Int):St:=[.box (zP p),.box [int m],.box [yP]]
theorem fJ:∀{l:List Sz},lW l=0->∀k∈l,k.e=0
 |[],_,k,hk=>by simp at hk
 |x::l,h,k,hk=>by
  simp only[lW]at h;split at h
  .contradiction
  .rename_i hx;rcases jA3.1 hk with rfl|hk
   .simpa using hx
   .exact fJ h k hk
theorem zTo(p:Prg)(m:Int)(id:Id)(k:Int)(kids:wS)(d:Int)(hd:0<=d/\d<=24)(D:Dfn)(hD:dfn p id=D)(g:Typ->Sz)(hg:∀s∈D.slots,(g s.typ).Ok/\mv 116 [.agg (zB s.typ),int (d+1),.ptr 0 0,.ptr 1 0,.ptr 2 0] (mSt p m) (szR (g s.typ)) (mSt p m))(hs:D.slots.length<=1000000) :
 mv 117 [.agg (zP p),.agg (zB (.mk k id kids)),int d,yP] (mSt p m) (szR (yQ (decide (D.kind=0)) (D.slots.map fun s=>g s.typ))) (mSt p m):=by
 refine mg [] [31] [] [.cell 8 2 true,.slot 9] func117 (by kernel_rfl) ?_
 (conv in kH _ _ _=>cbv)
 simp[zP,zB,mSt,yP];refine mq (oE p id) (by simp[zP,zK,bR]) ?_;rw[dfn]at hD;have hwd:=zY (d+1) (by omega);simp[bR,hD,zJ];intro hl;refine qK (S:=Nat) (fun i=>[(2,int d),(3,yP),(4,.ptr 3 0),(5,.ptr 4 0),(8,.ptr 5 0),(9,int 0),(10,.ptr 6 0),(12,bl (decide (D.kind=0))),(13,.row 7 i),(33,.sl D.slots.length (jS D.slots)),(34,int D.slots.length),(35,int i)])
  (fun i=>mSt p m++[.box (zP p),.box (zB (.mk k id kids)),.box [int 0,int 0],.box (zJ D),.row false 123 2 i (fP ((D.slots.map fun s=>g s.typ).take i))])
  (fun i=>i<=D.slots.length/\lW (D.slots.map fun s=>g s.typ)=lW ((D.slots.map fun s=>g s.typ).drop i)) (fun i=>D.slots.length-i) 0 (by simp)
  (mu [0,1,2,3,4,5,6,7] 0 (by rfl) (by simp[mSt,zP,zB,zJ,yP])) ?_
 rintro i ⟨hi,ho⟩;by_cases h:i<D.slots.length
 .have hm:(D.slots.map fun s=>g s.typ).drop i=g D.slots[i].typ::(D.slots.map fun s=>g s.typ).drop (i+1):=by rw[jAo (by simpa using h)];simp
  have htk:(D.slots.map fun s=>g s.typ).take (i+1)=(D.slots.map fun s=>g s.typ).take i++[g D.slots[i].typ]:=by rw[jA6 (by simpa using h)];simp
  obtain⟨hok,hret⟩:=hg D.slots[i] (jA0 h);simp[h,qZ h,j8,yP,mSt,hwd,zP];refine mn hret [0,1,2] (by simp[mSt,yP,zP,zB]) ?_;simp[szR,mSt,yP,zP];refine qX (fun h'=>?_) (fun h'=>?_)<;>simp at h'
  .simp;exact mr [0,1,2] 0 (by rfl) (by simp[mSt,yP,zP,yQ,ho,hm,lW,h'])
  .simp;refine⟨⟨by simp[maxLen];omega,by omega⟩,?_⟩;exact zO (i+1) ⟨h,by rw[ho,hm];simp[lW,h']⟩ (by omega) (mu [0,1,2,3,4,5,6,7] 0 (by rfl) (by simp[mSt,zP,zB,zJ,yP,htk,z8 h hl]))
 .have hi:i=D.slots.length:=by omega
  subst hi;have htk:(D.slots.map fun s=>g s.typ).take D.slots.length=D.slots.map fun s=>g s.typ:=jA9 (by simp)
  have hoks:∀k∈D.slots.map fun s=>g s.typ,k.Ok:=fun k hk=>by obtain⟨s,hs,rfl⟩:=jAd.1 hk;exact(hg s hs).1
  have hln:(D.slots.map fun s=>g s.typ).length=D.slots.length:=by simp
  generalize (D.slots.map fun s=>g s.typ)=Z at ho htk hoks hln ⊢;have ho':lW Z=0:=by rw[ho,<-hln];simp[lW]
  clear ho;have hn6:Z.length<=1000000:=by omega
  rw[<-hln]at hl htk;have hzk:∀k∈Z,k.e=0/\0<=k.a/\k.a<=4096/\0<=k.b/\k.b<=256:=fun k hk=>⟨fJ ho' k hk,hoks k hk (fJ ho' k hk)⟩
  simp[mSt,yP,htk,<-hln];refine qX (fun h'=>?_) (fun h'=>?_)<;>simp at h'
  .simp[h',oY];refine qK (S:=Nat×Int×Int) (fun s=>[(8,.ptr 5 0),(9,int 0),(12,bl true),(18,.ptr 8 0),(60,.row 7 Z.length),(61,int Z.length),(62,int s.1)])
    (fun s=>mSt p m++[.box (zP p),.box (zB (.mk k id kids)),.box [int 0,int 0],.box (zJ D),.row false 123 2 Z.length (fP Z),.box [int s.2.1,int s.2.2]])
    (fun s=>s.1<=Z.length/\iJ 1 1 Z=iJ s.2.1 s.2.2 (Z.drop s.1)/\0<=s.2.1/\s.2.1<=4096/\0<=s.2.2/\s.2.2<=1+256*s.1) (fun s=>Z.length-s.1) (0,1,1) (by simp)
    (mu [0,1,2,3,4,5,6,7,8] 0 (by rfl) (by simp[mSt,zP,zB,zJ,yP,h'])) ?_
   rintro⟨j,a,b⟩ ⟨hj,hr,ha0,ha,hb0,hb⟩;simp only at hj hr ha0 ha hb0 hb;by_cases hjl:j<Z.length
   .obtain⟨_,g1,g2,g3,g4⟩:=hzk Z[j] (jA0 hjl);have hd:Z.drop j=Z[j]::Z.drop (j+1):=jAo hjl;have hab0:0<=a*Z[j].a:=Int.mul_nonneg ha0 g1;have hab1:a*Z[j].a<=4096*4096:=Int.mul_le_mul ha g2 g1 (by decide);have hw1:=zY (a*Z[j].a) (by omega);have hw2:=zY (b+Z[j].b) (by omega);have hw3:=jZ j (by omega);have hj2:j*2+2<=Z.length*2:=by omega
    simp[hjl,tE,u5 hjl,mSt,yP,hw1,hw2,hw3,hj2];refine qX (fun h4=>?_) (fun h4=>?_)<;>simp at h4
    .simp;have e:iJ 1 1 Z=⟨0,0,4⟩:=by rw[hr,hd,iJ,if_pos h4]
     exact mr [0,1,2] 0 (by rfl) (by simp[mSt,yP,zP,yQ,ho',e,h',szR])
    .simp;exact zO (j+1,a*Z[j].a,b+Z[j].b) ⟨hjl,by rw[hr,hd,iJ,if_neg (by omega)],hab0,h4,by simp only;omega,by simp only;omega⟩ (by simp only;omega) (mu [0,1,2,3,4,5,6,7,8] 0 (by rfl) (by simp[mSt,zP,zB,zJ,yP,hw3]))
   .have hjl':j=Z.length:=by omega
    subst hjl';simp[mSt,yP];exact mr [0,1,2] 0 (by rfl) (by simp[mSt,yP,zP,yQ,ho',hr,h',iJ,szR])
  .simp[h',oY];refine qK (S:=Nat×Int×Int) (fun s=>[(8,.ptr 5 0),(9,int 0),(12,bl false),(18,.ptr 8 0),(60,.row 7 Z.length),(61,int Z.length),(62,int s.1)])
    (fun s=>mSt p m++[.box (zP p),.box (zB (.mk k id kids)),.box [int 0,int 0],.box (zJ D),.row false 123 2 Z.length (fP Z),.box [int s.2.1,int s.2.2]])
    (fun s=>s.1<=Z.length/\gD 0 1 Z=gD s.2.1 s.2.2 (Z.drop s.1)/\0<=s.2.1/\s.2.1<=4096*s.1/\0<=s.2.2/\s.2.2<=257) (fun s=>Z.length-s.1) (0,0,1) (by simp)
    (mu [0,1,2,3,4,5,6,7,8] 0 (by rfl) (by simp[mSt,zP,zB,zJ,yP,h'])) ?_
   rintro⟨j,a,b⟩ ⟨hj,hr,ha0,ha,hb0,hb⟩;simp only at hj hr ha0 ha hb0 hb;by_cases hjl:j<Z.length
   .obtain⟨_,g1,g2,g3,g4⟩:=hzk Z[j] (jA0 hjl);have hd:Z.drop j=Z[j]::Z.drop (j+1):=jAo hjl;have hw1:=zY (a+Z[j].a) (by omega);have hw2:=zY (1+Z[j].b) (by omega);have hw3:=jZ j (by omega);have hj2:j*2+2<=Z.length*2:=by omega
    have hmx:max b (1+Z[j].b)=if b<1+Z[j].b then 1+Z[j].b else b:=by rw[Int.max_def];split<;>split<;>omega
    simp[hjl,tE,u5 hjl,mSt,yP,hw1,hw2,hw3,hj2];exact zO (j+1,a+Z[j].a,max b (1+Z[j].b)) ⟨hjl,by rw[hr,hd];simp[gD],by simp only;omega,by simp only;omega,by simp only;omega,by simp only;omega⟩ (by simp only;omega) (mu [0,1,2,3,4,5,6,7,8] 0 (by rfl) (by simp[mSt,zP,zB,zJ,yP,hmx,hw3]))
   .have hjl':j=Z.length:=by omega
    subst hjl';simp[mSt,yP];exact mr [0,1,2] 0 (by rfl) (by simp[mSt,yP,zP,yQ,ho',hr,h',gD,szR])
def Sml(p:Prg):Prop:=∀d∈p.defs,d.slots.length<=1000000
variable{p:Prg}
theorem Sml.dfn(h:Sml p)(id:Id):(dfn p id).slots.length<=1000000:=by
 unfold Go.Proofs.YtdnelmeboihpkaaGreatDoor.dfn;cases hf:jK p.defs id with
 |none=>simp[Dfn.zero]
 |some d=>exact h d (aV hf).1
theorem pQ{n:Nat}{t:Typ}(h:yE p n t=true)(hk:t.k=2):∃x,t.kids=[x]:=by
 cases n with
 |zero=>simp[yE]at h
 |succ n =>
  cases t with
  |mk k id kids =>
   simp only[Typ.k_mk]at hk;subst hk;rcases kids with _|⟨x,_|⟨y,l⟩⟩
   .simp[yE]at h
   .exact⟨x,rfl⟩
   .simp[yE]at h
theorem zJ6{k:Sz}(h0:k.e=0->0<=k.a/\0<=k.b):(cI k).Ok:=by
 intro he;unfold cI at *
 split at he
 .simp at he;contradiction
 .rename_i h1;simp at h1;split at he
  .simp at he
  .rename_i h2;rw[if_neg (by simp[h1]),if_neg h2];have:=h0 h1;simp only;split<;>omega
theorem zOn:∀{l:List Sz} {a b:Int},(∀k∈l,k.e=0/\k.Ok)->0<=a->0<=b->0<=(iJ a b l).a/\0<=(iJ a b l).b
 |[],a,b,_,ha,hb=>⟨ha,hb⟩
 |k::l,a,b,h,ha,hb=>by
  have hk:=(h k (by simp)).2 (h k (by simp)).1;simp only[iJ];split
  .simp
  .exact zOn (fun k hk=>h k (jAh _ hk)) (Int.mul_nonneg ha hk.1) (by omega)
theorem zJn:∀{l:List Sz} {a b:Int},(∀k∈l,k.e=0/\k.Ok)->0<=a->0<=b->0<=(gD a b l).a/\0<=(gD a b l).b
 |[],a,b,_,ha,hb=>⟨ha,hb⟩
 |k::l,a,b,h,ha,hb=>by have hk:=(h k (by simp)).2 (h k (by simp)).1;simp only[gD];exact zJn (fun k hk=>h k (jAh _ hk)) (by omega) (by omega)
theorem zFN{r:Bool}{l:List Sz}(h:∀k∈l,k.Ok)(he:(yQ r l).e=0):0<=(yQ r l).a/\0<=(yQ r l).b:=by
 unfold yQ at *
 split
 .simp
 .rename_i h0;have h0:lW l=0:=by simpa using h0
  have hk:∀k∈l,k.e=0/\k.Ok:=fun k hk=>⟨fJ h0 k hk,h k hk⟩
  split
  .exact zOn hk (by decide) (by decide)
  .exact zJn hk (by decide) (by decide)
variable{m:Int}
theorem zP9{k:Sz}(h:k.Ok)(he:(bP m k).e=0):0<=(bP m k).a/\0<=(bP m k).b:=by
 unfold bP at *
 split
 .simp
 .rename_i h0;have h1:=h (by simpa using h0);have h2:0<=k.a*k.a:=Int.mul_nonneg h1.1 h1.1;split
  .simp
  .split<;>simp only<;>omega
theorem bS(p:Prg)(m:Int)(hm:0<=m/\m<=64):∀(n:Nat) (t:Typ),(jI p m n t).Ok
 | 0,t=>by unfold jI;split<;>intro h<;>simp at h
 |n+1,t=>by
  unfold jI;split
  .intro h;simp at h
  split
  .intro _;simp only;omega
  split
  .intro _;simp
  split
  .exact zJ6 (zP9 (bS p m hm n _))
  .exact zJ6 (zFN (fun k hk=>by obtain⟨s,_,rfl⟩:=jAd.1 hk;exact bS p m hm n _))
variable{N:Int}
theorem nU{M:Int}(h:M > 4096\/N > 256):cI ⟨M,N,0⟩=⟨0,0,4⟩:=by simp[cI,h]
theorem zAC(h:¬N > 256):cI ⟨0,N,0⟩=⟨0,0,0⟩:=by simp[cI,h]
theorem zAB{M:Int}(h:¬(M > 4096\/N > 256))(h0:M≠0):cI ⟨M,N,0⟩=⟨M,N,0⟩:=by simp[cI,h,h0]
def tb(a b:Int):Nat->Int×Int×Int
 | 0=>(1,1,1)
 | 1=>(a,1+a,1+b)
 |_=>(a*a,1+a+a*a,1+b+b)
theorem zSB(p:Prg)(hs:Sml p)(m:Int)(hm:0<=m/\m<=64):∀(n:Nat) (t:Typ) (d:Int),d=25-n->n<=24 ->
 mv 116 [.agg (zB t),int d,.ptr 0 0,.ptr 1 0,.ptr 2 0] (mSt p m) (szR (jI p m n t)) (mSt p m):=by
 intro n;induction n with
 |zero =>
  intro t d hd _;have hd:d=25:=by omega
  subst hd;refine ml [(11,[0,1,2,3,4,7])] [.cell 7 2 true,.slot 8] func116 (by kernel_rfl) ?_
  (conv in kq _ _=>cbv)
  simp[zP,zB,mSt,yP];refine mq (zFW p t) (by simp[zP,zB]) ?_;simp;cases hv:validT p t with
  |false =>
   simp;exact mr [0,1,2] 0 (by rfl) (by simp[jI,hv,szR])
  |true =>
   simp;exact mr [0,1,2] 0 (by rfl) (by simp[jI,hv,szR])
 |succ n ih =>
  intro t d hd hn;refine ml [(11,[0,1,2,3,4,7])] [.cell 7 2 true,.slot 8] func116 (by kernel_rfl) ?_
  (conv in kq _ _=>cbv)
  simp[zP,zB,mSt,yP];refine mq (zFW p t) (by simp[zP,zB]) ?_;have hd24:¬(24<d):=by omega
  have hwd:=zY (d+1) (by omega);simp;cases hv:validT p t with
  |false =>
   simp;exact mr [0,1,2] 0 (by rfl) (by simp[jI,hv,szR])
  |true =>
   by_cases h0:t.k=0
   .have hw1:=zY (2*m) (by omega);have hw2:=zY (2*m+1) (by omega);simp[hd24,h0,hw1,hw2];exact mr [0,1,2] 0 (by rfl) (by simp[jI,hv,szR,h0])
   by_cases h1:t.k=1
   .simp[hd24,h1];exact mr [0,1,2] 0 (by rfl) (by simp[jI,hv,szR,h1])
   by_cases h2:t.k=2
   .obtain⟨x,hx⟩:=pQ hv h2;simp[hd24,h2,hx,hwd];have hok:=bS p m hm n x;have hsz:jI p m (n+1) t=cI (bP m (jI p m n x)):=by simp[jI,hv,h0,h1,h2,hx]
    rw[hsz];refine zIb (ih x (d+1) (by omega) (by omega)) [0,1,2] (by simp) (by simp[mSt,yP,zP]) (by simp[zB,qI]) (by simp[szR]) ?_;generalize jI p m n x=Z at hok ⊢;simp[szR];refine qX (fun he=>?_) (fun he=>?_)<;>simp at he
    .simp;exact mr [0,1,2] 0 (by rfl) (by simp[bP,cI,szR,he])
    .obtain⟨a,b,e⟩:=Z;simp only at he;subst he;have hok:=hok rfl;simp only at hok;simp;have htail:∀M N:Int,True:=fun _ _=>trivial
     refine qK (S:=Nat) (fun j=>[(3,.ptr 1 0),(7,.ptr 4 0),(8,int 0),(9,.ptr 5 0),(10,.ptr 6 0),(12,int (tb a b j).1),(57,int (if 2<m then 2 else m)),(58,int j)])
      (fun j=>mSt p m++[.box (zB t),.box [int 0,int 0],.box [int (tb a b j).2.1,int (tb a b j).2.2],.box [int a,int b]])
      (fun j=>j=0\/(j=1/\1<=m)\/(j=2/\2<=m)) (fun j=>2-j) 0 (.inl rfl)
      (mu [0,1,2,3,4,5,6] 0 (by rfl) (by simp[mSt,zP,zB,yP,tb,h2,hx])) ?_
     have haa0:0<=a*a:=Int.mul_nonneg hok.1 hok.1;have haa1:a*a<=4096*4096:=Int.mul_le_mul hok.2.1 hok.2.1 hok.1 (by decide);have hw1:=zY a (by omega);have hw2:=zY (1+a) (by omega);have hw3:=zY (1+b) (by omega);have hw4:=zY (a*a) (by omega);have hw5:=zY (1+a+a*a) (by omega);have hw6:=zY (1+b+b) (by omega);have hsel:∀j:Nat,True:=fun _=>trivial
     rintro j (rfl|⟨rfl,hm1⟩|⟨rfl,hm2⟩)
     .by_cases hm1:1<=m
      .have hK:(0:Int)<(if 2<m then 2 else m):=by split<;>omega
       simp[hK,mSt,yP,tb,hw1,hw2,hw3];exact zO 1 (.inr (.inl ⟨rfl,hm1⟩)) (by simp) (mu [0,1,2,3,4,5,6] 0 (by rfl) (by simp[mSt,zP,zB,yP,tb,show IntKind.i64.wrap 1=1 from by decide,show IntKind.i64.wrap 2=2 from by decide]))
      .have hK:¬((0:Int)<(if 2<m then 2 else m)):=by split<;>omega
       have hfin:bP m ⟨a,b,0⟩=⟨1,1,0⟩:=by simp[bP,show m<=0 by omega]
       simp[hK,mSt,yP,tb];exact mr [0,1,2] 0 (by rfl) (by simp[zP,szR,hfin,cI])
     .by_cases hm2:2<=m
      .have hK:(1:Int)<(if 2<m then 2 else m):=by split<;>omega
       simp[hK,mSt,yP,tb,hw4,hw5,hw6];exact zO 2 (.inr (.inr ⟨rfl,hm2⟩)) (by simp) (mu [0,1,2,3,4,5,6] 0 (by rfl) (by simp[mSt,zP,zB,yP,tb,show IntKind.i64.wrap 1=1 from by decide,show IntKind.i64.wrap 2=2 from by decide]))
      .have hK:¬((1:Int)<(if 2<m then 2 else m)):=by split<;>omega
       have hfin:bP m ⟨a,b,0⟩=⟨1+a,1+b,0⟩:=by simp[bP,show ¬m<=0 by omega,show m<=1 by omega]
       by_cases g4:4096<(1+a)
       .simp[hK,mSt,yP,tb,g4];exact mz [0,1,2] 0 (by rfl) (by simp[zP]) (by simp[szR,hfin,nU (N:=(1+b)) (.inl g4)])
       by_cases g5:256<(1+b)
       .simp[hK,mSt,yP,tb,g4,g5];exact mz [0,1,2] 0 (by rfl) (by simp[zP]) (by simp[szR,hfin,nU (M:=(1+a)) (.inr g5)])
       by_cases g6:(1+a)=0
       .simp[hK,mSt,yP,tb,g4,g5,g6];exact mr [0,1,2] 0 (by rfl) (by simp[zP,szR,hfin,g6,zAC g5])
       .simp[hK,mSt,yP,tb,g4,g5,g6];exact mz [0,1,2] 0 (by rfl) (by simp[zP]) (by simp[szR,hfin,zAB (show ¬((1+a) > 4096\/(1+b) > 256) by omega) g6])
     .have hK:¬((2:Int)<(if 2<m then 2 else m)):=by split<;>omega
      have hfin:bP m ⟨a,b,0⟩=⟨1+a+a*a,1+b+b,0⟩:=by simp[bP,show ¬m<=0 by omega,show ¬m<=1 by omega]
      by_cases g4:4096<(1+a+a*a)
      .simp[hK,mSt,yP,tb,g4];exact mz [0,1,2] 0 (by rfl) (by simp[zP]) (by simp[szR,hfin,nU (N:=(1+b+b)) (.inl g4)])
      by_cases g5:256<(1+b+b)
      .simp[hK,mSt,yP,tb,g4,g5];exact mz [0,1,2] 0 (by rfl) (by simp[zP]) (by simp[szR,hfin,nU (M:=(1+a+a*a)) (.inr g5)])
      by_cases g6:(1+a+a*a)=0
      .simp[hK,mSt,yP,tb,g4,g5,g6];exact mr [0,1,2] 0 (by rfl) (by simp[zP,szR,hfin,g6,zAC g5])
      .simp[hK,mSt,yP,tb,g4,g5,g6];exact mz [0,1,2] 0 (by rfl) (by simp[zP]) (by simp[szR,hfin,zAB (show ¬((1+a+a*a) > 4096\/(1+b+b) > 256) by omega) g6])
   .obtain⟨k,id,kids⟩:=t;simp only[Typ.k_mk]at h0 h1 h2;have hsz:jI p m (n+1) (.mk k id kids)=cI (yQ (decide ((dfn p id).kind=0)) ((dfn p id).slots.map fun s=>jI p m n s.typ)):=by simp[jI,hv,h0,h1,h2];rfl
    have hok:=zFN (r:=decide ((dfn p id).kind=0)) (l:=(dfn p id).slots.map fun s=>jI p m n s.typ) (fun k hk=>by obtain⟨s,_,rfl⟩:=jAd.1 hk;exact bS p m hm n _)
    rw[hsz];simp[hd24,h0,h1,h2];refine mn (zTo p m id k kids d (by omega) (dfn p id) rfl (jI p m n) (fun s _=>⟨bS p m hm n _,ih s.typ (d+1) (by omega) (by omega)⟩) (hs.dfn id)) [0,1,2] (by simp[mSt,yP,zP,zB]) ?_;generalize yQ (decide ((dfn p id).kind=0)) ((dfn p id).slots.map fun s=>jI p m n s.typ)=Z at hok ⊢;simp[szR,mSt,yP];refine qX (fun he=>?_) (fun he=>?_)<;>simp at he
    .simp;exact mr [0,1,2] 0 (by rfl) (by simp[zP,cI,szR,he])
    .obtain⟨a,b,e⟩:=Z;simp only at he;subst he;have hok:=hok rfl;simp only at hok;have hfin:True:=trivial;by_cases g4:4096<a
     .simp[mSt,yP,g4];exact mr [0,1,2] 0 (by rfl) (by simp[zP,szR,hfin,nU (N:=b) (.inl g4)])
     by_cases g5:256<b
     .simp[mSt,yP,g4,g5];exact mr [0,1,2] 0 (by rfl) (by simp[zP,szR,hfin,nU (M:=a) (.inr g5)])
     by_cases g6:a=0
     .simp[mSt,yP,g4,g5,g6];exact mr [0,1,2] 0 (by rfl) (by simp[zP,szR,hfin,g6,zAC g5])
     .simp[mSt,yP,g4,g5,g6];exact mz [0,1,2] 0 (by rfl) (by simp[zP]) (by simp[szR,hfin,zAB (show ¬(a > 4096\/b > 256) by omega) g6])
def size(p:Prg)(m:Int)(t:Typ):Sz:=jI p m 24 t
theorem zM8(p:Prg)(hs:Sml p)(m:Int)(hm:0<=m/\m<=64)(t:Typ):mv 75 [.agg (zP p),.agg (zB t),int m] [] (szR (size p m t)) []:=by
 refine ml [] [.cell 6 2 true,.slot 7] func75 (by kernel_rfl) ?_
 (conv in kq _ _=>cbv)
 simp[zP,zB];refine mn (zSB p hs m hm 24 t 1 (by decide) (by decide)) [0,2,4] (by simp[mSt,yP,zP,zB]) ?_;simp[szR,mSt,yP,zP];exact zA 0 (by simp[szR,size])
section
variable{l:wB}
def stH(l:wB)(m:Gm)(Ds:wQ)(i:Nat):St :=
 [.box [.nil,.nil],.box (gB l m),.row false 112 6 1 [int (idR 0).a,int (idR 0).b,int (idR 0).c,.lit (.string ⟨#[99,111,114,101]⟩),.nil,.row 5 i],.box [.row 2 1,.row 4 Ds.length],.row false 41 31 Ds.length (z6 Ds),.row false 31 3 i (zT ((Ds.map (·.id)).take i))]
variable{i:Nat}
theorem zSn{Ds:wQ}(h:i<Ds.length):zT ((Ds.map (·.id)).take (i+1))=zT ((Ds.map (·.id)).take i)++[int Ds[i].id.a,int Ds[i].id.b,int Ds[i].id.c]:=by rw[jA6 (by simpa using h),yK];simp[zT]
theorem zVr(m:Gm)(Ds:wQ)(hD:Ds.length<=100):wpK prog 0 zLz (zLZ ⟨[⟨idR 0,⟨#[99,111,114,101]⟩,[],Ds.map (·.id)⟩],Ds⟩) (qV [(2,.ptr 0 0),(4,.ptr 3 0)]) (stG l m Ds):=by
 unfold zLz;simp[stG,gB];refine qK (S:=Nat) (fun i=>[(2,.ptr 0 0),(4,.ptr 3 0),(18,int i)]) (stH l m Ds) (fun i=>i<=Ds.length) (fun i=>Ds.length-i) 0 (by simp)
  ((m9 (l:=2) (o:=5) rfl rfl 31 3).trans (mu [0,1,2,3,4,5] 0 (by rfl) (by simp[stH,gB,oM]))) ?_
 intro i hi;by_cases h:i<Ds.length
 .have hw:=z8 h (show Ds.length<=maxLen by simp[maxLen];omega);have hd:=yG h;have hne:Ds≠[]:=fun e=>by rw[e]at h;simp at h
  have hb:i*31+3<=Ds.length*31:=by omega
  simp[stH,gB,h,hd,hne,zJ,hb];refine⟨⟨by simp[maxLen];omega,by omega⟩,?_⟩;exact zO (i+1) h (by omega) (mu [0,1,2,3,4,5] 0 (by rfl) (by simp[stH,gB,zSn h,hw]))
 .have hie:i=Ds.length:=by omega
  subst hie;have htk:(Ds.map (·.id)).take Ds.length=Ds.map (·.id):=jA9 (by simp);simp[stH,gB];exact zA 2 (by simp[zP,gF,oF,htk])
theorem zRZ(many:Nat)(m:Gm):Gst m (iC l many m).2.2 3:=by
 unfold iC;split
 .split
  all_goals
   exact((qU _).trans (qU _) (jAf _)).trans (qU _) (by omega)
 .exact(qU _).trans (qU _) (by omega)
theorem zJN(R:wQ)(x y:Nat)(s:Id)(m:Gm):zJM l R x y s m=fV l x y (R.getD x .zero) (R.getD y .zero) s m:=rfl
theorem zSb{R:wQ}(hR:∀d∈R,d.slots.length<=6)(y:Nat):(R.getD y .zero).slots.length<=6:=by
 by_cases h:y<R.length
 .rw[xQ h];exact hR _ (jA0 h)
 .rw[jB7,jBd (by omega)];simp[Dfn.zero]
theorem zGV{R:wQ}(hR:∀d∈R,d.slots.length<=6)(m:Gm):∀n:Nat,Gst m (a7 l R n m).2 (404*n)
 | 0=>Gst.refl _ (by omega)
 |n+1=>by have ih:=zGV hR m n;simp only[a7,zBA,zJN];exact(ih.trans (zRZ _ _) (jAf _)).trans (zMh _ _ _ _ _ _ (zSb hR _)) (by omega)
theorem zVq(hl:∀x∈l,w64 x=x)(R:wQ)(many:Nat)(hmany:R.length=many)(hm1:0<many)(hm2:many<=4)(m0:Gm)(hok:m0.Ok 4000)(hR:∀d∈R,d.slots.length<=6/\∀u∈d.slots,u.typ=tK u.typ.k/\(u.typ.k=0\/u.typ.k=1))
 (p:Prg)(hp:p=⟨[⟨idR 0,⟨#[99,111,114,101]⟩,[],(R++(a7 l R (gN l m0 8).toNat m0.tick).1).map (·.id)⟩],R++(a7 l R (gN l m0 8).toNat m0.tick).1⟩) :
 wpK prog 0 zLy (zLZ p) (qV [(2,.ptr 0 0),(3,.ptr 1 0),(4,.ptr 3 0),(5,int many)]) (stG l m0 R):=by
 obtain⟨v0,v1⟩:=eB hl m0 (n:=8) (by omega);obtain⟨cv,hcv⟩:∃cv:Nat,gN l m0 8=cv:=⟨(gN l m0 8).toNat,by omega⟩;have hR1:∀d∈R,d.slots.length<=6:=fun d hd=>(hR d hd).1
 rw[hcv]at hp v1;simp only[jCl]at hp;unfold zLy;simp[stG,gB];refine mn (eY (l:=l) m0 8 (by omega) (hok.mono (by omega))) [1] (by simp[gS,gB]) ?_;simp[gS,gB];rw[hcv];refine qK (S:=Nat) (fun i=>[(2,.ptr 0 0),(3,.ptr 1 0),(4,.ptr 3 0),(5,int many),(10,int cv),(11,int i)]) (fun i=>stG l (a7 l R i m0.tick).2 (R++(a7 l R i m0.tick).1)) (fun i=>i<=cv) (fun i=>cv-i) 0 (by simp)
  (mu [0,1,2,3,4] 0 (by rfl) (by simp[stG,gB,oM,a7])) ?_
 intro i hi;have hst:=zGV (l:=l) hR1 m0.tick i;have hcl:=iP l R m0.tick i;by_cases h:i<cv
 .have hstep:a7 l R (i+1) m0.tick=((a7 l R i m0.tick).1++[(zBA l R i (a7 l R i m0.tick).2).1],(zBA l R i (a7 l R i m0.tick).2).2):=rfl;generalize hmi:(a7 l R i m0.tick).2=mi at hst hstep;generalize hki:(a7 l R i m0.tick).1=ki at hcl hstep;have hok1:mi.Ok 1000:=hok.adv ((qU m0).trans hst (jAf _)) (by omega);have hwi:=jZ i (by omega);obtain⟨x0,x1⟩:=eB hl mi (n:=many) (by omega);obtain⟨y0,y1⟩:=eB hl mi.tick (n:=many) (by omega);obtain⟨x,hx⟩:∃x:Nat,gN l mi many=x:=⟨(gN l mi many).toNat,by omega⟩;obtain⟨y,hy⟩:∃y:Nat,gN l mi.tick many=y:=⟨(gN l mi.tick many).toNat,by omega⟩;rw[hx]at x0 x1;rw[hy]at y0 y1;have hxl:x<many:=by omega
  have hyl:y<many:=by omega
  have n1:=eY (l:=l) mi many (by omega) (hok1.mono (by omega));have n2:=eY (l:=l) mi.tick many (by omega) (hok1.adv (qU mi) (by omega));have fin:∀(x' y':Nat) (m':Gm),x'<many->y'<many->m'.Ok 500->iC l R.length mi=(x',y',m')->∀Q:Ex->wK,
   (∀env' U',b9 0 (qV [(2,.ptr 0 0),(3,.ptr 1 0),(4,.ptr 3 0),(5,int many),(10,int cv),(11,int i)]) (stG l (a7 l R (i+1) m0.tick).2 (R++(a7 l R (i+1) m0.tick).1)) env' U'->Q .norm env' U') ->
   wpK prog 0 zHQ Q (qV [(2,.ptr 0 0),(3,.ptr 1 0),(4,.ptr 3 0),(5,int many),(10,int cv),(11,int i),(12,int x'),(13,int y')]) (stG l m' (R++ki)):=by
   intro x' y' m' hx' hy' hok2 he Q hQ;have hxR:x'<R.length:=by omega
   have hyR:y'<R.length:=by omega
   have ex:(R++ki)[x']'(by simp;omega)=R[x']:=jBl hxR;have ey:(R++ki)[y']'(by simp;omega)=R[y']:=jBl hyR;refine zZN hl Q m' hok2 (R++ki) x' y' i (by simp;omega) (by simp;omega) (by simp;omega) (by omega) many cv (by rw[ex];exact(hR _ (jA0 hxR)).1) (by rw[ey];exact(hR _ (jA0 hyR)).1) (by rw[ey];exact(hR _ (jA0 hyR)).2) fun E S hw=>hQ E S ?_
   rw[hstep];simp only[zBA,he,zJN,xQ hxR,xQ hyR];rw[ex,ey]at hw;rw[<-jAu];exact hw
  have hcR:(R++ki).length=R.length+i:=by simp[hcl]
  simp[stG,gB,h];refine mn n1 [1] (by simp[gS,gB]) ?_;simp[gS,gB,hx];refine mn n2 [1] (by simp[gS,gB]) ?_;simp[gS,gB,hy];by_cases hxy:x=y
  .have hxy':(x:Int)=y:=by omega
   have n3:=eY (l:=l) mi.tick.tick 3 (by omega) (hok1.adv ((qU mi).trans (qU _) (jAf _)) (by omega));simp[hxy'];refine mn n3 [1] (by simp[gS,gB]) ?_;by_cases h3:0<gN l mi.tick.tick 3
   .have wx:=jZ x (by omega);have wy:=jZ y (by omega);have hmn:¬many=0:=by omega
    have htm:((y:Int)+1).tmod many=(((y+1) % many:Nat):Int):=by rw[jDr (by omega)];simp
    have he:iC l R.length mi=(x,(x+1) % many,mi.tick.tick.tick):=by unfold iC;rw[hmany,hx,hy,if_pos hxy',if_pos h3];simp
    simp[gS,gB,h3,wx,wy,htm,hmn];refine⟨_,_,m_ [0,1,2,3,4] 0 (by rfl) ?_ ?_,fin x ((x+1) % many) mi.tick.tick.tick (by omega) (Nat.mod_lt _ (by omega)) (hok1.adv (((qU mi).trans (qU _) (jAf _)).trans (qU _) (jAf _)) (by omega)) he _ fun E S hw=>?_⟩
    .simp[stG,gB,oM]
    .simp[hxy,hxy']
    .simp;refine⟨_,_,hw,?_⟩;simp[stG,gB];exact zO (i+1) h (by omega) (mu [0,1,2,3,4] 0 (by rfl) (by simp[stG,gB,oM,hwi]))
   .have he:iC l R.length mi=(x,x,mi.tick.tick.tick):=by unfold iC;rw[hmany,hx,hy,if_pos hxy',if_neg h3];simp
    simp[gS,gB,h3];refine⟨_,_,m_ [0,1,2,3,4] 0 (by rfl) ?_ ?_,fin x x mi.tick.tick.tick (by omega) (by omega) (hok1.adv (((qU mi).trans (qU _) (jAf _)).trans (qU _) (jAf _)) (by omega)) he _ fun E S hw=>?_⟩
    .simp[stG,gB,oM]
    .simp[hxy,hxy']
    .simp;refine⟨_,_,hw,?_⟩;simp[stG,gB];exact zO (i+1) h (by omega) (mu [0,1,2,3,4] 0 (by rfl) (by simp[stG,gB,oM,hwi]))
  .have hxy':¬(x:Int)=y:=by omega
   .have he:iC l R.length mi=(x,y,mi.tick.tick):=by unfold iC;rw[hmany,hx,hy,if_neg hxy'];simp
    simp[gS,gB,hxy'];refine⟨_,_,m_ [0,1,2,3,4] 0 (by rfl) ?_ ?_,fin x y mi.tick.tick (by omega) (by omega) (hok1.adv ((qU mi).trans (qU _) (jAf _)) (by omega)) he _ fun E S hw=>?_⟩
    .simp[stG,gB,oM]
    .simp
    .simp;refine⟨_,_,hw,?_⟩;simp[stG,gB];exact zO (i+1) h (by omega) (mu [0,1,2,3,4] 0 (by rfl) (by simp[stG,gB,oM,hwi]))
 .have hie:i=cv:=by omega
  subst hie;simp[stG,gB];have hC:=zVr (l:=l) (a7 l R i m0.tick).2 (R++(a7 l R i m0.tick).1) (by simp;omega);rw[<-hp]at hC;refine⟨_,_,m_ [0,1,2,3,4] 0 (by rfl) ?_ ?_,hC⟩
  .simp[stG,gB,oM]
  .simp
theorem zCC(i:Nat)(m:Gm):∀n:Nat,Gst m (bC l i n m).2 n
 | 0=>Gst.refl _ (by omega)
 |n+1=>by simp only[bC];exact(zCC i m n).trans (qU _) (by omega)
theorem zSa(hl:∀x∈l,w64 x=x)(i:Nat)(m:Gm):Gst m (vM l i m).2 3:=by
 obtain⟨h0,h1⟩:=eB hl m (n:=2) (by omega);have hc:eX l m<=2:=by unfold eX;omega
 exact((qU m).trans (zCC i _ _) (jAf _)).mono (by omega)
theorem zJT(hl:∀x∈l,w64 x=x)(m:Gm):∀n:Nat,Gst m (yT l n m).2 (3*n)
 | 0=>Gst.refl _ (by omega)
 |n+1=>by simp only[yT];exact(zJT hl m n).trans (zSa hl _ _) (by omega)
theorem zTS(h:i<4):∃R,List.drop i [A.lit (.string ⟨#[65]⟩),.lit (.string ⟨#[66]⟩),.lit (.string ⟨#[67]⟩),.lit (.string ⟨#[68]⟩)]=.lit (.string (zYa.getD i ⟨#[]⟩))::R:=by
 have:i=0\/i=1\/i=2\/i=3:=by omega
 rcases this with rfl|rfl|rfl|rfl<;>exact⟨_,rfl⟩
theorem qAF(h:i<2):∃R,List.drop i [A.lit (.string ⟨#[120]⟩),.lit (.string ⟨#[121]⟩)]=.lit (.string (xyT.getD i ⟨#[]⟩))::R:=by
 have:i=0\/i=1:=by omega
 rcases this with rfl|rfl<;>exact⟨_,rfl⟩
def vL(i:Nat)(ss:List Slt):Dfn:=⟨idR ((1+i:Nat):Int),0,idR 0,zYa.getD i ⟨#[]⟩,ss,.zero,.zero,0,[]⟩
def gRB(i k:Nat):wE:=(zJ (vL i [])).take 8++[.row 6 k]++(zJ (vL i [])).drop 9
theorem zSh(hl:∀x∈l,w64 x=x):mv 28 [.sl l.length (yH l)] [] (.agg (zP (vK l))) []:=by
 obtain⟨v0,v1⟩:=eB hl ⟨0,40⟩ (n:=3) (by omega);have hmN:gN l ⟨0,40⟩ 3+2=yZ l:=by have:gN l ⟨0,40⟩ 3=atV l 0 3:=rfl;unfold yZ;rw[<-this];omega
 have hm2:yZ l<=4:=by omega
 have hm1:2<=yZ l:=by omega
 have hw2:IntKind.i64.wrap (2+gN l ⟨0,40⟩ 3)=yZ l:=by rw[<-hmN,Int.add_comm];exact IntWalk.i64_in _ (by omega)
 have hgp:vK l=⟨[⟨idR 0,⟨#[99,111,114,101]⟩,[],(aM l).map (·.id)⟩],aM l⟩:=rfl;have hgd:aM l=(yT l (yZ l) ⟨1,40⟩).1++(a7 l (yT l (yZ l) ⟨1,40⟩).1 (gN l (yT l (yZ l) ⟨1,40⟩).2 8).toNat (yT l (yZ l) ⟨1,40⟩).2.tick).1:=rfl;have hRf:∀d∈(yT l (yZ l) ⟨1,40⟩).1,d.slots.length<=6/\∀u∈d.slots,u.typ=tK u.typ.k/\(u.typ.k=0\/u.typ.k=1):=fun d hd=>⟨(s4 hl d hd).few,fun u hu=>(s4 hl d hd).typ hu⟩
 generalize yZ l=many at *
 refine zN func28 rfl qEC (rs:=[.cell 2 2 true]) (by kernel_rfl) ?_;unfold zWf;simp;refine mq (vN 0) (by simp[zK]) ?_;simp[zK];refine mn (eY (l:=l) ⟨0,40⟩ 3 (by omega) (by simp[Gm.Ok])) [1] (by simp[gS,gB]) ?_;simp[gS,gB,hw2];refine qK (S:=Nat) (fun i=>[(2,.ptr 0 0),(3,.ptr 1 0),(4,.ptr 3 0),(5,int many),(6,int i)]) (fun i=>stG l (yT l i ⟨1,40⟩).2 (yT l i ⟨1,40⟩).1) (fun i=>i<=many) (fun i=>many-i) 0 (by simp)
  ((y7 (l:=3) (o:=1) rfl rfl 41 31).trans (mu [0,1,2,3,4] 0 (by rfl) (by simp[stG,gB,oM,yT,Gm.tick]))) ?_
 intro i hi;have hst:=zJT hl ⟨1,40⟩ i;have hcl:=iZ l ⟨1,40⟩ i;by_cases h:i<many
 .have hstep:yT l (i+1) ⟨1,40⟩=((yT l i ⟨1,40⟩).1++[(vM l i (yT l i ⟨1,40⟩).2).1],(vM l i (yT l i ⟨1,40⟩).2).2):=rfl;generalize hmi:(yT l i ⟨1,40⟩).2=mi at hst hstep;generalize hki:(yT l i ⟨1,40⟩).1=Ri at hcl hstep;have hok0:(⟨1,40⟩:Gm).Ok 6000:=by simp[Gm.Ok]
  have hok1:mi.Ok 5000:=hok0.adv hst (by omega);have hwi:=jZ i (by omega);have w1:=zY (1+(i:Int)) (by omega);have w2:=zY (2*(i:Int)) (by omega);have w3:=zY (20+2*(i:Int)) (by omega);have i1:=vN (1+(i:Int));have i0:=vN 0;have hi4:i<4:=by omega
  have hi4':(i:Int)<4:=by omega
  obtain⟨c0,c1⟩:=eB hl mi (n:=2) (by omega);have hcnt:1+gN l mi 2=(eX l mi:Int):=by unfold eX;omega
  have hcr:=sX hl mi;have wc:IntKind.i64.wrap (1+gN l mi 2)=eX l mi:=by rw[<-hcnt];exact IntWalk.i64_in _ (by omega)
  obtain⟨Ra,ha⟩:=zTS hi4;have hrec:(vM l i mi).1=vL i (bC l i (eX l mi) mi.tick).1:=rfl;have hrec2:(vM l i mi).2=(bC l i (eX l mi) mi.tick).2:=rfl;generalize eX l mi=cnt at *
  simp[stG,gB,h,w1];refine yX i1 (by simp) (by simp[zK]) ?_;refine yX i0 (by simp) (by simp[zK]) ?_;simp[hi4,hi4',ha,zK];refine mn (eY (l:=l) mi 2 (by omega) (hok1.mono (by omega))) [1] (by simp[gS,gB]) ?_;simp[gS,gB,wc];refine qK (S:=Nat) (fun k=>[(2,.ptr 0 0),(3,.ptr 1 0),(4,.ptr 3 0),(5,int many),(6,int i),(7,.ptr 5 0),(8,int cnt),(9,int k)]) (fun k=>stG l (bC l i k mi.tick).2 Ri++[.box (gRB i k),.row false 85 11 k (jS (bC l i k mi.tick).1)]) (fun k=>k<=cnt) (fun k=>cnt-k) 0 (by simp)
   ((y7 (l:=5) (o:=8) rfl rfl 85 11).trans (mu [0,1,2,3,4,5,6] 0 (by rfl) (by simp[stG,gB,oM,bC,gRB,vL,zJ,zK,Typ.zero,Exp.zero,Id.zero,Typ.k,Typ.id,Typ.kids]))) ?_
  intro k hk;have hst2:=zCC (l:=l) i mi.tick k;have hsl:=mG l i mi.tick k;by_cases hk2:k<cnt
  .have hsstep:bC l i (k+1) mi.tick=((bC l i k mi.tick).1++[zNP l i k (bC l i k mi.tick).2],(bC l i k mi.tick).2.tick):=rfl;generalize hmk:(bC l i k mi.tick).2=mk at hst2 hsstep;generalize hss:(bC l i k mi.tick).1=ss at hsl hsstep;have hwk:=jZ k (by omega);have w4:=zY (20+2*(i:Int)+k) (by omega);have i2:=vN (20+2*(i:Int)+k);have hk3:k<2:=by omega
   have hk3':(k:Int)<2:=by omega
   obtain⟨Rx,hxy⟩:=qAF hk3;obtain⟨g0,g1⟩:=eB hl mk (n:=3) (by omega);have nk:=eY (l:=l) mk 3 (by omega) (hok1.adv ((qU mi).trans hst2 (jAf _)) (by omega));simp[stG,gB,hk2,w2,w3,w4,gRB,vL,zJ];refine z7 i2 (by simp) (by simp[zK]) ?_;simp[hk3,hk3',hxy];refine aP nk [1] (by decide) (by simp[gS,gB]) (by simp) (by decide) (by simp) (by simp[gS]) ?_;have hg3:gN l mk 3=0\/gN l mk 3=1\/gN l mk 3=2:=by omega
   rcases hg3 with hg|hg|hg
   all_goals
    simp[gS,gB,hg,zK];refine⟨⟨by simp[maxLen];omega,by omega⟩,?_⟩;exact zO (k+1) hk2 (by omega) (mu [0,1,2,3,4,5,6] 0 (by rfl) (by simp[stG,gB,oM,hsstep,pY,mT,gRB,vL,zJ,j8,zNP,hg,tK,jO,jX,zK,Typ.zero,Exp.zero,Id.zero,Typ.k,Typ.id,Typ.kids,hwk]))
  .have hke:k=cnt:=by omega
   subst hke;generalize hmk:(bC l i k mi.tick).2=mk at hst2 hrec2;generalize hss:(bC l i k mi.tick).1=ss at hsl hrec;subst hsl;subst hcl;simp[stG,gB];refine⟨qV [(2,.ptr 0 0),(3,.ptr 1 0),(4,.ptr 3 0),(5,int many),(6,int Ri.length),(7,.ptr 5 0)],stG l mk Ri++[.box (zJ (vL Ri.length ss))],mu [0,1,2,3,4,5] 1 (by rfl) (by simp[stG,gB,oM,gRB,vL,zJ]),?_⟩;simp[stG,gB,zJ];refine⟨⟨by simp[maxLen];omega,by omega⟩,?_⟩;exact zO (Ri.length+1) h (by omega) (mu [0,1,2,3,4] 0 (by rfl) (by simp[stG,gB,oM,hstep,hrec,hrec2,zAh,u4,zJ,hwi]))
 .have hie:i=many:=by omega
  subst hie;simp[stG,gB];have hok0:(⟨1,40⟩:Gm).Ok 6000:=by simp[Gm.Ok]
  have hB:=zVq hl (yT l i ⟨1,40⟩).1 i hcl (by omega) (by omega) (yT l i ⟨1,40⟩).2 (hok0.adv hst (by omega)) hRf (vK l) (by rw[hgp,hgd]);refine⟨_,_,m_ [0,1,2,3,4] 0 (by rfl) ?_ ?_,hB⟩
  .simp[stG,gB,oM]
  .simp
end
def qCM:K:=G [kO 3 0,kO 4 1,kMn 6] (G [kZ 7 [kl]] (Z (G [D 21 4 0,L 22 21 1] (K.block 0 (G [kQi 24 22 0 false,M 23 24] (Y 23 (Z (G [M 25 2,⟨none,.neg (some 26) (kt 25)⟩,M 8 26] (K.block 1 (K.loop (Z (G [M 27 8,M 28 2,kB 29 27 28 .leq] (Y 29 ks (K.exit 1))) (Z (K.block 2 (K.dops [(0,0,L 32 7 1),(1,0,M 33 8),(2,0,kb 34 [ki,ki,kl] [(0,1,(kc 0)),(1,1,(kt 33))]),(3,0,kN 35 32),(4,0,kd 36 46 3 1 [ki,ki,kl] [(0,3,(.const (.agg #[ki,ki,kl])))]),(5,0,kP 37 46 3 40 32 36),(6,6,kX 38 37 35 3),(7,6,S 38 34 3),(8,5,S 7 37 1)])) (K.ops [M 30 8,kBi 31 30 1 .add,M 8 31])))))) (G [L 39 7 1,M 6 39] kr)) (G [kQi 41 22 1 false,M 40 41] (Y 40 (G [kb 42 [ki,ki,kl] [(0,1,(kc 1))],kb 43 [ki,ki,kl] [(0,1,(kc 1)),(1,1,(kc 1))],⟨none,.brow (some 44) 46 3 2 [ki,ki,kl,ki,ki,kl] [(0,3,(kt 42)),(3,3,(kt 43))]⟩,M 6 44] kr) (G [kQi 46 22 2 false,M 45 46] (Y 45 (Z (K.dops [(0,1,J 47 3 2),(1,1,D 48 4 4),(2,1,L 49 48 1),(3,1,kXi 50 49 5 0),(4,1,J 51 50 5),(5,0,M 52 2),(6,3,kC 53 76 [(kt 47),(kt 51),(kt 52)]),(7,0,M 9 53)]) (Z (G [M 54 2,⟨none,.mm (some 55) false [(kt 54),(kc 2)]⟩,kBi 56 55 1 .add,kMi 57 0] (K.block 3 (K.loop (G [kB 58 57 56 .lss] (Z (Y 58 ks (K.exit 3)) (Z (K.block 4 (G [M 59 57,M 10 59] (G [M 60 9,kd 61 44 1 1 [kl] [(0,1,(kt 60))],M 62 10,kC 63 119 [(kt 61),(kt 62)],kC 64 118 [(kt 63)]] (K.block 5 (K.rng (kt 64) [65] (K.ops [M 11 65]) (K.block 6 (K.dops [(0,0,L 66 7 1),(1,0,
 M 67 11),(2,0,kb 68 [ki,ki,kl] [(0,1,(kc 4)),(2,1,(kt 67))]),(3,0,kN 69 66),(4,0,kd 70 46 3 1 [ki,ki,kl] [(0,3,(.const (.agg #[ki,ki,kl])))]),(5,0,kP 71 46 3 40 66 70),(6,6,kX 72 71 69 3),(7,6,S 72 68 3),(8,5,S 7 71 1)]))))))) (K.ops [kBi 73 57 1 .add,M 57 73]))))))) (G [L 74 7 1,M 6 74] kr))) ks)))))))) (G [J 76 3 2,D 77 4 1,J 78 77 3,kC 79 96 [(kt 76),(kt 78)],M 75 79,kE 80 75 0,kE 81 75 1,kZ 12 kz0,S 12 80 31,M 13 81] (G [kMn 14] (Z (G [D 82 12 8,L 83 82 1,kN 84 83,kMi 85 0] (K.block 7 (K.loop (G [kB 86 85 84 .lss] (Z (Y 86 ks (K.exit 7)) (Z (K.block 8 (G [M 87 85,kX 88 83 85 11,J 89 88 11,kZ 16 kz5,M 15 87,S 16 89 11] (G [J 90 3 2,D 91 16 4,J 92 91 5,M 93 2,kC 94 76 [(kt 90),(kt 92),(kt 93)],M 17 94] (G [M 95 14,M 96 17,kd 97 44 1 1 [kl] [(0,1,(kt 96))],kP 98 44 1 24 95 97,M 14 98] (G [M 99 17,kN 100 99,kMi 101 0] (K.block 9 (K.loop (G [kB 102 101 100 .lss] (Z (Y 102 ks (K.exit 9)) (Z (K.block 10 (G [kX 103 99 101 3,J 104 103 3,kZ 19 [ki,ki,kl],S 19 104 3] (G [D 105 12 3,L 106 105 1,kQi 107 106 1 false] (Y 107 (K.dops [(0,0,L 108 7 1),(1,0,M 109 15),(2,0,J 110 19 3),(3,0,kd 111 46 3 1 [ki,ki,kl] [(0,3,(kt 110))]),(4,0,kb 112 [ki,ki,kl] [(0,1,(kc 3)),(1,1,(kt 109)),(2,1,(kt 111))]),(5,0,kN 113 108),(6,0,kd 114 46 3 1 [ki,ki,kl] [(0,3,(.const (.agg #[ki,ki,kl])))]),(7,0,kP 115 46 3 40 108 114),(8,6,kX 116 115 113 3),(9,6,S 116 112 3),(10,5,S 7 115 1)]) ks)))) (K.ops [kBi 117 101 1 .add,M 101 117]))))))))))) (K.ops [kBi 118 85 1 .add,M 85 118]))))))) (Z (G [D 119 12 3,
 L 120 119 1,kQi 121 120 0 false] (Y 121 (K.wk (G [M 122 14,kC 123 118 [(kt 122)]] (K.block 11 (K.rng (kt 123) [124] (K.ops [M 20 124]) (K.block 12 (K.dops [(0,0,L 125 7 1),(1,0,M 126 20),(2,0,kb 127 [ki,ki,kl] [(0,1,(kc 2)),(2,1,(kt 126))]),(3,0,kN 128 125),(4,0,kd 129 46 3 1 [ki,ki,kl] [(0,3,(.const (.agg #[ki,ki,kl])))]),(5,0,kP 130 46 3 40 125 129),(6,6,kX 131 130 128 3),(7,6,S 131 127 3),(8,5,S 7 130 1)])))))) ks)) (G [L 132 7 1,M 6 132] kr)))))))
def zDO:Nat->Option wD:=fun|12=>k_ [1,1,1,1,1,0,3,0] | 7=>k_ [0,0,0,0,0,0,6,6,5] | 18=>k_ [0,0,0,0,0,0,6,6,5] | 38=>k_ [0,0,0,0,0,0,6,6,5] | 32=>k_ [0,0,0,0,0,0,0,0,6,6,5]|_=>none
theorem qKR:kv f76 zDO qCM:=mw (by kernel_rfl)
def fF(m:Int):wI:=(List.range (2*m+1).toNat).map fun(i:Nat)=>.mk 0 (i-m) []
def zFc(m:Int)(e:wI):wI:=(List.range ((if 2<m then 2 else m)+1).toNat).flatMap fun k=>(j3 (List.replicate k e)).map (.mk 4 0)
def jM(i:Int):List wI->wI
 |[]=>[]
 |l::r=>l.map (fun v=>.mk 3 i [v])++jM (i+1) r
def gP(l:List wI):wI:=(j3 l).map (.mk 2 0)
def iG(k:Int)(l:List wI):wI:=if k=0 then gP l else if k=1 then jM 0 l else []
def aC(p:Prg)(m:Int):Nat->Typ->wI
 | 0,_=>[]
 |n+1,t=>if t.k=0 then fF m else if t.k=1 then [.mk 1 0 [],.mk 1 1 []]else if t.k=2 then zFc m (aC p m n (t.kids.headD Typ.zero))
  else iG (dfn p t.id).kind ((dfn p t.id).slots.map fun s=>aC p m n s.typ)
theorem tO:∀(l acc:List wI),(l.foldl cH acc).length=acc.length*(l.map List.length).foldl (· * ·) 1
 |[],acc=>by simp
 |a::l,acc=>by
  have h:∀(l:wA) (x y:Nat),l.foldl (· * ·) (x*y)=x*l.foldl (· * ·) y:=by
   intro l;induction l with
   |nil=>intro x y;rfl
   |cons a l ih=>intro x y;simp only[jBh,Nat.mul_assoc,ih]
  simp only[jBh,jAg,tO l,dJ,Nat.one_mul];have:=h (l.map List.length) a.length 1;rw[Nat.mul_one]at this;rw[this,Nat.mul_assoc]
theorem zH2:∀(l:List wI) (z:List Sz) (a b:Int),z.map (·.a)=l.map (fun x=>(x.length:Int))->(iJ a b z).e=0->(iJ a b z).a=a*((l.map List.length).foldl (· * ·) 1:Nat)
 |[],[],a,b,_,_=>by simp[iJ]
 |x::l,k::z,a,b,h,he=>by
  simp only[jAg,jBb]at h;simp only[iJ]at he ⊢;split at he
  .simp at he
  .rename_i hn;rw[if_neg hn,zH2 l z _ _ h.2 he,h.1];have hh:∀(l:wA) (x y:Nat),l.foldl (· * ·) (x*y)=x*l.foldl (· * ·) y:=by
    intro l;induction l with
    |nil=>intro x y;rfl
    |cons a l ih=>intro x y;simp only[jBh,Nat.mul_assoc,ih]
   have:=hh (l.map List.length) x.length 1;rw[Nat.mul_one]at this;simp only[jAg,jBh,Nat.one_mul,this];rw[Int.natCast_mul,Int.mul_assoc]
 |[],_::_,_,_,h,_=>by simp at h
 |_::_,[],_,_,h,_=>by simp at h
theorem zEz:∀(l:List wI) (z:List Sz) (i a b:Int),z.map (·.a)=l.map (fun x=>(x.length:Int))->(gD a b z).a=a+(jM i l).length
 |[],[],i,a,b,_=>by simp[gD,jM]
 |x::l,k::z,i,a,b,h=>by simp only[jAg,jBb]at h;simp only[gD,jM,jA5,jAe];rw[zEz l z (i+1) _ _ h.2,h.1];omega
 |[],_::_,_,_,_,h=>by simp at h
 |_::_,[],_,_,_,h=>by simp at h
theorem zM2(m:Int)(hm:0<=m)(e:wI)(k:Sz)(hk:k.a=e.length)(he:k.e=0):(bP m k).a=(zFc m e).length:=by
 have h2:cH (cH [[]] e) e=j3 [e,e]:=rfl;unfold bP zFc;rw[if_neg (by simp[he])];have c0:m=0\/m=1\/2<=m:=by omega
 rcases c0 with rfl|rfl|hm
 .simp[List.range_succ]
 .simp[List.range_succ,j3,dJ,hk];omega
 .have e1:((if 2<m then 2 else m)+1).toNat=3:=by split<;>omega
  rw[e1,if_neg (by omega),if_neg (by omega)];simp[List.range_succ,j3,dJ,hk,List.replicate];omega
theorem zKx{n:Nat}(ih:∀t,(jI p m n t).e=0->(jI p m n t).a=(aC p m n t).length):∀(l:List Slt),lW (l.map fun s=>jI p m n s.typ)=0 ->
 (l.map fun s=>jI p m n s.typ).map (·.a)=(l.map fun s=>aC p m n s.typ).map (fun x=>(x.length:Int)):=by
 intro l h;have h0:=fJ h;rw[jCg,jCg];apply jC6;intro s hs;exact ih s.typ (h0 _ (List.mem_map_of_mem hs))
theorem pH{k:Sz}(h:(cI k).e=0):k.e=0/\(cI k).a=k.a/\k.a<=4096:=by
 unfold cI at h⊢;split at h
 .simp at h;contradiction
 .rename_i h1;split at h
  .simp at h
  .rename_i h2;rw[if_neg h1,if_neg h2];simp at h1;exact⟨h1,rfl,by omega⟩
theorem oU{n:Nat}{t:Typ}(h:yE p n t=true)(h0:t.k≠0)(h1:t.k≠1)(h2:t.k≠2):(dfn p t.id).kind=0\/(dfn p t.id).kind=1:=by
 cases n with
 |zero=>simp[yE]at h
 |succ n =>
  cases t with
  |mk k id kids =>
   simp only[Typ.k_mk]at h0 h1 h2;unfold dfn;simp only[yE,Typ.k_mk,Typ.id_mk,Typ.kids_mk,h2,if_false]at h;by_cases hk:kids=[]
   .by_cases h3:k=3
    .cases hf:jK p.defs id with
     |none=>simp[hk,h3,hf,tF]at h
     |some d=>simpa[hk,h3,hf,tF]using h
    .simp[hk,h3,h0,h1]at h
   .simp[hk]at h
theorem fG(p:Prg)(m:Int)(hm:0<=m):∀(n:Nat) (t:Typ),(jI p m n t).e=0->(jI p m n t).a=(aC p m n t).length
 | 0,t,h=>by unfold jI at h;split at h<;>simp at h
 |n+1,t,h=>by
  unfold jI aC at *
  split at h
  .simp at h
  rename_i hv;have hv:validT p t=true:=by simpa using hv
  rw[if_neg (by simp[hv])];by_cases h0:t.k=0
  .simp[h0,fF];omega
  by_cases h1:t.k=1
  .simp[h1]
  by_cases h2:t.k=2
  .rw[if_neg h0,if_neg h1,if_pos h2]at h⊢;rw[if_neg h0,if_neg h1,if_pos h2];obtain⟨e1,e2,_⟩:=pH h;have e3:(jI p m n (t.kids.headD Typ.zero)).e=0:=by
    by_cases hz:(jI p m n (t.kids.headD Typ.zero)).e=0
    .exact hz
    .exact absurd e1 (by rw[bP,if_pos hz];exact hz)
   rw[e2];exact zM2 m hm _ _ (fG p m hm n (t.kids.headD Typ.zero) e3) e3
  .rw[if_neg h0,if_neg h1,if_neg h2]at h⊢;rw[if_neg h0,if_neg h1,if_neg h2];obtain⟨e1,e2,_⟩:=pH h;rw[e2];have e3:lW ((dfn p t.id).slots.map fun s=>jI p m n s.typ)=0:=by
    by_cases hz:lW ((dfn p t.id).slots.map fun s=>jI p m n s.typ)=0
    .exact hz
    .exact absurd e1 (by simp[yQ,hz])
   have e4:=zKx (fun t=>fG p m hm n t) _ e3;have e5:=oU hv h0 h1 h2;unfold iG;rcases e5 with e5|e5
   .rw[if_pos e5];have ee:yQ (decide ((dfn p t.id).kind=0)) ((dfn p t.id).slots.map fun s=>jI p m n s.typ)=iJ 1 1 ((dfn p t.id).slots.map fun s=>jI p m n s.typ):=by simp[yQ,e3,e5]
    rw[ee]at e1 ⊢;rw[zH2 _ _ _ _ e4 e1,gP,jAe,j3,tO];simp
   .rw[if_neg (by omega),if_pos e5];have ee:yQ (decide ((dfn p t.id).kind=0)) ((dfn p t.id).slots.map fun s=>jI p m n s.typ)=gD 0 1 ((dfn p t.id).slots.map fun s=>jI p m n s.typ):=by simp[yQ,e3,e5]
    rw[ee,zEz _ _ 0 _ _ e4];simp
def num(x:Int):Val:=.mk 0 x []
variable{j:Nat}
theorem zHk(h:j<(2*m+1).toNat):(fF m).take (j+1)=(fF m).take j++[.mk 0 (j-m) []]:=by rw[jA6 (by simpa[fF]using h)];simp[fF]
def j4(X:wI)(j:Nat):wI:=(List.range j).flatMap fun k=>(j3 (List.replicate k X)).map (.mk 4 0)
mutual
theorem zO5:∀(a:A) (k:Nat),vw j9 (fun _=>none) a=a->a.bnd k=true
 | .any,k,h=>rfl
 | .nil,k,h=>rfl
 | .lit _,k,h=>rfl
 | .agg cs,k,h=>by simp only[vw,A.agg.injEq]at h;simpa[A.bnd]using eM cs k h
 | .tup cs,k,h=>by simp only[vw,A.tup.injEq]at h;simpa[A.bnd]using eM cs k h
 | .sl n cs,k,h=>by simp only[vw,A.sl.injEq]at h;simpa[A.bnd]using eM cs k h.2
 | .fsl n cs,k,h=>by simp only[vw,A.fsl.injEq]at h;simpa[A.bnd]using eM cs k h.2
 | .ptr l off,k,h=>by simp[vw]at h
 | .rptr cs,k,h=>by simp only[vw,A.rptr.injEq]at h;simpa[A.bnd]using eM cs k h
 | .row l n,k,h=>by simp[vw,j9]at h
 | .rwp l n off,k,h=>by simp[vw]at h
 | .map l,k,h=>by simp[vw]at h
 | .clo f first cap,k,h=>by simp only[vw,A.clo.injEq,true_and]at h;simp[A.bnd,eM first k h.1,eM cap k h.2]
theorem eM:∀(cs:wE) (k:Nat),vwL j9 (fun _=>none) cs=cs->eJ k cs=true
 |[],k,h=>rfl
 |c::cs,k,h=>by simp only[vwL,jBb]at h;simp[eJ,zO5 c k h.1,eM cs k h.2]
end
theorem mY(X:wI)(j:Nat):j4 X (j+1)=j4 X j++(j3 (List.replicate j X)).map (.mk 4 0):=by simp[j4,List.range_succ]
theorem zFb(X:wI)(j d:Nat):∃R,j4 X (j+d)=j4 X j++R:=by
 induction d with
 |zero=>exact⟨[],by simp⟩
 |succ d ih =>
  obtain⟨R,hR⟩:=ih;exact⟨R++(j3 (List.replicate (j+d) X)).map (.mk 4 0),by rw[<-jAq,mY,hR,jAu]⟩
theorem zD5{X:wI}{N i:Nat}(h:j<N)(hi:i<(j3 (List.replicate j X)).length) :
 (j4 X N).take ((j4 X j).length+(i+1))=(j4 X N).take ((j4 X j).length+i)++[.mk 4 0 (j3 (List.replicate j X))[i]]/\(j4 X j).length+(i+1)<=(j4 X N).length:=by
 obtain⟨R,hR⟩:=zFb X (j+1) (N-(j+1));rw[show j+1+(N-(j+1))=N by omega,mY]at hR;have hl:(j4 X j).length+(i+1)<=(j4 X N).length:=by rw[hR];simp;omega
 refine⟨?_,hl⟩;rw[<-jAq,jA6 (by omega)]
 congr 2
 have:(j4 X N)[(j4 X j).length+i]?=some (.mk 4 0 (j3 (List.replicate j X))[i]):=by rw[hR,jAu,jAy (by omega),Nat.add_sub_cancel_left,jAl (by simpa using hi)];simp[hi]
 rw[jA1 (by omega)]at this;exact jB0 this
theorem zLK(l:wS)(k:Nat):eJ k (jQ l)=true:=eM _ k ((y9 l).2 _ _)
attribute [simp] zLK
theorem pV(i:Int):∀(l r:List wI),jM i (l++r)=jM i l++jM (i+l.length) r
 |[],r=>by simp[jM]
 |x::l,r=>by have h:=pV (i+1) l r;simp only[jBj,jM,h,jAb,jAu];rw[show i+1+(l.length:Int)=i+((l.length+1:Nat):Int) by omega]
variable{L:List wI}
theorem zDl(h:j<L.length):jM 0 (L.take (j+1))=jM 0 (L.take j)++L[j].map (fun v=>.mk 3 j [v]):=by rw[jA6 h,pV];simp[jM,jAv (Nat.le_of_lt h)]
theorem zDm{j k:Nat}(h:j<L.length)(hk:k<L[j].length) :
 (jM 0 L).take ((jM 0 (L.take j)).length+(k+1))=(jM 0 L).take ((jM 0 (L.take j)).length+k)++[.mk 3 j [L[j][k]]]/\(jM 0 (L.take j)).length+(k+1)<=(jM 0 L).length:=by
 have hR:jM 0 L=jM 0 (L.take j)++(L[j].map (fun v=>Val.mk 3 j [v])++jM ((j:Int)+1) (L.drop (j+1))):=by
  conv=>lhs;rw[<-jC1 j L]
  rw[pV,jAo h];simp[jM,jAv (Nat.le_of_lt h)]
 have hl:(jM 0 (L.take j)).length+(k+1)<=(jM 0 L).length:=by rw[hR];simp;omega
 refine⟨?_,hl⟩;rw[<-jAq,jA6 (by omega)]
 congr 2
 have:(jM 0 L)[(jM 0 (L.take j)).length+k]?=some (.mk 3 j [L[j][k]]):=by rw[hR,jAy (by omega),Nat.add_sub_cancel_left,jAl (by simpa using hk)];simp[hk]
 rw[jA1 (by omega)]at this;exact jB0 this
theorem zJe{X:wI}(h:j<=X.length):(∀ds,(zR (X.take j)++ds).take (j*3)=zR (X.take j))/\(∀ds,(zR (X.take j)++ds).drop (j*3+3)=ds.drop 3):=by
 have hl:(zR (X.take j)).length=j*3:=by simp[jAv h]
 refine⟨fun ds=>by rw[<-hl];simp,fun ds=>by rw[<-hl,List.drop_append];simp⟩
theorem zYd(p:Prg)(hs:Sml p)(m:Int)(hm:0<=m/\m<=64):∀(n:Nat) (t:Typ),(jI p m n t).e=0->mv 76 [.agg (zP p),.agg (zB t),int m] [] (.row 0 (aC p m n t).length) [.row false 46 3 (aC p m n t).length (zR (aC p m n t))]:=by
 intro n;induction n with
 |zero =>
  intro t h;unfold jI at h;split at h<;>simp at h
 |succ n ih =>
  intro t h;have hlen:=fG p m hm.1 (n+1) t h;have hle:=bS p m hm (n+1) t h;refine zN func76 rfl qKR (rs:=[.slot 6]) (by kernel_rfl) ?_;unfold qCM;unfold jI at h;split at h
  .simp at h
  rename_i hv;have hv:validT p t=true:=by simpa using hv
  by_cases h0:t.k=0
  .have ha:aC p m (n+1) t=fF m:=by rw[aC,if_pos h0]
   rw[ha];have hli:(fF m).length=(2*m+1).toNat:=by simp[fF]
   have hw0:=zY (0-m) (by omega);have hw0':IntKind.i64.wrap (-m) = -m:=IntWalk.i64_in _ (by omega);simp[zP,zB,h0,hw0,hw0'];refine qK (S:=Nat) (fun j=>[(2,int m),(6,.nil),(7,.ptr 2 0),(8,int (j-m))])
    (fun j=>[.box (zP p),.box (zB t),.box [.row 3 j],.row false 46 3 j (zR ((fF m).take j))])
    (fun j=>(j:Int)<=2*m+1) (fun j=>(2*m+1).toNat-j) 0 (by simp;omega)
    ((y7 (l:=2) (o:=0) rfl rfl 46 3).trans (mu [0,1,2,3] 0 (by rfl) (by simp[zP,zB,h0]))) ?_
   intro j hj;by_cases hjl:(j:Int)-m<=m
   .have htk:=zHk (m:=m) (j:=j) (by omega);have hw1:=zY ((j:Int)-m+1) (by omega);have hll:((fF m).take j).length=j:=by simp;omega
    have hjx:j<=(fF m).length:=by omega
    simp[hjl,tE,oY,hw1,jAv hjx,(zJe hjx).1,(zJe hjx).2];refine⟨⟨by simp[maxLen];omega,by omega⟩,by omega,?_⟩;exact zO (j+1) (by omega) (by omega) (m_ [0,1,2,3] 0 (by rfl) (by simp[zP,zB,h0,htk,zF,Val.k,Val.n,Val.kids]) (by simp;omega))
   .have hjj:(j:Int)=2*m+1:=by omega
    have hjn:j=(fF m).length:=by omega
    have htk:(fF m).take j=fF m:=by rw[hjn];exact jA9 (jA _)
    simp[hjl,htk];exact mr [3] 0 (by rfl) (by simp[hjn])
  by_cases h1:t.k=1
  .have ha:aC p m (n+1) t=[.mk 1 0 [],.mk 1 1 []]:=by rw[aC,if_neg h0,if_pos h1]
   rw[ha];simp[zP,zB,h1];exact mr [3] 0 (by rfl) (by simp[zF,Val.k,Val.n,Val.kids])
  by_cases h2:t.k=2
  .obtain⟨x,hx⟩:=pQ hv h2;rw[if_neg h0,if_neg h1,if_pos h2,hx]at h;obtain⟨e1,_,_⟩:=pH h;have e3:(jI p m n x).e=0:=by
    by_cases hz:(jI p m n x).e=0
    .exact hz
    .exact absurd e1 (by rw[jCy,bP,if_pos hz];exact hz)
   have ha:aC p m (n+1) t=j4 (aC p m n x) ((if 2<m then 2 else m)+1).toNat:=by rw[aC,if_neg h0,if_neg h1,if_pos h2,hx];rfl
   have hex:=bS p m hm n x e3;have hel:=fG p m hm.1 n x e3;have ih:=ih x e3;rw[ha]at hlen ⊢;generalize aC p m n x=X at ih hel hlen;simp[zP,zB,h2,hx];refine zIa ih (by simp[zP,zB,qI]) ?_;obtain⟨K,hK,hK2⟩:∃K:Nat,(if 2<m then 2 else m)+1=(K:Int)/\K<=3:=⟨((if 2<m then 2 else m)+1).toNat,by split<;>omega,by split<;>omega⟩;have hw3:IntKind.i64.wrap ((if 2<m then 2 else m)+1)=(K:Int):=by rw[<-hK];exact IntWalk.i64_in _ (by split<;>omega)
   rw[hK]at hlen ⊢;simp only[jCl]at hlen ⊢;have hW:(j4 X K).length<=4096:=by omega
   simp[hw3];refine qK (S:=Nat) (fun j=>[(7,.ptr 2 0),(9,.sl X.length (zR X)),(56,int K),(57,int j)])
    (fun j=>[.box (zP p),.box (zB t),.box [.row 3 (j4 X j).length],.row false 46 3 (j4 X j).length (zR ((j4 X K).take (j4 X j).length))])
    (fun j=>j<=K) (fun j=>K-j) 0 (by simp)
    ((y7 (l:=2) (o:=0) rfl rfl 46 3).trans (mu [0,1,2,4] 1 (by rfl) (by simp[zP,zB,h2,hx,j4]))) ?_
   intro j hj;by_cases hjl:j<K
   .have hw4:=jZ j (by omega);simp[hjl,hw4];have hrep:mv 119 [.sl 1 (qG [X]),int j] [] (.sl (List.replicate j X).length (qG (List.replicate j X))) []:=by have:=zPX j (by omega) (.sl X.length (zR X));rw[List.length_replicate,qG,qG,List.map_replicate];exact this
    refine mq hrep (by simp) ?_;simp;refine mq (zDc (List.replicate j X)) (by simp) ?_;simp;have hc1:(j4 X (j+1)).length=(j4 X j).length+(j3 (List.replicate j X)).length:=by rw[mY];simp
    refine⟨[(7,.ptr 2 0),(9,.sl X.length (zR X)),(56,int K),(57,int j),(64,.clo 154 [] [.rptr [.sl (List.replicate j X).length (qG (List.replicate j X))]])],4,(j3 (List.replicate j X)).map (fun t=>[o6 t]),
     fun i=>[.box (zP p),.box (zB t),.box [.row 3 ((j4 X j).length+i)],.row false 46 3 ((j4 X j).length+i) (zR ((j4 X K).take ((j4 X j).length+i)))],
     154,[],[.rptr [.sl (List.replicate j X).length (qG (List.replicate j X))]],by simp,zLB,zNU _ _ rfl (by simp;omega),zCx (τ:=[]) (by simp) (by simp) (by simp) (by simp) (by simp[zP,zB]),by omega,?_,by simp,by simp,?_,?_⟩
    .intro i hi;simp[zP,zB]
    .intro i hi b' M r r';simp only[jAe]at hi;obtain⟨htk,hle⟩:=zD5 hjl hi;have hlx:(j4 X j).length+i<=(j4 X K).length:=by omega
     have hcast:(((j4 X j).length:Int)+(i:Int)).toNat=(j4 X j).length+i:=by omega
     simp[tE,oY,jAv hlx,(zJe hlx).1,(zJe hlx).2,hcast];refine⟨⟨by simp[maxLen];omega,by omega⟩,⟨by omega,by omega⟩,?_⟩;refine⟨qV [],_,?_,rfl⟩;exact mu [0,1,2,3,4] 0 (by rfl) (by simp[zP,zB,htk,zF,Val.k,Val.n,Val.kids,jAq])
    .simp;exact zO (j+1) hjl (by omega) (mu [0,1,2,3] 0 (by rfl) (by simp[hc1,zP,zB,hw4]))
   .have hjj:j=K:=by omega
    subst hjj;simp;exact mr [3] 0 (by rfl) (by simp)
  .rw[if_neg h0,if_neg h1,if_neg h2]at h;obtain⟨e1,_,_⟩:=pH h;have ha:aC p m (n+1) t=iG (dfn p t.id).kind ((dfn p t.id).slots.map fun s=>aC p m n s.typ):=by rw[aC,if_neg h0,if_neg h1,if_neg h2]
   have e5:=oU hv h0 h1 h2;have hsl:=hs.dfn t.id;have e3:lW ((dfn p t.id).slots.map fun s=>jI p m n s.typ)=0:=by
    by_cases hz:lW ((dfn p t.id).slots.map fun s=>jI p m n s.typ)=0
    .exact hz
    .exact absurd e1 (by simp[yQ,hz])
   have e4:∀s∈(dfn p t.id).slots,(jI p m n s.typ).e=0:=fun s hs=>fJ e3 _ (List.mem_map_of_mem hs)
   have e6:∀s∈(dfn p t.id).slots,(aC p m n s.typ).length<=4096:=fun s hs=>by have g1:=bS p m hm n s.typ (e4 s hs);have g2:=fG p m hm.1 n s.typ (e4 s hs);omega
   rw[ha]at hlen ⊢;obtain⟨k,id,kids⟩:=t;simp only[Typ.k_mk,Typ.id_mk]at h0 h1 h2 hlen hsl e3 e4 e5 e6 ⊢;generalize hD:dfn p id=D at hlen hsl e3 e4 e5 e6 ⊢;rw[dfn]at hD;have hW:(iG D.kind (D.slots.map fun s=>aC p m n s.typ)).length<=4096:=by omega
   have hih:∀s∈D.slots,mv 76 [.agg (zP p),.agg (zB s.typ),int m] [] (.row 0 (aC p m n s.typ).length) [.row false 46 3 (aC p m n s.typ).length (zR (aC p m n s.typ))]:=fun s hs=>ih s.typ (e4 s hs)
   have hLl:(D.slots.map fun s=>aC p m n s.typ).length=D.slots.length:=by simp
   have hLg:∀i (h:i<D.slots.length),(D.slots.map fun s=>aC p m n s.typ)[i]?=some (aC p m n D.slots[i].typ):=fun i h=>by simp[h]
   generalize (D.slots.map fun s=>aC p m n s.typ)=L at hLl hLg hW hlen ⊢;clear hlen h e1 ha hle hv;simp[zP,zB,h0,h1,h2];refine mq (oE p id) (by simp[zP,zK,bR]) ?_;simp[bR,hD,zJ];intro hl;rcases e5 with e5|e5
   .have hsv:iG D.kind L=gP L:=by simp[iG,e5]
    rw[hsv]at hW ⊢;refine qK (S:=Nat) (fun i=>[(2,int m),(3,.ptr 0 0),(7,.ptr 2 0),(12,.ptr 3 0),(14,.row 4 i),(83,.sl D.slots.length (jS D.slots)),(84,int D.slots.length),(85,int i)])
     (fun i=>[.box (zP p),.box (zB (.mk k id kids)),.box [.nil],.box (zJ D),.row false 44 1 i (qG (L.take i))])
     (fun i=>i<=D.slots.length) (fun i=>D.slots.length-i) 0 (by simp)
     ((qS (t:=14) (by simp) 44 1).trans (mu [0,1,2,3,4] 0 (by rfl) (by simp[zP,zB,zJ]))) ?_
    intro i hi;by_cases h:i<D.slots.length
    .have hil:i<L.length:=by omega
     have hl6:=e6 D.slots[i] (jA0 h);have hc:=hih D.slots[i] (jA0 h);have hLi:=hLg i h;rw[jA1 hil]at hLi;rw[<-jB0 hLi]at hc hl6;simp[h,qZ h,j8,zP];refine mn hc [] (by simp[zP,zB]) ?_;simp[oY];refine⟨⟨by simp[maxLen];omega,by omega⟩,?_⟩;have htL:qG (L.take (i+1))=qG (L.take i)++[.sl L[i].length (zR L[i])]:=by rw[jA6 hil,fI];rfl
     refine qK (S:=Nat) (fun k=>[(2,int m),(3,.ptr 0 0),(7,.ptr 2 0),(12,.ptr 3 0),(14,.row 4 (i+1)),(15,int i),(83,.sl D.slots.length (jS D.slots)),(84,int D.slots.length),(85,int i),(99,.sl L[i].length (zR L[i])),(100,int L[i].length),(101,int k)])
      (fun q=>[.box (zP p),.box (zB (.mk k id kids)),.box [.nil],.box (zJ D),.row false 44 1 (i+1) (qG (L.take (i+1)))])
      (fun q=>q<=L[i].length) (fun q=>L[i].length-q) 0 (by simp)
      (mu [0,1,2,3,4] 1 (by rfl) (by simp[zP,zB,zJ,htL])) ?_
     intro q hq;by_cases hql:q<L[i].length
     .have hwq:=jZ q (by omega);simp[hql,qL hql,zJ,e5,tE,oY,hwq];exact zO (q+1) hql (by omega) (mu [0,1,2,3,4] 0 (by rfl) (by simp[zP,zB,zJ,e5,hwq]))
     .have hqq:q=L[i].length:=by omega
      subst hqq;have hwi:=jZ i (by omega);simp;exact zO (i+1) h (by omega) (mu [0,1,2,3,4] 0 (by rfl) (by simp[zP,zB,zJ,hwi]))
    .have hi:i=D.slots.length:=by omega
     subst hi;have htk:L.take D.slots.length=L:=jA9 (by omega);simp[htk,e5,zJ];refine⟨qV [(7,.ptr 0 0),(14,.sl L.length (qG L))],[.box [.row 1 0],.row false 46 3 0 []],(y7 (l:=2) (o:=0) rfl rfl 46 3).trans (mu [2,5] 1 (by rfl) (by simp[hLl])),?_⟩;simp;refine mq (zDc L) (by simp) ?_;simp;have hWl:(j3 L).length=(gP L).length:=by simp[gP]
     refine⟨[(7,.ptr 0 0),(123,.clo 154 [] [.rptr [.sl L.length (qG L)]])],2,(j3 L).map (fun t=>[o6 t]),
      fun i=>[.box [.row 1 i],.row false 46 3 i (zR ((gP L).take i))],
      154,[],[.rptr [.sl L.length (qG L)]],by simp,zLB,zNU _ _ rfl (by omega),zCx (τ:=[]) (by simp) (by simp) (by simp) (by simp) (by simp),by omega,?_,by simp,by simp,?_,?_⟩
     .intro i hi;simp
     .intro i hi b' M r r';simp only[jAe]at hi;have hlx:i<=(gP L).length:=by omega
      have htk:zR ((gP L).take (i+1))=zR ((gP L).take i)++zF (.mk 2 0 (j3 L)[i]):=by rw[jA6 (by omega),aY];simp[gP,zF]
      simp[tE,oY,jAv hlx,(zJe hlx).1,(zJe hlx).2];refine⟨⟨by simp[maxLen];omega,by omega⟩,by omega,?_⟩;refine⟨qV [],_,?_,rfl⟩;exact mu [0,1,2] 0 (by rfl) (by simp[htk,zF,Val.k,Val.n,Val.kids])
     .have htk:(gP L).take (j3 L).length=gP L:=jA9 (by omega);simp[htk];exact mr [1] 0 (by rfl) (by simp[hWl])
   .have hsv:iG D.kind L=jM 0 L:=by simp[iG,e5]
    rw[hsv]at hW ⊢;refine qK (S:=Nat) (fun i=>[(2,int m),(3,.ptr 0 0),(7,.ptr 2 0),(12,.ptr 3 0),(14,.row 5 i),(83,.sl D.slots.length (jS D.slots)),(84,int D.slots.length),(85,int i)])
     (fun i=>[.box (zP p),.box (zB (.mk k id kids)),.box [.row 4 (jM 0 (L.take i)).length],.box (zJ D),.row false 46 3 (jM 0 (L.take i)).length (zR ((jM 0 L).take (jM 0 (L.take i)).length)),.row false 44 1 i (qG (L.take i))])
     (fun i=>i<=D.slots.length) (fun i=>D.slots.length-i) 0 (by simp)
     (((y7 (l:=2) (o:=0) rfl rfl 46 3).trans (qS (t:=14) (by simp) 44 1)).trans (mu [0,1,2,3,4,5] 0 (by rfl) (by simp[zP,zB,zJ,jM]))) ?_
    intro i hi;by_cases h:i<D.slots.length
    .have hil:i<L.length:=by omega
     have hl6:=e6 D.slots[i] (jA0 h);have hc:=hih D.slots[i] (jA0 h);have hLi:=hLg i h;rw[jA1 hil]at hLi;rw[<-jB0 hLi]at hc hl6;simp[h,qZ h,j8,zP];refine mn hc [] (by simp[zP,zB]) ?_;simp[oY];refine⟨⟨by simp[maxLen];omega,by omega⟩,?_⟩;have hcs:=zDl hil;have hc1:(jM 0 (L.take (i+1))).length=(jM 0 (L.take i)).length+L[i].length:=by rw[hcs];simp
     have htL:qG (L.take (i+1))=qG (L.take i)++[.sl L[i].length (zR L[i])]:=by rw[jA6 hil,fI];rfl
     refine qK (S:=Nat) (fun k=>[(2,int m),(3,.ptr 0 0),(7,.ptr 2 0),(12,.ptr 3 0),(14,.row 5 (i+1)),(15,int i),(83,.sl D.slots.length (jS D.slots)),(84,int D.slots.length),(85,int i),(99,.sl L[i].length (zR L[i])),(100,int L[i].length),(101,int k)])
      (fun q=>[.box (zP p),.box (zB (.mk k id kids)),.box [.row 4 ((jM 0 (L.take i)).length+q)],.box (zJ D),.row false 46 3 ((jM 0 (L.take i)).length+q) (zR ((jM 0 L).take ((jM 0 (L.take i)).length+q))),.row false 44 1 (i+1) (qG (L.take (i+1)))])
      (fun q=>q<=L[i].length) (fun q=>L[i].length-q) 0 (by simp)
      (mu [0,1,2,3,4,5] 1 (by rfl) (by simp[zP,zB,zJ,htL])) ?_
     intro q hq;by_cases hql:q<L[i].length
     .obtain⟨htk,hle⟩:=zDm hil hql;have hlx:(jM 0 (L.take i)).length+q<=(jM 0 L).length:=by omega
      have hcast:(((jM 0 (L.take i)).length:Int)+(q:Int)).toNat=(jM 0 (L.take i)).length+q:=by omega
      have hwq:=jZ q (by omega);simp[hql,qL hql,zJ,e5,tE,oY,jAv hlx,(zJe hlx).1,(zJe hlx).2,hcast,hwq];refine⟨⟨by simp[maxLen];omega,by omega⟩,⟨by omega,by omega⟩,?_⟩;exact zO (q+1) hql (by omega) (mu [0,1,2,3,4,5] 0 (by rfl) (by simp[zP,zB,zJ,e5,htk,zF,Val.k,Val.n,Val.kids,jAq,hwq]))
     .have hqq:q=L[i].length:=by omega
      subst hqq;have hwi:=jZ i (by omega);simp;exact zO (i+1) h (by omega) (mu [0,1,2,3,4,5] 0 (by rfl) (by simp[zP,zB,zJ,hc1,hwi]))
    .have hi:i=D.slots.length:=by omega
     subst hi;have htk:L.take D.slots.length=L:=jA9 (by omega);simp[htk,e5,zJ];exact mr [4] 0 (by rfl) (by simp)
def szT(k:Sz):A:=.tup [int k.a,int k.b,int k.e]
theorem zKL(p:Prg)(hL:p.defs.length<=1000000)(hs:Sml p)(m:Int)(hm:0<=m/\m<=64):∀(n:Nat) (t:Typ) (d:Int),d=25-n->n<=24 ->
 mv 104 [.agg (zP p),.agg (zB t),int m,int d] [] (szT (jI p m n t)) []:=by
 intro n;induction n with
 |zero =>
  intro t d hd _;have hd:d=25:=by omega
  subst hd;refine ml [] [.slot 8,.slot 9,.slot 10] func104 (by kernel_rfl) ?_
  (conv in kq _ _=>cbv)
  simp[zP,zB];refine mq (vZ p hL t) (by simp[zP,zB,qI]) ?_;cases hv:validT p t with
  |false =>
   simp;exact zA 0 (by simp[jI,hv,szT])
  |true =>
   simp;exact zA 0 (by simp[jI,hv,szT])
 |succ n ih =>
  intro t d hd hn;refine ml [] [.slot 8,.slot 9,.slot 10] func104 (by kernel_rfl) ?_
  (conv in kq _ _=>cbv)
  simp[zP,zB];refine mq (vZ p hL t) (by simp[zP,zB,qI]) ?_;have hd24:¬(24<d):=by omega
  have hwd:=zY (d+1) (by omega);cases hv:validT p t with
  |false =>
   simp;exact zA 0 (by simp[jI,hv,szT])
  |true =>
   by_cases h0:t.k=0
   .have hw1:=zY (2*m) (by omega);have hw2:=zY (2*m+1) (by omega);simp[hd24,h0,hw1,hw2];exact zA 0 (by simp[jI,hv,szT,h0])
   by_cases h1:t.k=1
   .simp[hd24,h1];exact zA 0 (by simp[jI,hv,szT,h1])
   by_cases h2:t.k=2
   .obtain⟨x,hx⟩:=pQ hv h2;have hok:=bS p m hm n x;have hsz:jI p m (n+1) t=cI (bP m (jI p m n x)):=by simp[jI,hv,h0,h1,h2,hx]
    rw[hsz];simp[hd24,h2,hx,hwd];refine z7 (ih x (d+1) (by omega) (by omega)) (by simp[zB,zP,qI]) (by simp[szT]) ?_;generalize jI p m n x=Z at hok ⊢;simp[szT];obtain⟨a,b,e⟩:=Z;by_cases he:e=0
    .subst he;have hok:=hok rfl;simp only at hok;have haa0:0<=a*a:=Int.mul_nonneg hok.1 hok.1;have haa1:a*a<=4096*4096:=Int.mul_le_mul hok.2.1 hok.2.1 hok.1 (by decide);have hw2:=zY (1+a) (by omega);have hw3:=zY (1+b) (by omega);have hw4:=zY (a*a) (by omega);have hw5:=zY (1+a+a*a) (by omega);have hw6:=zY (1+b+b) (by omega);by_cases hm1:1<=m
     .by_cases hm2:2<=m
      .have hfin:bP m ⟨a,b,0⟩=⟨1+a+a*a,1+b+b,0⟩:=by simp[bP,show ¬m<=0 by omega,show ¬m<=1 by omega]
       have g3:¬1+a+a*a=0:=by omega
       by_cases g1:4096<1+a+a*a<;>by_cases g2:256<1+b+b<;>simp[hm1,hm2,hw2,hw3,hw4,hw5,hw6,g1,g2,g3]<;>exact zA 0 (by simp[hfin,szT,cI,g1,g2,g3])
      .have hfin:bP m ⟨a,b,0⟩=⟨1+a,1+b,0⟩:=by simp[bP,show ¬m<=0 by omega,show m<=1 by omega]
       have g3:¬1+a=0:=by omega
       by_cases g1:4096<1+a<;>by_cases g2:256<1+b<;>simp[hm1,hm2,hw2,hw3,g1,g2,g3]<;>exact zA 0 (by simp[hfin,szT,cI,g1,g2,g3])
     .have hm2:¬2<=m:=by omega
      have hfin:bP m ⟨a,b,0⟩=⟨1,1,0⟩:=by simp[bP,show m<=0 by omega]
      simp[hm1,hm2];exact zA 0 (by simp[hfin,szT,cI])
    .simp[he];exact zA 0 (by simp[bP,cI,szT,he])
   .have e5:=oU hv h0 h1 h2;obtain⟨k,id,kids⟩:=t;simp only[Typ.k_mk,Typ.id_mk]at h0 h1 h2 e5;have hsz:jI p m (n+1) (.mk k id kids)=cI (yQ (decide ((dfn p id).kind=0)) ((dfn p id).slots.map fun s=>jI p m n s.typ)):=by simp[jI,hv,h0,h1,h2];rfl
    have hsl:=hs.dfn id;rw[hsz];clear hsz hv;generalize hD:dfn p id=D at hsl e5 ⊢;rw[dfn]at hD;have hih:∀s∈D.slots,mv 104 [.agg (zP p),.agg (zB s.typ),int m,int (d+1)] [] (szT (jI p m n s.typ)) []:=fun s _=>ih s.typ (d+1) (by omega) (by omega)
    have hZl:(D.slots.map fun s=>jI p m n s.typ).length=D.slots.length:=by simp
    have hZg:∀i (h:i<D.slots.length),(D.slots.map fun s=>jI p m n s.typ)[i]?=some (jI p m n D.slots[i].typ):=fun i h=>by simp[h]
    have hZo:∀z∈D.slots.map fun s=>jI p m n s.typ,z.Ok:=fun z hz=>by obtain⟨s,_,rfl⟩:=jAd.1 hz;exact bS p m hm n _
    generalize (D.slots.map fun s=>jI p m n s.typ)=Z at hZl hZg hZo ⊢;simp[hd24,h0,h1,h2];refine mq (i4 p hL id) (by simp[zP,zK,bR]) ?_;simp[bR,hD,zJ];refine qK (S:=Nat) (fun i=>[(2,int m),(3,int d),(4,.ptr 0 0),(5,.ptr 1 0),(11,int 1),(12,int 1),(16,.ptr 2 0),(18,.row 3 i),(19,.row 4 i),(20,int i)])
     (fun i=>[.box (zP p),.box (zB (.mk k id kids)),.box (zJ D),.row false 3 1 i (yH ((Z.map (·.a)).take i)),.row false 3 1 i (yH ((Z.map (·.b)).take i))])
     (fun i=>i<=D.slots.length/\lW Z=lW (Z.drop i)) (fun i=>D.slots.length-i) 0 (by simp)
     (((qS (t:=18) (by simp) 3 1).trans (qS (t:=19) (by simp) 3 1)).trans (mu [0,1,2,3,4] 0 (by rfl) (by simp[zP,zB,zJ]))) ?_
    rintro i ⟨hi,ho⟩;by_cases h:i<D.slots.length
    .have hiZ:i<Z.length:=by omega
     have hc:=hih D.slots[i] (jA0 h);have hZi:=hZg i h;rw[jA1 hiZ]at hZi;rw[<-jB0 hZi]at hc;have hdr:Z.drop i=Z[i]::Z.drop (i+1):=jAo hiZ;have hta:yH ((Z.map (·.a)).take (i+1))=yH ((Z.map (·.a)).take i)++[int Z[i].a]:=by rw[jA6 (by simpa using hiZ),cJ];simp
     have htb:yH ((Z.map (·.b)).take (i+1))=yH ((Z.map (·.b)).take i)++[int Z[i].b]:=by rw[jA6 (by simpa using hiZ),cJ];simp
     simp[h,qZ h,j8,zJ,zP,hwd];intro hl;refine z7 hc (by simp[zP,zB,qI]) (by simp[szT]) ?_;by_cases he:Z[i].e=0
     .simp[szT,he];refine⟨⟨by simp[maxLen];omega,by omega⟩,?_⟩;exact zO (i+1) ⟨h,by rw[ho,hdr,lW,if_neg (by simp[he])]⟩ (by omega) (mu [0,1,2,3,4] 0 (by rfl) (by simp[zP,zB,zJ,hta,htb,z8 h hl]))
     .have hee:lW Z=Z[i].e:=by rw[ho,hdr,lW,if_pos he]
      simp[szT,he];exact zA 0 (by simp[yQ,cI,szT,hee,he])
    .have hi:i=D.slots.length:=by omega
     subst hi;have hta:(Z.map (·.a)).take D.slots.length=Z.map (·.a):=jA9 (by simp;omega);have htb:(Z.map (·.b)).take D.slots.length=Z.map (·.b):=jA9 (by simp;omega);have hzl:D.slots.length=Z.length:=hZl.symm;have ho':lW Z=0:=by rw[ho,hzl];simp[lW]
     have hn6:Z.length<=1000000:=by omega
     have hzk:∀k∈Z,k.e=0/\0<=k.a/\k.a<=4096/\0<=k.b/\k.b<=256:=fun k hk=>⟨fJ ho' k hk,hZo k hk (fJ ho' k hk)⟩
     clear hih hZg hZo ho hi h;rw[hzl]at hta htb;rcases e5 with e5|e5
     .have e1:¬D.kind=1:=by omega
      have hsl0:yQ (decide (D.kind=0)) Z=iJ 1 1 Z:=by simp[yQ,ho',e5]
      rw[hsl0];simp[hzl,hta,htb,zJ,e1,e5];intro hl;refine qK (S:=Nat×Int×Int) (fun s=>[(11,int s.2.1),(12,int s.2.2),(16,.ptr 2 0),(18,.row 3 Z.length),(19,.row 4 Z.length),(24,int s.1)])
       (fun s=>[.box (zP p),.box (zB (.mk k id kids)),.box (zJ D),.row false 3 1 Z.length (yH (Z.map (·.a))),.row false 3 1 Z.length (yH (Z.map (·.b)))])
       (fun s=>s.1<=Z.length/\iJ 1 1 Z=iJ s.2.1 s.2.2 (Z.drop s.1)/\0<=s.2.1/\s.2.1<=4096/\0<=s.2.2/\s.2.2<=1+256*s.1) (fun s=>Z.length-s.1) (0,1,1) (by simp)
       (mu [0,1,2,3,4] 0 (by rfl) (by simp[zP,zB,zJ,e5,hzl])) ?_
      rintro⟨j,a,b⟩ ⟨hj,hr,ha0,ha,hb0,hb⟩;simp only at hj hr ha0 ha hb0 hb;by_cases hjl:j<Z.length
      .obtain⟨_,g1,g2,g3,g4⟩:=hzk Z[j] (jA0 hjl);have hd:Z.drop j=Z[j]::Z.drop (j+1):=jAo hjl;have hab0:0<=a*Z[j].a:=Int.mul_nonneg ha0 g1;have hab1:a*Z[j].a<=4096*4096:=Int.mul_le_mul ha g2 g1 (by decide);have hw1:=zY (a*Z[j].a) (by omega);have hw2:=zY (b+Z[j].b) (by omega);have hw3:=jZ j (by omega);have hda:(yH (Z.map (·.a))).drop j=int Z[j].a::yH ((Z.map (·.a)).drop (j+1)):=by rw[cO (by simpa using hjl)];simp
       have hdb:(yH (Z.map (·.b))).drop j=int Z[j].b::yH ((Z.map (·.b)).drop (j+1)):=by rw[cO (by simpa using hjl)];simp
       have hj1:j+1<=Z.length:=hjl;simp[hjl,hj1,oY,tE,zJ,e1,e5,hda,hdb,hw1,hw2,hw3];refine qX (fun h4=>?_) (fun h4=>?_)<;>simp at h4
       .have e:iJ 1 1 Z=⟨0,0,4⟩:=by rw[hr,hd,iJ,if_pos h4]
        simp;exact zA 0 (by simp[e,cI,szT])
       .simp;exact zO (j+1,a*Z[j].a,b+Z[j].b) ⟨hjl,by rw[hr,hd,iJ,if_neg (by omega)],hab0,h4,by simp only;omega,by simp only;omega⟩ (by simp only;omega) (mu [0,1,2,3,4] 0 (by rfl) (by simp[zP,zB,zJ,e5,hw3]))
      .have hjl':j=Z.length:=by omega
       subst hjl';by_cases g1:4096<a<;>by_cases g2:256<b<;>by_cases g3:a=0<;>simp[oY,g1,g2,g3]<;>exact zA 0 (by simp[hr,iJ,szT,cI,g1,g2,g3])
     .have e0:¬D.kind=0:=by omega
      have hsl0:yQ (decide (D.kind=0)) Z=gD 0 1 Z:=by simp[yQ,ho',e5]
      rw[hsl0];simp[hzl,hta,htb,zJ,e5];intro hl;refine qK (S:=Nat×Int×Int) (fun s=>[(11,int s.2.1),(12,int s.2.2),(16,.ptr 2 0),(18,.row 3 Z.length),(19,.row 4 Z.length),(24,int s.1)])
       (fun s=>[.box (zP p),.box (zB (.mk k id kids)),.box (zJ D),.row false 3 1 Z.length (yH (Z.map (·.a))),.row false 3 1 Z.length (yH (Z.map (·.b)))])
       (fun s=>s.1<=Z.length/\gD 0 1 Z=gD s.2.1 s.2.2 (Z.drop s.1)/\0<=s.2.1/\s.2.1<=4096*s.1/\0<=s.2.2/\s.2.2<=257) (fun s=>Z.length-s.1) (0,0,1) (by simp)
       (mu [0,1,2,3,4] 0 (by rfl) (by simp[zP,zB,zJ,e5,hzl])) ?_
      rintro⟨j,a,b⟩ ⟨hj,hr,ha0,ha,hb0,hb⟩;simp only at hj hr ha0 ha hb0 hb;by_cases hjl:j<Z.length
      .obtain⟨_,g1,g2,g3,g4⟩:=hzk Z[j] (jA0 hjl);have hd:Z.drop j=Z[j]::Z.drop (j+1):=jAo hjl;have hw1:=zY (a+Z[j].a) (by omega);have hw2:=zY (1+Z[j].b) (by omega);have hw3:=jZ j (by omega);have hda:(yH (Z.map (·.a))).drop j=int Z[j].a::yH ((Z.map (·.a)).drop (j+1)):=by rw[cO (by simpa using hjl)];simp
       have hdb:(yH (Z.map (·.b))).drop j=int Z[j].b::yH ((Z.map (·.b)).drop (j+1)):=by rw[cO (by simpa using hjl)];simp
       have hmx:max b (1+Z[j].b)=if b<1+Z[j].b then 1+Z[j].b else b:=by rw[Int.max_def];split<;>split<;>omega
       have hj1:j+1<=Z.length:=hjl;simp[hjl,hj1,oY,tE,zJ,e5,hda,hdb,hw1,hw2,hw3];exact zO (j+1,a+Z[j].a,max b (1+Z[j].b)) ⟨hjl,by rw[hr,hd];simp[gD],by simp only;omega,by simp only;omega,by simp only;omega,by simp only;omega⟩ (by simp only;omega) (mu [0,1,2,3,4] 0 (by rfl) (by simp[zP,zB,zJ,e5,hw3,hmx]))
      .have hjl':j=Z.length:=by omega
       subst hjl';by_cases g1:4096<a<;>by_cases g2:256<b<;>by_cases g3:a=0<;>simp[oY,g1,g2,g3]<;>exact zA 0 (by simp[hr,gD,szT,cI,g1,g2,g3])
end Go.Proofs.YtdnelmeboihpkaaGreatDoor

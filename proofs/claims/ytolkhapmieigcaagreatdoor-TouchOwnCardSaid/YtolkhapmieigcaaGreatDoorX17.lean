/- Runs: what each step keeps; where the first failure is. -/
import Derived.Test.YtolkhapmieigcaaGreatDoorX16
set_option linter.unusedVariables false
set_option maxHeartbeats 8000000
set_option maxRecDepth 100000
set_option linter.unusedSimpArgs false
open Go.Proofs.Tryz
namespace Go.Proofs.YtolkhapmieigcaaGreatDoor
open Go.Abs
structure InvX(I:XS->Prop):Prop where
 tick:∀e s,I s->¬s.fuel<=0->I (fE e s)
 dfn:∀(d:Id) s,I s->I {s with ds:=s.ds++[d]}
 fail:∀(x:Int) s,I s->I {s with fail:=x}
section
variable{p:Prg}{ev:Evl}{I:XS->Prop}
theorem uY(h:∀e V s,I s->I (ev e V s).2)(V:wP):∀(l:wH) (s:XS),I s->I (qQ ev V l s).2
 |[],s,hs=>hs
 |e::l,s,hs=>by simp only[qQ];exact uY h V l _ (h e V s hs)
theorem x8(h:∀e V s,I s->I (ev e V s).2)(V:wP)(i:Id)(b:Exp):∀(l:wI) (r:Val×XS),I r.2->I (j5 ev V i b l r).2
 |[],r,hs=>hs
 |e::l,r,hs=>by simp only[j5];exact x8 h V i b l _ (h _ _ _ hs)
theorem zCD(hI:InvX I)(h:∀e V s,I s->I (ev e V s).2)(d:Dfn)(vs:wI)(s:XS)(hs:I s):I (bU ev d vs s).2:=by
 unfold bU;split
 .exact hs
 .exact h _ _ _ (hI.dfn d.id s hs)
theorem zJJ(h:∀e V s,I s->I (ev e V s).2)(e:Exp)(V:wP)(s:XS)(hs:I s):I (jK ev e V s).2:=by
 unfold jK;have h0:=h (e.kids.headD .zero) V s hs;generalize ev (e.kids.headD .zero) V s=r at *
 repeat' split
 all_goals first
  |exact h0
  |exact h _ _ _ h0
  |exact x8 h _ _ _ _ _ (h _ _ _ h0)
theorem zGC(hI:InvX I)(h:∀e V s,I s->I (ev e V s).2)(fl:Nat)(e:Exp)(V:wP)(s:XS)(hs:I s):I (qH p fl ev e V s).2:=by
 unfold qH;have h0:=uY h V e.kids s hs;generalize qQ ev V e.kids s=r at *
 repeat' split
 all_goals first
  |exact hs
  |exact h0
  |exact zJJ h _ _ _ hs
  |exact zCD hI h _ _ _ h0
theorem oD(hI:InvX I)(fl:Nat):∀(n:Nat) e V s,I s->I (bC p fl n e V s).2
 | 0,e,V,s,hs=>by
  rw[bC];split
  .exact hs
  .exact hI.fail _ _ hs
 |n+1,e,V,s,hs=>by
  rw[bC];split
  .exact hs
  .split
   .exact hI.fail _ _ hs
   .rename_i h;have:=zGC (p:=p) hI (oD hI fl n) fl e V _ (hI.tick e s hs h);show I (lP _);unfold lP;split
    .exact hI.fail _ _ this
    .exact this
def Fu(F:Int)(s:XS):Prop:=0<=s.fuel/\s.fuel<=F
theorem zM8(F:Int):InvX (Fu F) :=
 ⟨fun e s h hf=>⟨by unfold fE;dsimp only;omega,by unfold fE;have:=h.2;dsimp only;omega⟩,fun d s h=>h,fun x s h=>h⟩
theorem zES(h:zB3 ev)(V:wP):∀(l:wH) (s:XS) (i k:Nat),i<=k->(qQ ev V (l.take k) s).2.fail=0->(qQ ev V (l.take i) s).2.fail=0
 |[],s,i,k,_,h0=>by simpa using h0
 |e::l,s,0,k,_,h0=>by
  by_cases hs:s.fail=0
  .simpa[qQ]using hs
  .rw[xU h V _ _ hs]at h0;exact(hs h0).elim
 |e::l,s,i+1,0,hik,h0=>by omega
 |e::l,s,i+1,k+1,hik,h0=>by simp only[jCr,qQ]at h0 ⊢;exact zES h V l _ i k (by omega) h0
theorem zER(h:zB3 ev)(V:wP):∀(l:wH) (s:XS),s.fail=0->(qQ ev V l s).2.fail≠0 ->
 ∃(k:Nat) (hk:k<l.length),(qQ ev V (l.take k) s).2.fail=0/\(ev l[k] V (qQ ev V (l.take k) s).2).2=(qQ ev V l s).2
 |[],s,hs,hf=>(hf hs).elim
 |e::l,s,hs,hf=>by
  by_cases h0:(ev e V s).2.fail=0
  .simp only[qQ]at hf;obtain⟨k,hk,h1,h2⟩:=zER h V l _ h0 hf;exact⟨k+1,by simpa using hk,by simpa only[jCr,qQ]using h1,by simpa only[jCr,qQ,jDv]using h2⟩
  .refine⟨0,by simp,hs,?_⟩;simp only[List.take_zero,qQ,jD7];rw[xU h V l _ h0]
theorem zCZ(h:zB3 ev)(V:wP)(x:Id)(b:Exp):∀(l:wI) (r:Val×XS) (i k:Nat),i<=k->(j5 ev V x b (l.take k) r).2.fail=0->(j5 ev V x b (l.take i) r).2.fail=0
 |[],r,i,k,_,h0=>by simpa using h0
 |v::l,r,0,k,_,h0=>by
  by_cases hs:r.2.fail=0
  .simpa[j5]using hs
  .rw[oO h V _ _ _ _ hs]at h0;exact(hs h0).elim
 |v::l,r,i+1,0,hik,h0=>by omega
 |v::l,r,i+1,k+1,hik,h0=>by simp only[jCr,j5]at h0 ⊢;exact zCZ h V x b l _ i k (by omega) h0
theorem zDZ(h:zB3 ev)(V:wP)(x:Id)(b:Exp):∀(l:wI) (r:Val×XS),r.2.fail=0->(j5 ev V x b l r).2.fail≠0 ->
 ∃(k:Nat) (_:k<l.length),(j5 ev V x b (l.take k) r).2.fail=0/\(j5 ev V x b (l.take (k+1)) r).2=(j5 ev V x b l r).2
 |[],r,hs,hf=>(hf hs).elim
 |v::l,r,hs,hf=>by
  simp only[j5]at hf;by_cases h0:(ev b (V++[⟨x,0,v⟩]++[⟨x,1,r.1⟩]) r.2).2.fail=0
  .obtain⟨k,hk,h1,h2⟩:=zDZ h V x b l _ h0 hf;exact⟨k+1,by simpa using hk,by simpa only[jCr,j5]using h1,by simpa only[jCr,j5]using h2⟩
  .refine⟨0,by simp,hs,?_⟩;simp only[jB1,jCr,List.take_zero,j5];rw[oO h V _ _ _ _ h0]
end
def txt(c:UInt8)(x:Int):ByteArray:=⟨#[c]⟩++strOfNums [IntKind.u8.wrap (IntKind.i64.wrap (97+x.tmod 26))]
@[simp]theorem qBp{x:Int}:vW [.lit (.int .u8 x)]=some [x]:=rfl
def qNK(x:Int):ByteArray:=[(⟨#[108,101,102,116]⟩:ByteArray),⟨#[114,105,103,104,116]⟩,⟨#[110,111,114,116,104]⟩,⟨#[115,111,117,116,104]⟩].getD (x.tmod 4).toNat ⟨#[]⟩
def zYX(m:Md):wF:=[.lit (.int .i64 m.id.a),.lit (.int .i64 m.id.b),.lit (.int .i64 m.id.c),.lit (.string m.name),.sl m.uses.length (zY m.uses),.nil]
def zCI(l:List Md):wF:=l.flatMap zYX
@[simp]theorem zYJ(l:List Md):(zCI l).length=l.length*6:=by rw[zCI,fA (k:=6) (fun _=>rfl)]
@[simp]theorem qCl{rf g}(l:List Md):vwL rf g (zCI l)=zCI l:=by
 induction l with
 |nil=>rfl
 |cons m l ih =>
  have e:zCI (m::l)=zYX m++zCI l:=rfl;rw[e,zGF,ih];simp[zYX]
theorem zCj(a b:wF):jV (a++b)=jV a++jV b:=by
 induction a with
 |nil=>simp
 |cons x a ih=>simp[ih]
def qNX(n:Int)(k:Nat)(s:Slt):Slt:={s with name:=txt 115 (IntKind.i64.wrap (k+n))}
def slN(n:Int)(l:List Slt)(j:Nat):List Slt:=l.mapIdx fun k s=>if k<j then qNX n k s else s
@[simp]theorem qKd(n:Int)(l:List Slt)(j:Nat):(slN n l j).length=l.length:=by simp[slN]
def qNW(n:Int)(len:Nat)(md:Id)(i:Nat)(d:Dfn):Dfn :=
 ⟨d.id,d.kind,md,txt 122 (IntKind.i64.wrap (i+n)),slN n d.slots d.slots.length,d.res,zVu (txt 118 n) d.body,IntKind.i64.wrap (len-i),[⟨#[35,32,120,10]⟩]⟩
def zX9(n:Int)(md:Id)(ds:wS):wS:=ds.mapIdx fun i d=>qNW n ds.length md i d
@[simp]theorem qBG(n:Int)(md:Id)(ds:wS):(zX9 n md ds).length=ds.length:=by simp[zX9]
def yG(p:Prg):Nat->Typ->List Id->wG
 | 0,_,L=>L
 |f+1,t,L=>if t.k=3/\t.id∉t.kids.foldl (fun L k=>yG p f k L) L then (dfn p t.id).slots.foldl (fun L s=>yG p f s.typ L) (t.kids.foldl (fun L k=>yG p f k L) L++[t.id])
  else t.kids.foldl (fun L k=>yG p f k L) L
def cS(p:Prg)(ss:List Slt)(L:wG):wG:=ss.foldl (fun L s=>yG p 10 s.typ L) L
theorem PrgOk.fine{l:wC}(hl:∀x∈l,w64 x=x){P:Prg}(h:PrgOk l P):FineP P/\5<=P.defs.length/\P.defs.length<=8/\0<P.mods.length:=by
 obtain⟨hnm,hnm2⟩:=zJe l hl;have m1:1<=(nmV l:Int):=by omega
 have m2:(nmV l:Int)<=2:=by omega
 obtain⟨n5,n8⟩:=bR l (nmV l:Int);have hlen:P.defs.length=(qD l (nmV l)).length:=by have:=congrArg List.length h.heads;simpa using this
 have hml:0<P.mods.length/\P.mods.length<=2:=by rw[h.mods,zCg];split<;>simp
 obtain⟨base,_,hb⟩:=h.bodies;have key:∀d∈P.defs,FineD d:=fun d hd=>by
  obtain⟨k,hk,rfl⟩:=jAe hd;have hg:P.defs[k]?=some P.defs[k]:=jA2 hk;obtain⟨_,e1,e6,_⟩:=zAU m1 m2 hl (i:=k) (d:=P.defs[k]) (by rw[<-h.heads,jBi,hg];rfl) 0;rw[vK]at e1 e6;rcases hb k _ hg with ⟨_,h2,_⟩|⟨_,e,f,hr,_⟩
  .exact⟨e1,e6,by rw[h2];exact zQh,by rw[h2];simp[Exp.zero,tmps,jJ]⟩
  .have:=zGl f e (zOT hr.wt);exact⟨e1,e6,by rw[hr.body];exact this.1,by rw[hr.body,this.2];exact jAz hr.len (by decide)⟩
 exact⟨FineP.mk' (by omega) (by omega) key,by omega,by omega,hml.1⟩
def aG(l:List Prg):wF:=l.flatMap zI
theorem zMz(p:Prg):j4 (zI p):=by have h1:=nI p.mods;have h2:=nG p.defs;exact⟨by simp[zI,h1.1],fun rf g=>by simp[zI,h1.2]⟩
theorem zBE(l:List Prg):j4 (aG l):=dJ zMz l
@[simp]theorem zXu(l:List Prg):jV (aG l)=aG l:=(zBE l).1
@[simp]theorem qCk{rf g}(l:List Prg):vwL rf g (aG l)=aG l:=(zBE l).2 _ _
@[simp]theorem zYI(l:List Prg):(aG l).length=l.length*2:=by rw[aG,fA (k:=2) (fun _=>rfl)]
theorem zDL{l:List Prg}{i:Nat}(h:i<l.length):(aG l).drop (i*2)=zI l[i]++aG (l.drop (i+1)):=by rw[aG,aG,gH (k:=2) (fun _=>rfl) h]
def zA5(l:wA):wF:=l.map fun(i:Nat)=>A.lit (.int .i64 (i:Int))
@[simp]theorem zZ7(l:wA):jV (zA5 l)=zA5 l:=by
 have:zA5 l=aQ (l.map fun(i:Nat)=>(i:Int)):=by simp[zA5,aQ,Function.comp_def]
 rw[this];simp
@[simp]theorem qHL{rf:Bool->Nat->Nat->A}{g:Nat->wD}(l:wA):vwL rf g (zA5 l)=zA5 l:=by
 have:zA5 l=aQ (l.map fun(i:Nat)=>(i:Int)):=by simp[zA5,aQ,Function.comp_def]
 rw[this];simp
@[simp]theorem qBh(l:wA):(zA5 l).length=l.length:=by simp[zA5]
end Go.Proofs.YtolkhapmieigcaaGreatDoor
namespace Go.Proofs.YtolkhapmieigcaaGreatDoor
open Go.Abs
def ddI(L:wG)(x:Id):wG:=if x∈L then L else L++[x]
def ddL(l:wG):wG:=l.foldl ddI []
theorem zFl(l:wG)(x:Id):ddL (l++[x])=ddI (ddL l) x:=by simp[ddL]
theorem zUy{L:wG}{x y:Id}:y∈ddI L x↔y∈L\/y=x:=by
 unfold ddI;split
 .rename_i h;constructor
  .exact .inl
  .rintro(h'|rfl)
   .exact h'
   .exact h
 .simp
theorem zUz{l:wG}{y:Id}:y∈ddL l↔y∈l:=by
 induction l using fT with
 |nil=>simp[ddL]
 |snoc l x ih=>rw[zFl,zUy,ih];simp
theorem zUx(L:wG)(x:Id):(ddI L x).length<=L.length+1:=by
 unfold ddI;split
 .omega
 .simp
theorem zII(l:wG):(ddL l).length<=l.length:=by
 induction l using fT with
 |nil=>simp[ddL]
 |snoc l x ih=>rw[zFl];have:=zUx (ddL l) x;simp;omega
theorem zOJ(l:wG):aT (ddL l)=aT l:=(pW _).unique (pW _) fun x=>by rw[yX,yX,zUz]
def zCf(l:wG):List (wC×A):=l.map fun x=>(eK x,.lit (.bool true))
@[simp]theorem qJH{rf:Bool->Nat->Nat->A}{g:Nat->wD}(l:wG):((zCf l).map fun p=>(p.1,vw rf g p.2))=zCf l:=by
 simp only[zCf,jBy];refine jCa fun x _=>?_
 simp
theorem zAY{i:Id}:∀(l:wG),bN (eK i) (zCf l)=if i∈l then some (.lit (.bool true))else none
 |[]=>rfl
 |x::l=>by
  have ih:=zAY (i:=i) l;simp only[zCf,jAd,bN]at ih ⊢;by_cases h:x=i
  .simp[h]
  .have h':¬eK x=eK i:=fun e=>h (vT.1 e)
   rw[if_neg h',ih];simp[Ne.symm h]
theorem zDw{x:Id}:∀(l:wG),x∉l->lS (eK x) (.lit (.bool true)) (zCf l)=zCf (l++[x])
 |[],_=>rfl
 |y::l,h=>by
  have ih:=zDw (x:=x) l (fun h'=>h (by simp[h']));have h':¬eK y=eK x:=fun e=>h (by simp[vT.1 e])
  simp only[zCf,jAd,lS,h',if_false,jBe]at ih ⊢;rw[ih]
@[simp]theorem qJ4{a:A}:uT (.bool false) false (some a)=a:=rfl
@[simp]theorem qJ3:uT (.bool false) false none=.lit (.bool false):=rfl
def nS(ds ns:wG):St:=[.box [.row 2 ds.length,.row 3 ns.length],.box [.map 4],.row false 32 3 ds.length (zY ds),.row false 32 3 ns.length (zY ns),.mp true 3 (zCf ns)]
theorem zJh(b:Bool)(x:Id)(ds ns:wG)(hd:ds.length<=1000000)(hn:ns.length<=1000000) :
 my 102 [bl b,.agg (zS x),.ptr 0 0,.ptr 1 0] (nS ds ns) (.tup []) (nS (if b then ds++[x]else ds) (if b then ns else ddI ns x)):=by
 refine mq [] [] func102 (by kernel_rfl) ?_
 (conv in kq _ _=>cbv)
 cases b with
 |true =>
  simp[nS,zS];refine⟨⟨by simp[maxLen];omega,by omega⟩,?_⟩;exact mv [0,1,2,3,4] 0 (by rfl) (by simp[qO,zY])
 |false =>
  have hf:=zAY (i:=x) ns;simp only[eK]at hf;by_cases h:x∈ns
  .rw[if_pos h]at hf;simp[nS,zS,hf];exact mv [0,1,2,3,4] 0 (by rfl) (by simp[ddI,h])
  .rw[if_neg h]at hf;have hp:=zDw ns h;simp only[eK]at hp;simp[nS,zS,hf,hp];refine⟨⟨by simp[maxLen];omega,by omega⟩,?_⟩;exact mv [0,1,2,3,4] 0 (by rfl) (by simp[ddI,h,qO,zY])
def tS(p:Prg)(s:XS):St:=[.box (zI p++[int s.fuel,int s.fail,.clo 102 [] [.ptr 1 0,.ptr 2 0]]),.box [.row 3 s.ds.length,.row 4 (ddL s.ns).length],.box [.map 5],
 .row false 32 3 s.ds.length (zY s.ds),.row false 32 3 (ddL s.ns).length (zY (ddL s.ns)),.mp true 3 (zCf (ddL s.ns))]
def rS(p:Prg)(s:XS)(L:wG):St:=tS p {s with ds:=L}++[.mp true 3 (zCf L)]
structure RL(p:Prg)(L:List Id):Prop where
 nd:L.Nodup
 sub:∀x∈L,x∈p.defs.map Dfn.id
variable{p:Prg}{hs:wQ}
theorem RL.len(hf:Fit p hs){L:wG}(h:RL p L):L.length<=100:=by
 have:=h.nd.length_le_of_subset (l₂:=p.defs.map Dfn.id) h.sub;have:=hf.len8;simp at *
 omega
theorem RL.fold{p:Prg} {α:Type}(g : α->List Id->wG):∀(l:List α) (L:wG),(∀a∈l,∀L,RL p L->RL p (g a L))->RL p L->RL p (l.foldl (fun L a=>g a L) L)
 |[],L,_,h=>h
 |a::l,L,hg,h=>by rw[jAw];exact RL.fold g l _ (fun b hb=>hg b (by simp[hb])) (hg a (by simp) L h)
theorem x9{α β:Type}(g : β->α->β)(b : β){l:List α}{i:Nat}(h:i<l.length):(l.take (i+1)).foldl g b=g ((l.take i).foldl g b) l[i]:=by rw[jA7 h,jBv];rfl
def qFO:Nat->Option wE:=fun|10=>k_ [0,0,0,0,0,0,4]|_=>none
def zB2(p:Prg)(s:XS)(m:Nat)(t:Typ):Prop:=∀L,RL p L->RL p (yG p m t L)/\my 103 [.ptr 0 0,.agg (zF t),.map 6] (rS p s L) (.tup []) (rS p s (yG p m t L))
theorem tV(hf:Fit p hs)(s:XS)(hs0:s.ns=[])(m:Nat)(t:Typ)(hk:∀k∈t.kids,zB2 p s m k)(hd:t.k=3->∃d,qG p.defs t.id=some d/\∀sl∈d.slots,zB2 p s m sl.typ):zB2 p s (m+1) t:=by
 intro L hL;obtain⟨L1,hL1⟩:∃L1,L1=t.kids.foldl (fun L k=>yG p m k L) L:=⟨_,rfl⟩;have rl:∀i,RL p ((t.kids.take i).foldl (fun L k=>yG p m k L) L):=fun i=>RL.fold (fun k L=>yG p m k L) _ _ (fun k hk' L hL=>(hk k (jBu hk') L hL).1) hL
 have rl1:RL p L1:=by have:=rl t.kids.length;rw[jAs]at this;rw[hL1];exact this
 have hall:t.kids.take t.kids.length=t.kids:=jAs;have e:yG p (m+1) t L=if t.k=3/\t.id∉L1 then (dfn p t.id).slots.foldl (fun L s=>yG p m s.typ L) (L1++[t.id])else L1:=by rw[yG,<-hL1]
 rw[e];have hn0:ddL s.ns=[]:=by rw[hs0];rfl
 have rl2:t.k=3->t.id∉L1->RL p (L1++[t.id]):=fun h3 hin=>by
  obtain⟨d,hd,_⟩:=hd h3;obtain⟨hdm,hdi⟩:=yD hd;refine⟨?_,fun x hx=>?_⟩
  .rw[jD4];refine⟨rl1.nd,by simp,fun a ha b hb=>?_⟩;rw[jAi.1 hb];exact fun e=>hin (e▸ha)
  .rcases jA6.1 hx with hx|hx
   .exact rl1.sub x hx
   .rw[jAi.1 hx,<-hdi];exact List.mem_map_of_mem hdm
 have rl3:t.k=3->t.id∉L1->∀i,RL p (((dfn p t.id).slots.take i).foldl (fun L s=>yG p m s.typ L) (L1++[t.id])):=fun h3 hin i=>by
  obtain⟨d,hd,hsl⟩:=hd h3;have:dfn p t.id=d:=by simp[dfn,hd]
  rw[this];exact RL.fold (fun(s:Slt) L=>yG p m s.typ L) _ _ (fun sl hsl' L hL=>(hsl sl (jBu hsl') L hL).1) (rl2 h3 hin)
 refine⟨?_,?_⟩
 .split
  .rename_i hc;have:=rl3 hc.1 hc.2 (dfn p t.id).slots.length
   rwa[jAs]at this
  .exact rl1
 refine mn qFO [(8,[2,3,4,5,6])] [] func103 (by kernel_rfl) ?_
 (conv in zV _ _ _ _=>cbv)
 have hP:=eP p;simp[rS,tS,hP,zF,hn0];intro hl;refine qI (S:=Nat) (fun i=>[(0,.ptr 0 0),(2,.map 6),(4,.ptr 7 0),(13,.sl t.kids.length (jM t.kids)),(14,int t.kids.length),(15,int i)])
  (fun i=>rS p s ((t.kids.take i).foldl (fun L k=>yG p m k L) L)++[.box (zF t)]) (fun i=>i<=t.kids.length) (fun i=>t.kids.length-i) 0 (by simp)
  (mw [0,1,2,3,4,5,6,7] 0 (by rfl) (by simp[rS,tS,hP,zF,hn0])) ?_
 intro i hi;by_cases h:i<t.kids.length
 .obtain⟨_,hr⟩:=hk t.kids[i] (jA0 h) _ (rl i);have hst:=x9 (fun L k=>yG p m k L) L h;generalize (t.kids.take i).foldl (fun L k=>yG p m k L) L=Li at hr hst ⊢;simp[rS,tS,hP,zF,hn0,h,iG h];refine mr hr [0,1,2,3,4,5,6] (by simp[rS,tS,hP,hn0,zF]) ?_;simp[rS,tS,hP,hn0];exact zO (i+1) h (by omega) (mw [0,1,2,3,4,5,6,7] 0 (by rfl) (by simp[rS,tS,hP,zF,hn0,hst,zZ h hl]))
 .have hil:i=t.kids.length:=by omega
  subst hil;rw[hall,<-hL1];have hLl:=rl1.len hf;have hf1:=zAY (i:=t.id) L1;simp only[eK]at hf1;by_cases h3:t.k=3
  .by_cases hin:t.id∈L1
   .rw[if_pos hin]at hf1;rw[if_neg (by simp[hin])];simp[rS,tS,hP,zF,hn0,h3,hf1];exact mv [0,1,2,3,4,5,6] 0 (by rfl) (by simp)
   .rw[if_neg hin]at hf1;rw[if_pos ⟨h3,hin⟩];have hp1:=zDw L1 hin;simp only[eK]at hp1;obtain⟨d,hdd,hsl⟩:=hd h3;have hdf:dfn p t.id=d:=by simp[dfn,hdd]
    have hdi:=(yD hdd).2;have rl3:=rl3 h3 hin;have rl2:=rl2 h3 hin;have hnt:=zJh true d.id L1 [] (by omega) (by simp);rw[hdi]at hnt;rw[hdf]at rl3 ⊢;simp[rS,tS,hP,zF,hn0,h3,hf1,hp1];refine aI (lO p t.id) (by simp[zI,zS]) (by simp[dI]) ?_;simp[dI,hdd,zJ,hdi];refine dQ hnt [1,2,3,4,5] (by decide) (by simp[nS,zCf]) (by simp[zS]) ?_;simp[nS];intro hls;refine qI (S:=Nat) (fun i=>[(0,.ptr 0 0),(2,.map 6),(55,.sl d.slots.length (qP d.slots)),(56,int d.slots.length),(57,int i)])
     (fun i=>rS p s ((d.slots.take i).foldl (fun L s=>yG p m s.typ L) (L1++[t.id]))) (fun i=>i<=d.slots.length) (fun i=>d.slots.length-i) 0 (by simp)
     (mw [0,1,2,3,4,5,6] 0 (by rfl) (by simp[rS,tS,hP,hn0,qO])) ?_
    intro i hi;by_cases h:i<d.slots.length
    .obtain⟨_,hr⟩:=hsl d.slots[i] (jA0 h) _ (rl3 i);have hst:=x9 (fun L (s:Slt)=>yG p m s.typ L) (L1++[t.id]) h;generalize (d.slots.take i).foldl (fun L s=>yG p m s.typ L) (L1++[t.id])=Li at hr hst ⊢;simp[rS,tS,hP,hn0,h,qW h,aF];refine mr hr [0,1,2,3,4,5,6] (by simp[rS,tS,hP,hn0,zF]) ?_;simp[rS,tS,hP,hn0];exact zO (i+1) h (by omega) (mw [0,1,2,3,4,5,6] 0 (by rfl) (by simp[rS,tS,hP,hn0,hst,zZ h hls]))
    .have hil:i=d.slots.length:=by omega
     subst hil;simp[rS,tS,hP,hn0];exact mv [0,1,2,3,4,5,6] 0 (by rfl) (by simp)
  .rw[if_neg (by simp[h3])];simp[rS,tS,hP,zF,hn0,h3];exact mv [0,1,2,3,4,5,6] 0 (by rfl) (by simp)
theorem zLi(hf:Fit p hs)(s:XS)(hs0:s.ns=[]){r:Nat}{t:Typ}(h:TyOk hs r t):∀n,r<n->zB2 p s n t:=by
 induction h with
 |int r=>intro n hn;obtain⟨m,rfl⟩:∃m,n=m+1:=⟨n-1,by omega⟩;exact tV hf s hs0 m _ (by simp) (by simp)
 |bool r=>intro n hn;obtain⟨m,rfl⟩:∃m,n=m+1:=⟨n-1,by omega⟩;exact tV hf s hs0 m _ (by simp) (by simp)
 |list r t h ih =>
  intro n hn;obtain⟨m,rfl⟩:∃m,n=m+1:=⟨n-1,by omega⟩;refine tV hf s hs0 m _ (fun k hk=>?_) (by simp);simp only[Typ.kids_mk,jAi]at hk;subst hk;exact ih m (by omega)
 |dfn r k h h1 h2 h3 h4 ih =>
  intro n hn;obtain⟨m,rfl⟩:∃m,n=m+1:=⟨n-1,by omega⟩;refine tV hf s hs0 m _ (by simp) fun _=>?_
  obtain⟨d,hd,hhd⟩:=hf.hd k h;have e2:d.slots=hs[k].slots:=congrArg Hd.slots hhd;exact⟨d,hd,fun sl hsl=>ih sl (by rw[<-e2];exact hsl) m (by omega)⟩
end Go.Proofs.YtolkhapmieigcaaGreatDoor
namespace Go.Abs
theorem zVT{n0:Nat}{env:Env} {U:St}{l nk:Nat}{es:List (wC×A)}(hU:U[l]?=some (.mp true nk es)):fU n0 env (U.set l (.mp false nk es)) env U:=by
 intro H0 L0 w0 H L w N tmps h0 h1 h2;have hs:=zDx (o':=.mp false nk es) h1.st hU (fun li hob=>by simp only[qB]at hob ⊢;obtain⟨g0,b,ents,ck,g1,g2,g3,g4,g5⟩:=hob;exact⟨g0,b,ents,ck,g1,g2,g3,(show qCF false ents.toList ck from fun h=>by cases h),g5⟩)
 exact⟨H,L,⟨hs,h1.step,h1.lle,h1.own⟩,h2⟩
theorem zBQ{ks:wC}:∀(l m:List (wC×A)),bN ks (l++m)=(bN ks l).or (bN ks m)
 |[],m=>rfl
 |p::l,m=>by
  simp only[jBe,bN];split
  .rfl
  .exact zBQ l m
end Go.Abs
namespace Go.Proofs.YtolkhapmieigcaaGreatDoor
open Go.Abs
def o8(l:wP):List (wC×A):=l.map fun b=>([b.id.a,b.id.b,b.id.c,b.n],.agg [.lit (.int .i64 b.v.k),.lit (.int .i64 b.v.n),.sl b.v.kids.length (zT b.v.kids)])
@[simp]theorem qJI{rf:Bool->Nat->Nat->A}{g:Nat->wD}(l:wP):((o8 l).map fun p=>(p.1,vw rf g p.2))=o8 l:=by
 simp only[o8,jBy];refine jCa fun x _=>?_
 simp
def Fr(V:wP)(i:Id)(n:Int):Prop:=∀b∈V,¬(b.id=i/\b.n=n)
theorem zZr{a b:Id}{n m:Int}:[a.a,a.b,a.c,n]=[b.a,b.b,b.c,m]↔a=b/\n=m:=by obtain⟨x,y,z⟩:=a;obtain⟨x',y',z'⟩:=b;simp[and_assoc]
theorem zF0{i:Id}{n:Int}:∀{V:wP},Fr V i n->bN [i.a,i.b,i.c,n] (o8 V)=none
 |[],_=>rfl
 |b::V,h=>by
  have h1:=h b (by simp);have ih:=zF0 (V:=V) fun x hx=>h x (by simp[hx])
  simp only[o8,jAd,bN]at ih ⊢;rw[if_neg fun e=>h1 (zZr.1 e)];exact ih
theorem zEC{i:Id}{n:Int}{v:Val}:∀{V:wP},Fr V i n->lS [i.a,i.b,i.c,n] (.agg [.lit (.int .i64 v.k),.lit (.int .i64 v.n),.sl v.kids.length (zT v.kids)]) (o8 V)=o8 (V++[⟨i,n,v⟩])
 |[],_=>rfl
 |b::V,h=>by
  have h1:=h b (by simp);have ih:=zEC (v:=v) (V:=V) fun x hx=>h x (by simp[hx])
  simp only[o8,jAd,lS,jBe]at ih ⊢;rw[if_neg fun e=>h1 (zZr.1 e),ih]
theorem zIJ{i:Id}{n:Int}{v:Val}:∀{V:wP},Fr V i n->zCR [i.a,i.b,i.c,n] (o8 (V++[⟨i,n,v⟩]))=o8 V
 |[],_=>by simp[o8,zCR]
 |b::V,h=>by
  have h1:=h b (by simp);have ih:=zIJ (v:=v) (V:=V) fun x hx=>h x (by simp[hx])
  simp only[o8,jAd,zCR,jBe]at ih ⊢;rw[if_neg fun e=>h1 (zZr.1 e),ih]
def NdV(V:wP):Prop:=V.Pairwise fun a b=>¬(a.id=b.id/\a.n=b.n)
variable{V:wP}{i:Id}
theorem NdV.push(h:NdV V){n:Int}{v:Val}(hf:Fr V i n):NdV (V++[⟨i,n,v⟩]):=by unfold NdV;rw[jCu];refine⟨h,by simp,fun a ha b hb=>?_⟩;rw[jAi.1 hb];exact hf a ha
theorem Fr.of(h:∀b∈V,b.id≠i)(n:Int):Fr V i n:=fun b hb e=>h b hb e.1
theorem Fr.push(h:∀b∈V,b.id≠i){n m:Int}(hne:m≠n)(v:Val):Fr (V++[⟨i,m,v⟩]) i n:=fun b hb e=>by
 rcases jA6.1 hb with hb|hb
 .exact h b hb e.1
 .rw[jAi.1 hb]at e;exact hne e.2
theorem EnvT.get{p:Prg}{B:wJ}(h:EnvT p B V)(hn:NdV V){x:Id}{n:Int}{t:Typ}:fC B x n=some t ->
 bN [x.a,x.b,x.c,n] (o8 V)=some (.agg [.lit (.int .i64 (rT V x n).k),.lit (.int .i64 (rT V x n).n),.sl (rT V x n).kids.length (zT (rT V x n).kids)]):=by
 induction h with
 |nil=>intro h;simp[fC]at h
 |snoc B V b v h hi hb ht hz ih =>
  intro hl;unfold NdV at hn;rw[jCu]at hn;have e:o8 (V++[v])=o8 V++o8 [v]:=by simp[o8]
  rw[e,zBQ,zFz];rw[lQ]at hl;by_cases hc:b.id=x/\b.n=n
  .have hv:v.id=x/\v.n=n:=⟨hi.trans hc.1,hb.trans hc.2⟩;have hfr:Fr V x n:=fun y hy e=>hn.2.2 y hy v (by simp) ⟨e.1.trans hv.1.symm,e.2.trans hv.2.symm⟩
   rw[zF0 hfr,if_pos hv];simp[o8,bN,hv.1,hv.2]
  .rw[if_neg hc]at hl;rw[if_neg (fun e=>hc ⟨hi.symm.trans e.1,hb.symm.trans e.2⟩),ih hn.1 hl];rfl
@[simp]theorem qNL{z:Value}{a:A}:uT z false (some a)=a:=rfl
@[simp]theorem qJ5:uT (.agg #[(.int .i64 0),(.int .i64 0),(.slice none 0 0)]) true none=.tup [.agg [.lit (.int .i64 0),.lit (.int .i64 0),.nil],.lit (.bool false)]:=by kernel_rfl
def tE(p:Prg)(s:XS)(V:wP):St:=tS p s++[.mp false 4 (o8 V)]
def TOk(p:Prg)(r:Val×XS)(e:Exp)(V:wP)(s:XS):Prop:=my 166 [.ptr 0 0,.agg (zG e),.map 6] (tE p s V) (.agg (zN r.1)) (tE p r.2 V)
@[simp]theorem qIO:zA prog 223=true:=by kernel_rfl
@[simp]theorem qNj:zA prog 232=true:=by kernel_rfl
theorem zG8{p:Prg}(e:Exp)(V:wP)(i:Id)(n:Int)(v:Val)(s:XS)(r:Val×XS)(hf:Fr V i n)(h:TOk p r e (V++[⟨i,n,v⟩]) s) :
 my 232 [.ptr 0 0,.agg (zG e),.map 6,.agg [.lit (.int .i64 i.a),.lit (.int .i64 i.b),.lit (.int .i64 i.c),.lit (.int .i64 n)],.agg (zN v)] (tE p s V) (.agg (zN r.1)) (tE p r.2 V):=by
 refine mq [] [.cell 10 3 true] func232 (by kernel_rfl) ?_
 (conv in kq _ _=>cbv)
 have hP:=eP p;have h1:=zF0 hf;have h2:=zEC (v:=v) hf;have h3:=zIJ (v:=v) hf;unfold TOk at h;simp[tE,tS,hP,zG,zN,h1,h2];refine mr h [0,1,2,3,4,5,6] (by simp[tE,tS,hP,zG]) ?_;simp[tE,tS,hP,zN,h3];exact mv [0,1,2,3,4,5,6] 0 (by rfl) (by simp[zN])
def Adm(p:Prg)(e:Exp)(V:wP)(s:XS):Prop:=s.fail=0->∃B t,WE p B e t/\EnvT p B V/\NdV V
structure Ih(p:Prg)(c:Nat)(m:Int)(ev:Evl):Prop where
 stop:zB3 ev
 snd:Snd p ev
 bd:∀e V s,Bn c m s->Bd c m (ev e V s).2
 ok:∀e V s,Adm p e V s->Bn c m s->TOk p (ev e V s) e V s
section
variable{p:Prg}{c:Nat}{m:Int}{ev:Evl}{B:wJ}{e:Exp}{V:wP}{s:XS}
variable{t:Typ}
theorem Adm.of(h:WE p B e t)(hV:EnvT p B V)(hN:NdV V):Adm p e V s:=fun _=>⟨B,t,h,hV,hN⟩
def qFM:Nat->Option wE:=fun|10=>k_ [0,0,0,0,0,0,0,0,0,0,4,0] | 14=>k_ [0,0,0,0,0,0,0,0,0,0,0,0,0,0,0,0,0,0,4,0] | 22=>k_ [0,0,0,0,0,0,0,0,0,0,4,0]|_=>none
noncomputable def zLT:{k:K//zV prog f223 qFM []=k}:=⟨_,by conv=>lhs;cbv⟩
theorem zPh:kx f223 qFM zLT.1:=mz (by kernel_rfl)
@[simp]theorem qNd:zA prog 223=true:=by kernel_rfl
abbrev zB0(p:Prg)(ev:Evl)(e:Exp)(V:wP)(s:XS):Prop:=my 223 [.ptr 0 0,.agg (zG e),.map 6] (tE p s V) (.agg (zN (jK ev e V s).1)) (tE p (jK ev e V s).2 V)
variable{a:Exp}
theorem mL(h:Ih p c m ev){ks:wH}(hks:e.kids=a::ks)(hA:Adm p a V s)(hB:Bn c m s)(hf:(ev a V s).2.fail≠0):zB0 p ev e V s:=by
 have hr:=h.ok a V s hA hB;have hx:jK ev e V s=(vz,(ev a V s).2):=by unfold jK;rw[hks];simp[hf]
 unfold zB0;rw[hx];generalize ev a V s=r at hr hf;refine zK func223 rfl zPh (rs:=[.cell 6 3 true]) (by kernel_rfl) ?_
 simp only[zLT]
 have hP:=eP p;have hd:=zL a ks;simp[tE,tS,hP,zG,hks,zL];refine mr hr [0,1,2,3,4,5,6] (by simp[tE,tS,hP,zG]) ?_;simp[tE,tS,hP,zN,hf];exact mv [0,1,2,3,4,5,6] 0 (by rfl) (by simp[zN,qT,qJ,zX])
variable{b:Exp}
theorem zMb(h:Ih p c m ev){d:Exp}(hk:e.k=5)(hks:e.kids=[a,b,d])(ha:WE p B a j9)(hb:WE p B b t)(hd:WE p B d t)(hV:EnvT p B V)(hN:NdV V)(hB:Bn c m s):zB0 p ev e V s:=by
 by_cases hf:(ev a V s).2.fail=0
 .have hr:=h.ok a V s (.of ha hV hN) hB;have hB1:=(h.bd a V s hB).bn;have hty:=(h.snd a B V s _ ha hV hf).1.bool_inv;have hx:jK ev e V s=ev (if (ev a V s).1.n=1 then b else d) V (ev a V s).2:=by unfold jK;rw[hks];simp only[jD5,hf,hk];by_cases hn:(ev a V s).1.n=1<;>simp[hn]
  unfold zB0;rw[hx];clear hx;generalize ev a V s=r at *
  obtain⟨v,s1⟩:=r;simp only at *
  have r1:=h.ok b V s1 (.of hb hV hN) hB1;have r2:=h.ok d V s1 (.of hd hV hN) hB1;obtain⟨x,rfl,hxx⟩:=hty;refine zK func223 rfl zPh (rs:=[.cell 6 3 true]) (by kernel_rfl) ?_
  simp only[zLT]
  have hP:=eP p;simp[tE,tS,hP,zG,hks,zL,hk];refine mr hr [0,1,2,3,4,5,6] (by simp[tE,tS,hP,zG]) ?_;rcases hxx with rfl|rfl
  .simp[tE,tS,hP,zN,hf,qT,qJ,zX];refine mr r2 [0,1,2,3,4,5,6] (by simp[tE,tS,hP,hf,zG]) ?_;simp[tE,tS,hP,zN];exact mv [0,1,2,3,4,5,6] 0 (by rfl) (by simp[zN])
  .simp[tE,tS,hP,zN,hf,qT,qJ,zX];refine mr r1 [0,1,2,3,4,5,6] (by simp[tE,tS,hP,hf,zG]) ?_;simp[tE,tS,hP,zN];exact mv [0,1,2,3,4,5,6] 0 (by rfl) (by simp[zN])
 .exact mL h hks (.of ha hV hN) hB hf
theorem zMc(h:Ih p c m ev){u:Typ}(hk:e.k=6)(hks:e.kids=[a,b])(hfr:∀x∈B,x.id≠e.id)(ha:WE p B a u)(hb:WE p (B++[⟨e.id,0,u⟩]) b t)(hV:EnvT p B V)(hN:NdV V)(hB:Bn c m s):zB0 p ev e V s:=by
 by_cases hf:(ev a V s).2.fail=0
 .have hr:=h.ok a V s (.of ha hV hN) hB;have hB1:=(h.bd a V s hB).bn;have hty:=h.snd a B V s _ ha hV hf;have hfv:=hV.ids hfr;have hx:jK ev e V s=ev b (V++[⟨e.id,0,(ev a V s).1⟩]) (ev a V s).2:=by unfold jK;rw[hks];simp[hf,hk]
  unfold zB0;rw[hx];clear hx;generalize ev a V s=r at *
  obtain⟨v,s1⟩:=r;simp only at *
  have r1:=zG8 b V e.id 0 v s1 _ (.of hfv 0) (h.ok b (V++[⟨e.id,0,v⟩]) s1 (.of hb (hV.push hty) (hN.push (.of hfv 0))) hB1);generalize ev b (V++[⟨e.id,0,v⟩]) s1=r' at *
  refine zK func223 rfl zPh (rs:=[.cell 6 3 true]) (by kernel_rfl) ?_
  simp only[zLT]
  have hP:=eP p;simp[tE,tS,hP,zG,hks,zL,hk];refine mr hr [0,1,2,3,4,5,6] (by simp[tE,tS,hP,zG]) ?_;simp[tE,tS,hP,zN,hf];refine dQ r1 [0,1,2,3,4,5,6] (by decide) (by simp[tE,tS,hP,hf]) (by simp[zG,zN]) ?_;simp[tE,tS,hP,zN];exact mv [0,1,2,3,4,5,6] 0 (by rfl) (by simp[zN])
 .exact mL h hks (.of ha hV hN) hB hf
theorem zI5(h:Ih p c m ev){d:Dfn}{j:Nat}(hk:e.k=8)(hn:e.n=j)(hks:e.kids=[a])(hd:qG p.defs e.ref=some d)(hdk:d.kind=0)(hj:j<d.slots.length)(ha:WE p B a (cO e.ref))(hV:EnvT p B V)(hN:NdV V)(hB:Bn c m s):zB0 p ev e V s:=by
 by_cases hf:(ev a V s).2.fail=0
 .have hr:=h.ok a V s (.of ha hV hN) hB;have hty:=(h.snd a B V s _ ha hV hf).1.def_inv hd;have hx:jK ev e V s=((ev a V s).1.kids.getD j vz,(ev a V s).2):=by unfold jK;rw[hks];simp[hf,hk,hn]
  unfold zB0;rw[hx];clear hx;generalize ev a V s=r at *
  obtain⟨v,s1⟩:=r;simp only at *
  obtain⟨_,vs,hl,rfl,_⟩:=hty.resolve_right (fun h=>by omega);have hjv:j<vs.length:=by omega
  refine zK func223 rfl zPh (rs:=[.cell 6 3 true]) (by kernel_rfl) ?_
  simp only[zLT]
  have hP:=eP p;simp[tE,tS,hP,zG,hks,zL,hk,hn];refine mr hr [0,1,2,3,4,5,6] (by simp[tE,tS,hP,zG]) ?_;simp[tE,tS,hP,zN,hf,qT,qJ,zX,hjv,jE hjv];exact mv [0,1,2,3,4,5,6] 0 (by rfl) (by simp[zN,zX,hjv])
 .exact mL h hks (.of ha hV hN) hB hf
theorem zI6(h:Ih p c m ev){ks:wH}{d:Dfn}(hk:e.k=10)(hks:e.kids=a::ks)(hfr:∀x∈B,x.id≠e.id)(hd:qG p.defs e.ref=some d)(hdk:d.kind=1)(hl:ks.length=d.slots.length)(hl6:ks.length<=32768)(ha:WE p B a (cO e.ref))
 (hw:∀(j:Nat)(hj:j<ks.length),WE p (B++[⟨e.id,j,(d.slots[j]'(hl▸hj)).typ⟩]) ks[j] t)(hV:EnvT p B V)(hN:NdV V)(hB:Bn c m s):zB0 p ev e V s:=by
 by_cases hf:(ev a V s).2.fail=0
 .have hr:=h.ok a V s (.of ha hV hN) hB;have hB1:=(h.bd a V s hB).bn;obtain⟨hty,hz⟩:=h.snd a B V s _ ha hV hf;have hty:=hty.def_inv hd;have hfv:=hV.ids hfr;have hx:jK ev e V s=ev (e.kids.getD (1+(ev a V s).1.n).toNat .zero) (V++[⟨e.id,(ev a V s).1.n,(ev a V s).1.kids.headD vz⟩]) (ev a V s).2:=by unfold jK;rw[hks];simp[hf,hk]
  unfold zB0;rw[hx];clear hx;generalize ev a V s=r at *
  obtain⟨v,s1⟩:=r;simp only at *
  obtain⟨_,q,x,hm,rfl,hxt⟩:=hty.resolve_left (fun h=>by omega);have hmk:q<ks.length:=by omega
  have e2:(1+(q:Int)).toNat=q+1:=by omega
  have hw1:IntKind.i64.wrap (1+(q:Int))=((q+1:Nat):Int):=by rw[IntWalk.i64_in _ (by omega)];omega
  simp only[qJ,zX,jD5,e2,hks,jC5,jBj,jA2 hmk,jBt];have r1:=zG8 ks[q] V e.id q x s1 _ (.of hfv q) (h.ok ks[q] (V++[⟨e.id,q,x⟩]) s1 (.of (hw q hmk) (hV.push ⟨hxt,iX hz (by simp[zX])⟩) (hN.push (.of hfv q))) hB1);generalize ev ks[q] (V++[⟨e.id,q,x⟩]) s1=r' at *
  have hdr:(qM (a::ks)).drop ((q+1)*15)=zG ks[q]++qM (ks.drop (q+1)):=by
   have:=yB (l:=a::ks) (i:=q+1) (by simpa using hmk)
   simpa using this
  have hlt:q+1<(a::ks).length:=by simpa using hmk
  refine zK func223 rfl zPh (rs:=[.cell 6 3 true]) (by kernel_rfl) ?_
  simp only[zLT]
  have hP:=eP p;have h0:=zL a ks;generalize hQ:a::ks=Q at *
  obtain⟨M,hM⟩:∃M,M=q+1:=⟨_,rfl⟩;rw[<-hM]at hw1 hdr hlt;have hQ0:0<Q.length:=by omega
  have hq0:0<Q.length*15:=by omega
  have hq15:15<=Q.length*15:=by omega
  have ht:(qM Q).take 15=zG a:=by rw[h0];exact List.take_left' rfl
  have ea:zG a=[int a.id.a,int a.id.b,int a.id.c,int a.k,int a.n,int a.ref.a,int a.ref.b,int a.ref.c,int a.typ.k,int a.typ.id.a,int a.typ.id.b,int a.typ.id.c,.sl a.typ.kids.length (jM a.typ.kids),.sl a.kids.length (qM a.kids),.sl a.names.length (yJ a.names)]:=rfl;rw[ea]at ht;clear h0;simp[tE,tS,hP,zG,hks,hQ0,hq0,hq15,ht,hk];refine mr hr [0,1,2,3,4,5,6] (by simp[tE,tS,hP,zG]) ?_;simp[tE,tS,hP,zN,hf,qT,qJ,zX,hw1,hlt,hdr,zG];refine dQ r1 [0,1,2,3,4,5,6] (by decide) (by simp[tE,tS,hP,hf]) (by simp[zG,zN]) ?_;simp[tE,tS,hP,zN];exact mv [0,1,2,3,4,5,6] 0 (by rfl) (by simp[zN])
 .exact mL h hks (.of ha hV hN) hB hf
theorem zJK(h:Ih p c m ev){l z:Exp}{u:Typ}(hk:e.k=12)(hks:e.kids=[l,z,b])(hfr:∀x∈B,x.id≠e.id)(hl:WE p B l (jX u))(hz:WE p B z t)(hb:WE p (B++[⟨e.id,0,u⟩]++[⟨e.id,1,t⟩]) b t)(hV:EnvT p B V)(hN:NdV V)(hB:Bn c m s):zB0 p ev e V s:=by
 by_cases hf:(ev l V s).2.fail=0
 .have hr:=h.ok l V s (.of hl hV hN) hB;have hB1:=(h.bd l V s hB).bn;obtain⟨hty,hsz⟩:=h.snd l B V s _ hl hV hf;have hfv:=hV.ids hfr;have hx:jK ev e V s=j5 ev V e.id b (ev l V s).1.kids (ev z V (ev l V s).2):=by unfold jK;rw[hks];simp[hf,hk]
  unfold zB0;rw[hx];clear hx;generalize ev l V s=r at *
  obtain⟨v,s1⟩:=r;simp only at *
  obtain⟨vs,rfl,hvs⟩:=hty.list_inv;have hr2:=h.ok z V s1 (.of hz hV hN) hB1;have hB2:=h.bd z V s1 hB1;have ht2:=h.snd z B V s1 _ hz hV;generalize ev z V s1=r2 at *
  simp only[zX];have hst:∀i,Bd c m (j5 ev V e.id b (vs.take i) r2).2/\((j5 ev V e.id b (vs.take i) r2).2.fail=0->TyV p t (j5 ev V e.id b (vs.take i) r2).1/\qY (j5 ev V e.id b (vs.take i) r2).1<=256):=fun i =>
   ⟨zF5 h.bd V e.id b _ _ hB2,zBU h.stop h.snd hV hb _ _ (fun x hx=>⟨hvs x (jBu hx),iX hsz (jBu hx)⟩) ht2⟩
  have hround:∀(i:Nat) (hi:i<vs.length),TOk p (j5 ev V e.id b (vs.take (i+1)) r2) b (V++[⟨e.id,0,vs[i]⟩]++[⟨e.id,1,(j5 ev V e.id b (vs.take i) r2).1⟩]) (j5 ev V e.id b (vs.take i) r2).2:=fun i hi=>by rw[jA7 hi,tC];refine h.ok _ _ _ (fun h0=>⟨_,t,hb,(hV.push ⟨hvs _ (jA0 hi),iX hsz (jA0 hi)⟩).push ((hst i).2 h0),(hN.push (.of hfv 0)).push (.push hfv (by decide) _)⟩) (hst i).1.bn
  have htk:vs.take vs.length=vs:=jAs;have hF0:j5 ev V e.id b [] r2=r2:=rfl;refine zK func223 rfl zPh (rs:=[.cell 6 3 true]) (by kernel_rfl) ?_
  simp only[zLT]
  have hP:=eP p;simp[tE,tS,hP,zG,hks,zL,hk];refine mr hr [0,1,2,3,4,5,6] (by simp[tE,tS,hP,zG]) ?_;simp[tE,tS,hP,zN,hf,qT,qJ,zX];refine mr hr2 [0,1,2,3,4,5,6] (by simp[tE,tS,hP,hf,zG]) ?_;simp[tE,tS,hP,zN,zX];intro hvl;refine qI (S:=Nat) (fun i=>[(0,.ptr 0 0),(2,.map 6),(4,.ptr 7 0),(6,.ptr 8 0),(8,.ptr 9 0),(97,.sl vs.length (zT vs)),(98,int vs.length),(99,int i)])
   (fun i=>tE p (j5 ev V e.id b (vs.take i) r2).2 V++[.box (zG e),.box [int 0,int 0,.nil],.box (zN (j5 ev V e.id b (vs.take i) r2).1)]) (fun i=>i<=vs.length) (fun i=>vs.length-i) 0 (by simp)
   (mw [0,1,2,3,4,5,6,7,8,10] 0 (by rfl) (by simp[tE,tS,hP,zG,hks,zL,hk,zN,hF0])) ?_
  intro i hi;by_cases hil:i<vs.length
  .have hro:=hround i hil;have hdr:=jE hil;generalize hFn:j5 ev V e.id b (vs.take (i+1)) r2=Fn at hro;generalize hFi:j5 ev V e.id b (vs.take i) r2=Fi at hro;obtain⟨acc,si⟩:=Fi;simp only at hro;generalize vs[i]=x at *
   have p1:=zEC (i:=e.id) (n:=0) (V:=V) (v:=x) (.of hfv 0);have d1:=zIJ (i:=e.id) (n:=0) (V:=V) (v:=x) (.of hfv 0);have wo:=zG8 b (V++[⟨e.id,0,x⟩]) e.id 1 acc si Fn (.push hfv (by decide) x) hro;simp[tE,tS,hP,zG,hks,zL,hk,zN,hil,hdr,p1,hFi];refine dQ wo [0,1,2,3,4,5,6] (by decide) (by simp[tE,tS,hP]) (by simp[zG,zN]) ?_;simp[tE,tS,hP,zN,d1];exact zO (i+1) hil (by omega) (mw [0,1,2,3,4,5,6,7,8,9] 0 (by rfl) (by simp[tE,tS,hP,zG,hks,zL,hk,zN,hFn,zZ hil hvl]))
  .have hil:i=vs.length:=by omega
   subst hil;rw[htk];simp[tE,tS,hP,zN];exact mv [0,1,2,3,4,5,6] 0 (by rfl) (by simp[zN])
 .exact mL h hks (.of hl hV hN) hB hf
end
section
variable{p:Prg}{c:Nat}{m:Int}{ev:Evl}{e:Exp}{V:wP}{s:XS}
def qFL:Nat->Option wE:=fun|3=>k_ [0,0,0,0,0,0,4]|_=>none
theorem zNQ(h:Ih p c m ev)(hc:c<=100000)(d:Dfn)(vs:wI)(hl:s.fail=0->vs.length=d.slots.length)(hnd:d.slots.Pairwise fun a b=>a.id≠b.id)(hd6:d.slots.length<=6)
 (hA:s.fail=0->Adm p d.body (fK d.slots vs) {s with ds:=s.ds++[d.id]})(hB:Bd c m s) :
 my 104 [.ptr 0 0,.agg (zJ d),.sl vs.length (zT vs)] (tS p s) (.agg (zN (bU ev d vs s).1)) (tS p (bU ev d vs s).2):=by
 have hP:=eP p;refine mn qFL [] [.cell 6 3 true] func104 (by kernel_rfl) ?_
 (conv in zV _ _ _ _=>cbv)
 by_cases hf:s.fail=0
 .have hx:bU ev d vs s=ev d.body (fK d.slots vs) {s with ds:=s.ds++[d.id]}:=by unfold bU;rw[if_neg (by simp[hf])]
  rw[hx];have hl:=hl hf;have hb1:=hB.ds;have hb2:=hB.ns;have hb3:=zII s.ns;have hn:=zJh true d.id s.ds (ddL s.ns) (by omega) (by omega);have he:=h.ok _ _ _ (hA hf) (hB.def d.id hf);generalize ev d.body (fK d.slots vs) {s with ds:=s.ds++[d.id]}=r at *
  have hel:=vJ d.slots vs hl;have hfr:∀(i:Nat) (hi:i<d.slots.length),Fr ((fK d.slots vs).take i) d.slots[i].id 0:=fun i hi b hb e=>by
   obtain⟨j,hj,rfl⟩:=jAe hb;rw[jAv]at hj;have hj1:j<d.slots.length:=by omega
   have hij:j<i:=by omega
   have:=jC0.1 hnd j i hj1 hi hij;have e1:((fK d.slots vs).take i)[j].id=d.slots[j].id:=by simp[fK]
   exact this (e1.symm.trans e.1)
  have h0:o8 []=[]:=rfl;have hall:(fK d.slots vs).take d.slots.length=fK d.slots vs:=by rw[<-hel];exact jAs
  simp[tS,hP,zJ,hf];refine dQ hn [1,2,3,4,5] (by decide) (by simp[nS]) (by simp[zS]) ?_;simp[nS];intro hls;refine qI (S:=Nat) (fun i=>[(0,.ptr 0 0),(2,.sl vs.length (zT vs)),(4,.ptr 6 0),(6,.ptr 7 0),(7,.map 8),(25,.sl d.slots.length (qP d.slots)),(26,int d.slots.length),(27,int i)])
   (fun i=>tS p {s with ds:=s.ds++[d.id]}++[.box (zJ d),.box [int 0,int 0,.nil],.mp false 4 (o8 ((fK d.slots vs).take i))]) (fun i=>i<=d.slots.length) (fun i=>d.slots.length-i) 0 (by simp)
   ((zVT (l:=8) rfl).trans (mw [0,1,2,3,4,5,6,7,8] 0 (by rfl) (by simp[tS,hP,zJ,hf,h0,qO,zY]))) ?_
  intro i hi;by_cases hil:i<d.slots.length
  .have hiv:i<vs.length:=by omega
   have hdr:=qW hil;have hdv:=jE hiv;have hp:=zEC (v:=vs[i]) (hfr i hil);have htk:=zCU hl hil;simp[tS,hP,zJ,hil,hiv,hdr,hdv,aF,zQe,zBd,zA6,hp];exact zO (i+1) hil (by omega) (mw [0,1,2,3,4,5,6,7,8] 0 (by rfl) (by simp[tS,hP,zJ,htk,zZ hil hls]))
  .have hil:i=d.slots.length:=by omega
   subst hil;rw[hall];simp[tS,hP,zJ];refine mr he [0,1,2,3,4,5,8] (by simp[tE,tS,hP,zG]) ?_;simp[tE,tS,hP,zN];exact mv [0,1,2,3,4,5] 0 (by rfl) (by simp[zN])
 .have hx:bU ev d vs s=(vz,s):=by unfold bU;rw[if_pos hf]
  rw[hx];simp[tS,hP,zJ,hf];exact mv [0,1,2,3,4,5] 0 (by rfl) (by simp[zN,qT,qJ,zX])
def zD7:K:=(Z (G [M 58 0,kU 59 58,D 60 59 3,L 61 60 1,kQi 62 61 0 true] (Y 62 (G [kb 63 [ki,ki,kl] [],S 6 63 3] kr) ks)) (Z (G [D 64 4 3,L 65 64 1] (K.block 3 (G [kQi 67 65 3 false,M 66 67] (Y 66 (Z (K.dops [(0,0,M 69 0),(1,0,kU 70 69),(2,1,D 71 70 0),(3,1,J 72 71 2),(4,1,D 73 4 5),(5,1,J 74 73 3),(6,1,kC 75 70 [(kt 72),(kt 74)]),(7,0,M 68 75),(8,0,kE 76 68 0),(9,0,kE 77 68 1),(10,0,kZ 10 kz0),(11,0,S 10 76 31),(12,0,M 11 77)]) (G [M 78 0,J 79 10 31,M 80 7,kC 81 104 [(kt 78),(kt 79),(kt 80)],S 6 81 3] kr)) (G [kQi 83 65 4 false,M 82 83] (Y 82 (G [D 84 4 4,L 85 84 1,M 86 7,kC 87 220 [(kt 85),(kt 86)],S 6 87 3] kr) (G [kQi 89 65 7 false,M 88 89] (Y 88 (G [M 90 7,kb 91 [ki,ki,kl] [(0,1,(kc 2)),(2,1,(kt 90))],S 6 91 3] kr) (G [kQi 93 65 9 false,M 92 93] (Y 92 (G [D 94 4 4,L 95 94 1,M 96 7,kb 97 [ki,ki,kl] [(0,1,(kc 3)),(1,1,(kt 95)),(2,1,(kt 96))],S 6 97 3] kr) ks)))))))))) (G [M 98 7,kb 99 [ki,ki,kl] [(0,1,(kc 4)),(2,1,(kt 98))],S 6 99 3] kr)))
def zOU:K:=G [kO 4 1,kZ 6 [ki,ki,kl]] (Z (G [D 12 4 3,L 13 12 1] (K.block 0 (G [kQi 15 13 0 false,M 14 15] (Y 14 (G [D 16 4 4,L 17 16 1,kb 18 [ki,ki,kl] [(0,1,(kc 0)),(1,1,(kt 17))],S 6 18 3] kr) (G [kQi 20 13 1 false,M 19 20] (Y 19 (G [D 21 4 4,L 22 21 1,kb 23 [ki,ki,kl] [(0,1,(kc 1)),(1,1,(kt 22))],S 6 23 3] kr) (G [kQi 25 13 2 false,M 24 25] (Y 24 (G [M 26 2,D 27 4 5,J 28 27 3,D 29 4 4,L 30 29 1,kb 31 qNQ [(0,3,(kt 28)),(3,1,(kt 30))],⟨none,.mop (some 32) (.get 4 (.agg #[ki,ki,kl]) false) [(kt 26),(kt 31)]⟩,S 6 32 3] kr) (Z (G [kQi 34 13 5 false,M 33 34] (Y 33 ks (G [kQi 35 13 6 false,M 33 35] (Y 33 ks (G [kQi 36 13 8 false,M 33 36] (Y 33 ks (G [kQi 37 13 10 false,M 33 37] (Y 33 ks (K.ops [kQi 38 13 12 false,M 33 38]))))))))) (Y 33 (G [M 39 0,J 40 4 15,M 41 2,kC 42 223 [(kt 39),(kt 40),(kt 41)],S 6 42 3] kr) ks)))))))))) (G [kMn 7] (Z (G [D 43 4 13,L 44 43 1,kN 45 44,kMi 46 0] (K.block 1 (K.loop (G [kB 47 46 45 .lss] (Z (Y 47 ks (K.exit 1)) (Z (K.block 2 (G [kX 48 44 46 15,J 49 48 15,kZ 9 kz1,S 9 49 15] (K.ops [M 50 7,M 51 0,J 52 9 15,M 53 2,kC 54 166 [(kt 51),(kt 52),(kt 53)],kd 55 84 3 1 [ki,ki,kl] [(0,3,(kt 54))],kP 56 84 3 40 50 55,M 7 56]))) (K.ops [kBi 57 46 1 .add,M 46 57]))))))) (K.wk zD7))))
theorem zRA:ky f202 zOU:=m_ (by kernel_rfl)
abbrev zLV(p:Prg)(e:Exp)(V:wP)(s:XS)(r:Val×XS):Prop:=my 202 [.ptr 0 0,.agg (zG e),.map 6] (tE p s V) (.agg (zN r.1)) (tE p r.2 V)
abbrev lJ(p:Prg)(e:Exp)(V:wP)(s:XS)(vs:wI)(r:Val×XS):Prop :=
 wpK prog 7 zD7 (fin [RS.cell 6 3 true] (sP 7 (.agg (zN r.1)) (tE p r.2 V))) (jO [(0,.ptr 0 0),(2,.map 6),(4,.ptr 7 0),(6,.ptr 8 0),(7,.sl vs.length (zT vs))]) (tE p s V++[.box (zG e),.box [int 0,int 0,.nil]])
variable{r:Val×XS}
theorem oZ(h:Ih p c m ev)(hk:e.k=3\/e.k=4\/e.k=7\/e.k=9\/e.k=11)(hk6:e.kids.length<=32768)(hA:∀k∈e.kids,∀s,Adm p k V s)(hB:Bd c m s)
 (hr:lJ p e V (qQ ev V e.kids s).2 (qQ ev V e.kids s).1 r):zLV p e V s r:=by
 have hP:=eP p;refine zK func202 rfl zRA (rs:=[.cell 6 3 true]) (by kernel_rfl) ?_;unfold zOU;have n0:¬e.k=0:=by omega
 have n1:¬e.k=1:=by omega
 have n2:¬e.k=2:=by omega
 have n5:¬e.k=5:=by omega
 have n6:¬e.k=6:=by omega
 have n8:¬e.k=8:=by omega
 have n10:¬e.k=10:=by omega
 have n12:¬e.k=12:=by omega
 have hst:∀i,Bd c m (qQ ev V (e.kids.take i) s).2:=fun i=>zE1 h.bd V _ _ hB
 have hln:∀i,i<=e.kids.length->(qQ ev V (e.kids.take i) s).1.length=i:=fun i hi=>by rw[gR,jAv];omega
 have h00:qQ ev V [] s=([],s):=rfl;simp[tE,tS,hP,zG,n0,n1,n2,n5,n6,n8,n10,n12];intro hl;refine qI (S:=Nat) (fun i=>[(0,.ptr 0 0),(2,.map 6),(4,.ptr 7 0),(6,.ptr 8 0),(7,.row 9 i),(44,.sl e.kids.length (qM e.kids)),(45,int e.kids.length),(46,int i)])
  (fun i=>tE p (qQ ev V (e.kids.take i) s).2 V++[.box (zG e),.box [int 0,int 0,.nil],.row false 84 3 i (zT (qQ ev V (e.kids.take i) s).1)]) (fun i=>i<=e.kids.length) (fun i=>e.kids.length-i) 0 (by simp)
  ((jS (t:=7) (by simp) 84 3).trans (mw [0,1,2,3,4,5,6,7,8,9] 0 (by rfl) (by simp[tE,tS,hP,zG,h00]))) ?_
 intro i hi;by_cases hil:i<e.kids.length
 .have hr:=h.ok e.kids[i] V (qQ ev V (e.kids.take i) s).2 (hA _ (jA0 hil) _) (hst i).bn;have hsn:=xT ev V e.kids[i] (e.kids.take i) s;rw[<-jA7 hil]at hsn;have hdr:=yB hil;have hln:=hln i hi;generalize hFn:qQ ev V (e.kids.take (i+1)) s=Fn at hsn;subst hsn;generalize hFi:qQ ev V (e.kids.take i) s=Fi at *
  obtain⟨vs,si⟩:=Fi;simp only at *
  generalize ev e.kids[i] V si=rk at *
  obtain⟨v,sk⟩:=rk;simp only at *
  simp[tE,tS,hP,hil,hdr,hFi,zG];refine mr hr [0,1,2,3,4,5,6] (by simp[tE,tS,hP,zG]) ?_;simp[tE,tS,hP,zN];refine⟨⟨by simp[maxLen];omega,by omega⟩,?_⟩;exact zO (i+1) hil (by omega) (mw [0,1,2,3,4,5,6,7,8,9] 0 (by rfl) (by simp[tE,tS,hP,zG,hFn,b7,zZ hil hl]))
 .have hil:i=e.kids.length:=by omega
  subst hil;have htk:e.kids.take e.kids.length=e.kids:=jAs;have hln:=hln _ (jA _);rw[htk]at hln ⊢;generalize qQ ev V e.kids s=F at *
  obtain⟨vs,si⟩:=F;simp only at *
  simp;exact⟨_,_,mw [0,1,2,3,4,5,6,7,8] 1 (by rfl) (by simp[tE,tS,hP,zG,hln]),hr⟩
variable{vs:wI}
theorem sD(hf:s.fail≠0):lJ p e V s vs (vz,s):=by have hP:=eP p;unfold lJ zD7;simp[tE,tS,hP,zG,hf];exact mv [0,1,2,3,4,5,6] 0 (by rfl) (by simp[zN,qT,qJ,zX])
theorem zTk(hf:s.fail=0)(hk:e.k=7):lJ p e V s vs (.mk 2 0 vs,s):=by have hP:=eP p;unfold lJ zD7;simp[tE,tS,hP,zG,hf,hk];exact mv [0,1,2,3,4,5,6] 0 (by rfl) (by simp[hf,zN,qT,qJ,zX])
theorem zQw(hf:s.fail=0)(hk:e.k=9):lJ p e V s vs (.mk 3 e.n vs,s):=by have hP:=eP p;unfold lJ zD7;simp[tE,tS,hP,zG,hf,hk];exact mv [0,1,2,3,4,5,6] 0 (by rfl) (by simp[hf,zN,qT,qJ,zX])
theorem zQx(hf:s.fail=0)(hk:e.k=11):lJ p e V s vs (.mk 4 0 vs,s):=by have hP:=eP p;unfold lJ zD7;simp[tE,tS,hP,zG,hf,hk];exact mv [0,1,2,3,4,5,6] 0 (by rfl) (by simp[hf,zN,qT,qJ,zX])
theorem zVF{ts:wT}{t:Typ}(hf:s.fail=0)(hk:e.k=4)(ho:OpT e.n ts t)(hv:TyL p ts vs)(hs:∀v∈vs,qY v<=256):lJ p e V s vs (opV e.n vs,s):=by have hP:=eP p;unfold lJ zD7;simp[tE,tS,hP,zG,hf,hk];refine mu (zSe ho hv hs) (by simp[zN]) ?_;simp[zN];exact mv [0,1,2,3,4,5,6] 0 (by rfl) (by simp[hf,zN])
theorem zQv{d:Dfn}(hf:s.fail=0)(hk:e.k=3)(hd:qG p.defs e.ref=some d)
 (hb:my 104 [.ptr 0 0,.agg (zJ d),.sl vs.length (zT vs)] (tS p s) (.agg (zN r.1)) (tS p r.2)):lJ p e V s vs r:=by
 have hP:=eP p;unfold lJ zD7;simp[tE,tS,hP,zG,hf,hk];refine aI (lO p e.ref) (by simp[zI,zS]) (by simp[dI]) ?_;simp[dI,hd,zJ];refine mr hb [0,1,2,3,4,5] (by simp[tS,hP,hf,zJ]) ?_;simp[tS,hP,zN];exact mv [0,1,2,3,4,5,6] 0 (by rfl) (by simp[zN])
end
abbrev zKi(x:Int):Value:=.iface 46 (.int .i64 x)
def eS(p:Prg)(F:Int)(s:XS):St:=[.box (zI p++[int F,int (F-s.fuel)])]
structure RP(f:FuncId)(args:List A)(p:Prg)(F:Int)(s:XS)(r:A)(s':XS):Prop where
 ret:s'.fail=0->my f args (eS p F s) r (eS p F s')
 pan:s'.fail≠0->Pan prog f args (eS p F s) (zKi s'.fail)
abbrev zGM(p:Prg)(F:Int)(e:Exp)(V:wP)(s:XS)(r:Val×XS):Prop:=RP 151 [.ptr 0 0,.agg (zG e),scE V] p F s (.agg (zN r.1)) r.2
structure IhE(p:Prg)(F m:Int)(ev:Evl):Prop where
 stop:zB3 ev
 snd:Snd p ev
 fu:∀e V s,Fu m s->Fu m (ev e V s).2
 ok:∀e V s,s.fail=0->Adm p e V s->Fu m s->zGM p F e V s (ev e V s)
@[simp]theorem qJe:zA prog 221=true:=by kernel_rfl
section
variable{p:Prg}{F m:Int}{ev:Evl}{e:Exp}{V:wP}{s:XS}
noncomputable def zXN:K:=zV prog f219 z7 []
theorem qEk:ky f219 zXN:=m_ (by kernel_rfl)
@[simp]theorem qLX:zA prog 219=true:=by kernel_rfl
theorem zBH(h:IhE p F m ev)(V:wP)(l:wH)(hl6:l.length<=32768)(hs:s.fail=0)(hA:∀k∈l,∀s,Adm p k V s)(hB:Fu m s) :
 RP 219 [.ptr 0 0,.sl l.length (qM l),scE V] p F s (.sl l.length (zT (qQ ev V l s).1)) (qQ ev V l s).2:=by
 have hP:=eP p;have hst:∀i,Fu m (qQ ev V (l.take i) s).2:=fun i=>uY h.fu V _ _ hB
 have hln:∀i,i<=l.length->(qQ ev V (l.take i) s).1.length=i:=fun i hi=>by rw[gR,jAv];omega
 have h00:qQ ev V [] s=([],s):=rfl;have htk:l.take l.length=l:=jAs;constructor
 .intro hf;have hpre:∀i,i<=l.length->(qQ ev V (l.take i) s).2.fail=0:=fun i hi=>zES h.stop V l s i l.length hi (by rw[htk];exact hf)
  refine zH func219 rfl qEk (rs:=[.slot 6]) (by kernel_rfl) ?_
  (conv in zXN=>cbv)
  simp[eS,hP];intro hl;refine qI (S:=Nat) (fun i=>[(0,.ptr 0 0),(2,scE V),(7,.row 1 i),(10,.sl l.length (qM l)),(11,int l.length),(12,int i)])
   (fun i=>eS p F (qQ ev V (l.take i) s).2++[.row false 84 3 i (zT (qQ ev V (l.take i) s).1)]) (fun i=>i<=l.length) (fun i=>l.length-i) 0 (by simp)
   ((jS (t:=7) (by simp) 84 3).trans (mw [0,1] 0 (by rfl) (by simp[eS,hP,h00]))) ?_
  intro i hi;by_cases hil:i<l.length
  .have hsn:=xT ev V l[i] (l.take i) s;rw[<-jA7 hil]at hsn;have hp1:=hpre (i+1) hil;rw[hsn]at hp1;have hr:=(h.ok l[i] V (qQ ev V (l.take i) s).2 (hpre i hi) (hA _ (jA0 hil) _) (hst i)).ret hp1;have hdr:=yB hil;have hln:=hln i hi;generalize hFn:qQ ev V (l.take (i+1)) s=Fn at hsn;subst hsn;generalize hFi:qQ ev V (l.take i) s=Fi at *
   obtain⟨vs,si⟩:=Fi;simp only at *
   generalize ev l[i] V si=rk at *
   obtain⟨v,sk⟩:=rk;simp only at *
   simp[eS,hP,hil,hdr,hFi,zG];refine mr hr [0] (by simp[eS,hP,zG]) ?_;simp[eS,hP,zN];refine⟨⟨by simp[maxLen];omega,by omega⟩,?_⟩;exact zO (i+1) hil (by omega) (mw [0,1] 0 (by rfl) (by simp[eS,hP,hFn,b7,zZ hil hl]))
  .have hil:i=l.length:=by omega
   subst hil;rw[htk];generalize qQ ev V l s=Fi at *
   obtain⟨vs,si⟩:=Fi;simp;exact mv [0] 1 (by rfl) (by simp[eS,hP])
 .intro hf;obtain⟨k,hk,hk0,hk1⟩:=zER h.stop V l s hs hf;have hpre:∀i,i<=k->(qQ ev V (l.take i) s).2.fail=0:=fun i hi=>zES h.stop V l s i k hi hk0
  rw[<-hk1]at hf ⊢;refine sA func219 rfl qEk (rs:=[.slot 6]) (by kernel_rfl) ?_
  (conv in zXN=>cbv);unfold wpF
  simp[eS,hP];intro hl;refine qI (S:=Nat) (fun i=>[(0,.ptr 0 0),(2,scE V),(7,.row 1 i),(10,.sl l.length (qM l)),(11,int l.length),(12,int i)])
   (fun i=>eS p F (qQ ev V (l.take i) s).2++[.row false 84 3 i (zT (qQ ev V (l.take i) s).1)]) (fun i=>i<=k) (fun i=>l.length-i) 0 (by simp)
   ((jS (t:=7) (by simp) 84 3).trans (mw [0,1] 0 (by rfl) (by simp[eS,hP,h00]))) ?_
  intro i hi;have hil:i<l.length:=by omega
  have hdr:=yB hil;have hok:=h.ok l[i] V (qQ ev V (l.take i) s).2 (hpre i hi) (hA _ (jA0 hil) _) (hst i);by_cases hik:i<k
  .have hsn:=xT ev V l[i] (l.take i) s;rw[<-jA7 hil]at hsn;have hp1:=hpre (i+1) hik;rw[hsn]at hp1;have hr:=hok.ret hp1;have hln:=hln i (by omega);generalize hFn:qQ ev V (l.take (i+1)) s=Fn at hsn;subst hsn;generalize hFi:qQ ev V (l.take i) s=Fi at *
   obtain⟨vs,si⟩:=Fi;simp only at *
   generalize ev l[i] V si=rk at *
   obtain⟨v,sk⟩:=rk;simp only at *
   simp[eS,hP,hil,hdr,hFi,zG];refine mr hr [0] (by simp[eS,hP,zG]) ?_;simp[eS,hP,zN];refine⟨⟨by simp[maxLen];omega,by omega⟩,?_⟩;exact zO (i+1) hik (by omega) (mw [0,1] 0 (by rfl) (by simp[eS,hP,hFn,b7,zZ hil hl]))
  .have hik:i=k:=by omega
   subst hik;have hr:=hok.pan hf;generalize hFi:qQ ev V (l.take i) s=Fi at *
   obtain⟨vs,si⟩:=Fi;simp only at *
   simp[eS,hP,hil,hdr,hFi,zG];refine zB9 hr [0] (by decide) (by simp[eS,hP]) (by simp[zG]) fun τ=>?_
   simp
noncomputable def zXO:K:=zV prog f80 z7 []
theorem qEl:ky f80 zXO:=m_ (by kernel_rfl)
theorem zKe(h:IhE p F m ev)(d:Dfn)(vs:wI)(hl:vs.length=d.slots.length)(hd6:d.slots.length<=6)(hs:s.fail=0)(hA:Adm p d.body (fK d.slots vs) {s with ds:=s.ds++[d.id]})(hB:Fu m s) :
 RP 80 [.ptr 0 0,.agg (zJ d),.sl vs.length (zT vs)] p F s (.agg (zN (bU ev d vs s).1)) (bU ev d vs s).2:=by
 have hP:=eP p;have hx:bU ev d vs s=ev d.body (fK d.slots vs) {s with ds:=s.ds++[d.id]}:=by unfold bU;rw[if_neg (by simp[hs])]
 rw[hx];have he:=h.ok _ _ _ (by exact hs) hA ((zM8 m).dfn d.id s hB);generalize ev d.body (fK d.slots vs) {s with ds:=s.ds++[d.id]}=r at *
 have hel:=vJ d.slots vs hl;have hall:(fK d.slots vs).take d.slots.length=fK d.slots vs:=by rw[<-hel];exact jAs
 constructor
 .intro hf;refine zH func80 rfl qEl (rs:=[.cell 6 3 true]) (by kernel_rfl) ?_
  (conv in zXO=>cbv)
  simp[eS,hP,zJ];intro hls;refine qI (S:=Nat) (fun i=>[(0,.ptr 0 0),(2,.sl vs.length (zT vs)),(4,.ptr 1 0),(6,.ptr 2 0),(7,scE ((fK d.slots vs).take i)),(11,.sl d.slots.length (qP d.slots)),(12,int d.slots.length),(13,int i)])
   (fun i=>eS p F s++[.box (zJ d),.box [int 0,int 0,.nil]]) (fun i=>i<=d.slots.length) (fun i=>d.slots.length-i) 0 (by simp)
   (mw [0,1,2] 0 (by rfl) (by simp[eS,hP,zJ])) ?_
  intro i hi;by_cases hil:i<d.slots.length
  .have hiv:i<vs.length:=by omega
   have hdr:=qW hil;have hdv:=jE hiv;have htk:=zCU hl hil;have hw:=iS ((fK d.slots vs).take i).reverse ⟨d.slots[i].id,0,vs[i]⟩;simp[eS,hP,hil,hiv,hdr,hdv,aF];refine qC hw (by simp[zS,zN]) (by simp) ?_;simp;exact zO (i+1) hil (by omega) (mw [0,1,2] 0 (by rfl) (by simp[eS,hP,zJ,zZ hil hls,htk]))
  .have hil:i=d.slots.length:=by omega
   subst hil;rw[hall];simp[eS,hP,zJ];refine mr (he.ret hf) [0] (by simp[eS,hP,zG]) ?_;simp[eS,hP,zN];exact mv [0] 0 (by rfl) (by simp[zN])
 .intro hf;refine sA func80 rfl qEl (rs:=[.cell 6 3 true]) (by kernel_rfl) ?_
  (conv in zXO=>cbv);unfold wpF
  simp[eS,hP,zJ];intro hls;refine qI (S:=Nat) (fun i=>[(0,.ptr 0 0),(2,.sl vs.length (zT vs)),(4,.ptr 1 0),(6,.ptr 2 0),(7,scE ((fK d.slots vs).take i)),(11,.sl d.slots.length (qP d.slots)),(12,int d.slots.length),(13,int i)])
   (fun i=>eS p F s++[.box (zJ d),.box [int 0,int 0,.nil]]) (fun i=>i<=d.slots.length) (fun i=>d.slots.length-i) 0 (by simp)
   (mw [0,1,2] 0 (by rfl) (by simp[eS,hP,zJ])) ?_
  intro i hi;by_cases hil:i<d.slots.length
  .have hiv:i<vs.length:=by omega
   have hdr:=qW hil;have hdv:=jE hiv;have htk:=zCU hl hil;have hw:=iS ((fK d.slots vs).take i).reverse ⟨d.slots[i].id,0,vs[i]⟩;simp[eS,hP,hil,hiv,hdr,hdv,aF];refine qC hw (by simp[zS,zN]) (by simp) ?_;simp;exact zO (i+1) hil (by omega) (mw [0,1,2] 0 (by rfl) (by simp[eS,hP,zJ,zZ hil hls,htk]))
  .have hil:i=d.slots.length:=by omega
   subst hil;rw[hall];simp[eS,hP,zJ];refine zB9 (he.pan hf) [0] (by decide) (by simp[eS,hP]) (by simp[zG]) fun τ=>?_
   simp
end
section
variable{p:Prg}{c:Nat}{m:Int}{ev:Evl}{e:Exp}{V:wP}{s:XS}
theorem zQE(hk:e.k=0):zLV p e V s (.mk 0 e.n [],s):=by have hP:=eP p;refine zK func202 rfl zRA (rs:=[.cell 6 3 true]) (by kernel_rfl) ?_;unfold zOU;simp[tE,tS,hP,zG,hk];exact mv [0,1,2,3,4,5,6] 0 (by rfl) (by simp[zN,qT,qJ,zX])
theorem zN7(hk:e.k=1):zLV p e V s (.mk 1 e.n [],s):=by have hP:=eP p;refine zK func202 rfl zRA (rs:=[.cell 6 3 true]) (by kernel_rfl) ?_;unfold zOU;simp[tE,tS,hP,zG,hk];exact mv [0,1,2,3,4,5,6] 0 (by rfl) (by simp[zN,qT,qJ,zX])
theorem zQF{v:Val}(hk:e.k=2)(hf:bN [e.ref.a,e.ref.b,e.ref.c,e.n] (o8 V)=some (.agg [.lit (.int .i64 v.k),.lit (.int .i64 v.n),.sl v.kids.length (zT v.kids)])):zLV p e V s (v,s):=by have hP:=eP p;refine zK func202 rfl zRA (rs:=[.cell 6 3 true]) (by kernel_rfl) ?_;unfold zOU;simp[tE,tS,hP,zG,hk,hf];exact mv [0,1,2,3,4,5,6] 0 (by rfl) (by simp[zN])
theorem xN(hk:e.k=5\/e.k=6\/e.k=8\/e.k=10\/e.k=12)(hb:zB0 p ev e V s):zLV p e V s (jK ev e V s):=by have hP:=eP p;unfold zB0 at hb;generalize jK ev e V s=r at hb;refine zK func202 rfl zRA (rs:=[.cell 6 3 true]) (by kernel_rfl) ?_;unfold zOU;rcases hk with hk|hk|hk|hk|hk<;>simp[tE,tS,hP,zG,hk]<;>refine mr hb [0,1,2,3,4,5,6] (by simp[tE,tS,hP,zG,hk]) ?_<;>simp[tE,tS,hP,zN]<;>exact mv [0,1,2,3,4,5,6] 0 (by rfl) (by simp[zN])
def zRt(p:Prg):Prop:=∀d∈p.defs,d.slots.length<=6/\d.slots.Pairwise fun a b=>a.id≠b.id
theorem zE4{ss:List Slt}(hnd:ss.Pairwise fun a b=>a.id≠b.id)(vs:wI)(hl:vs.length=ss.length):NdV (fK ss vs):=by
 unfold NdV;rw[jC0];intro i j hi hj hij e;have hi':i<ss.length:=by rw[vJ ss vs hl]at hi;exact hi
 have hj':j<ss.length:=by rw[vJ ss vs hl]at hj;exact hj
 have:=jC0.1 hnd i j hi' hj' hij;have e1:(fK ss vs)[i].id=ss[i].id:=by simp[fK]
 have e2:(fK ss vs)[j].id=ss[j].id:=by simp[fK]
 exact this (by rw[<-e1,<-e2];exact e.1)
theorem zQ9(hp:zLP p)(hsl:zRt p)(h:Ih p c m ev)(hc:c<=100000){B:wJ}{t:Typ}(he:WE p B e t)(hV:EnvT p B V)(hN:NdV V)(hB:Bd c m s):zLV p e V s (qH p 1 ev e V s):=by
 cases he with
 |int _ i n r u ns h1 h2=>exact zQE rfl
 |bool _ i n r u ns h1=>exact zN7 rfl
 |var _ i n r u ns _ hl=>exact zQF (e:=.mk i 2 n r u [] ns) rfl (hV.get hN hl)
 |call _ i n r u ks ns hn d hd hk hl hw =>
  have e1:qH p 1 ev (.mk i 3 n r u ks ns) V s=bU ev d (qQ ev V ks s).1 (qQ ev V ks s).2:=by simp[qH,dfn,hd]
  rw[e1];have hB1:=zE1 h.bd V ks s hB;have hdm:=(yD hd).1;refine oZ h (.inl rfl) hn (fun k hk s=>?_) hB ?_
  .obtain⟨j,hj,rfl⟩:=jAe hk;exact .of (hw j hj) hV hN
  .simp only[Exp.kids_mk];by_cases hf:(qQ ev V ks s).2.fail=0
   .obtain⟨ht,hz⟩:=nD h.stop h.snd hV ks _ s hl hw hf;have hlen:=ht.len;rw[jAb]at hlen;exact zQv hf rfl hd (zNQ h hc d _ (fun _=>hlen) (hsl d hdm).2 (hsl d hdm).1 (fun _ _=>⟨_,_,hp r d hd (by simp[dG,hk]),EnvT.args ht hz,zE4 (hsl d hdm).2 _ hlen⟩) hB1)
   .have e2:bU ev d (qQ ev V ks s).1 (qQ ev V ks s).2=(vz,(qQ ev V ks s).2):=by unfold bU;rw[if_pos hf]
    rw[e2];exact sD hf
 |op _ i n r u ks ns hn ts _ ho hl hw =>
  have e1:qH p 1 ev (.mk i 4 n r u ks ns) V s=(zf true (qQ ev V ks s).2 (opV n (qQ ev V ks s).1),(qQ ev V ks s).2):=by simp[qH]
  rw[e1];refine oZ h (.inr (.inl rfl)) hn (fun k hk s=>?_) hB ?_
  .obtain⟨j,hj,rfl⟩:=jAe hk;exact .of (hw j hj) hV hN
  .simp only[Exp.kids_mk];by_cases hf:(qQ ev V ks s).2.fail=0
   .obtain⟨ht,hz⟩:=nD h.stop h.snd hV ks _ s hl hw hf;rw[sO hf];exact zVF (e:=.mk i 4 n r u ks ns) hf rfl ho ht hz
   .have e2:zf true (qQ ev V ks s).2 (opV n (qQ ev V ks s).1)=vz:=by simp[zf,hf]
    rw[e2];exact sD hf
 |record _ i n r u ks ns hn d hd hk hl hw =>
  have e1:qH p 1 ev (.mk i 7 n r u ks ns) V s=(zf true (qQ ev V ks s).2 (.mk 2 0 (qQ ev V ks s).1),(qQ ev V ks s).2):=by simp[qH]
  rw[e1];refine oZ h (.inr (.inr (.inl rfl))) hn (fun k hk s=>?_) hB ?_
  .obtain⟨j,hj,rfl⟩:=jAe hk;exact .of (hw j hj) hV hN
  .simp only[Exp.kids_mk];by_cases hf:(qQ ev V ks s).2.fail=0
   .rw[sO hf];exact zTk hf rfl
   .have e2:∀v,zf true (qQ ev V ks s).2 v=vz:=fun v=>by simp[zf,hf]
    rw[e2];exact sD hf
 |case _ i r u a ns d j hd hk hj ha =>
  have e1:qH p 1 ev (.mk i 9 j r u [a] ns) V s=(zf true (qQ ev V [a] s).2 (.mk 3 j (qQ ev V [a] s).1),(qQ ev V [a] s).2):=by simp[qH]
  rw[e1];refine oZ h (.inr (.inr (.inr (.inl rfl)))) (by simp) (fun k hk s=>?_) hB ?_
  .simp only[Exp.kids_mk,jAi]at hk;subst hk;exact .of ha hV hN
  .simp only[Exp.kids_mk];by_cases hf:(qQ ev V [a] s).2.fail=0
   .rw[sO hf];exact zQw (e:=.mk i 9 j r u [a] ns) hf rfl
   .have e2:∀v,zf true (qQ ev V [a] s).2 v=vz:=fun v=>by simp[zf,hf]
    rw[e2];exact sD hf
 |list _ i n r u ks ns t hn hw =>
  have e1:qH p 1 ev (.mk i 11 n r u ks ns) V s=(zf true (qQ ev V ks s).2 (.mk 4 0 (qQ ev V ks s).1),(qQ ev V ks s).2):=by simp[qH]
  rw[e1];refine oZ h (.inr (.inr (.inr (.inr rfl)))) hn (fun k hk s=>?_) hB ?_
  .obtain⟨j,hj,rfl⟩:=jAe hk;exact .of (hw j hj) hV hN
  .simp only[Exp.kids_mk];by_cases hf:(qQ ev V ks s).2.fail=0
   .rw[sO hf];exact zQx hf rfl
   .have e2:∀v,zf true (qQ ev V ks s).2 v=vz:=fun v=>by simp[zf,hf]
    rw[e2];exact sD hf
 |ite _ i n r u a b c ns _ ha hb hc =>
  have e1:qH p 1 ev (.mk i 5 n r u [a,b,c] ns) V s=jK ev (.mk i 5 n r u [a,b,c] ns) V s:=by simp[qH]
  rw[e1];exact xN (.inl rfl) (zMb h rfl rfl ha hb hc hV hN hB.bn)
 |lets _ i n r u a b ns v _ hfr ha hb =>
  have e1:qH p 1 ev (.mk i 6 n r u [a,b] ns) V s=jK ev (.mk i 6 n r u [a,b] ns) V s:=by simp[qH]
  rw[e1];exact xN (.inr (.inl rfl)) (zMc h rfl rfl hfr ha hb hV hN hB.bn)
 |field _ i r u a ns d j hd hk hj ha =>
  have e1:qH p 1 ev (.mk i 8 j r u [a] ns) V s=jK ev (.mk i 8 j r u [a] ns) V s:=by simp[qH]
  rw[e1];exact xN (.inr (.inr (.inl rfl))) (zI5 h rfl rfl rfl hd hk hj ha hV hN hB.bn)
 |mtch _ i n r u a ks ns d _ hfr hd hk hl ha hw =>
  have e1:qH p 1 ev (.mk i 10 n r u (a::ks) ns) V s=jK ev (.mk i 10 n r u (a::ks) ns) V s:=by simp[qH]
  rw[e1];exact xN (.inr (.inr (.inr (.inl rfl)))) (zI6 h rfl rfl hfr hd hk hl (by have:=(hsl d (yD hd).1).1;omega) ha hw hV hN hB.bn)
 |fold _ i n r u l s' b ns v _ hfr hl' hs' hb =>
  have e1:qH p 1 ev (.mk i 12 n r u [l,s',b] ns) V s=jK ev (.mk i 12 n r u [l,s',b] ns) V s:=by simp[qH]
  rw[e1];exact xN (.inr (.inr (.inr (.inr rfl)))) (zJK h rfl rfl hfr hl' hs' hb hV hN hB.bn)
def qFN:Nat->Option wE:=fun|7=>k_ [0,0,0,0,0,0,4]|_=>none
noncomputable def zTX:{k:K//zV prog f166 qFN []=k}:=⟨_,by conv=>lhs;cbv⟩
theorem zYo:kx f166 qFN zTX.1:=mz (by kernel_rfl)
theorem zKT(hf:s.fail≠0):TOk p (vz,s) e V s:=by
 have hP:=eP p;refine zK func166 rfl zYo (rs:=[.cell 6 3 true]) (by kernel_rfl) ?_
 simp only[zTX]
 simp[tE,tS,hP,zG,hf];exact mv [0,1,2,3,4,5,6] 0 (by rfl) (by simp[zN,qT,qJ,zX])
theorem zKU(hf:s.fail=0)(hu:s.fuel<=0):TOk p (vz,{s with fail:=zFr}) e V s:=by
 have hP:=eP p;refine zK func166 rfl zYo (rs:=[.cell 6 3 true]) (by kernel_rfl) ?_
 simp only[zTX]
 simp[tE,tS,hP,zG,hf,hu];exact mv [0,1,2,3,4,5,6] 0 (by rfl) (by simp[zN,qT,qJ,zX])
theorem zVx{r:Val×XS}(hc:c<=100000)(hf:s.fail=0)(hu:¬s.fuel<=0)(hB:Bn c m s)(hv:zLV p e V (fE e s) r):TOk p (zKg 1 r) e V s:=by
 have hP:=eP p;have hw:IntKind.i64.wrap (s.fuel-1)=s.fuel-1:=IntWalk.i64_in _ (by have:=hB.ns;omega);have b1:=hB.ns;have b2:=hB.ds;have b3:=zII s.ns;have hn:=zJh false e.id s.ds (ddL s.ns) (by omega) (by omega);simp only[jAg,if_false,<-zFl]at hn;have ht:fE e s=⟨s.fuel-1,s.fail,s.ds,s.ns++[e.id]⟩:=rfl;rw[ht,hf]at hv;have he:zKg 1 r=(r.1,lP r):=by simp[zKg,zf]
 rw[he];refine zK func166 rfl zYo (rs:=[.cell 6 3 true]) (by kernel_rfl) ?_
 simp only[zTX]
 simp[tE,tS,hP,zG,hf,hu,hw];refine dQ hn [1,2,3,4,5] (by decide) (by simp[nS]) (by simp[zS]) ?_;simp[nS];refine mr hv [0,1,2,3,4,5,6] (by simp[tE,tS,hP,zG]) ?_;simp[tE,tS,hP,zN];by_cases h0:r.2.fail=0
 .simp[h0];refine mu (zEE r.1) (by simp[zN]) ?_;by_cases h1:256<uO r.1
  .have hl:lP r={r.2 with fail:=vG}:=by unfold lP;rw[if_pos ⟨h0,.inl h1⟩]
   simp[h1];exact mv [0,1,2,3,4,5,6] 0 (by rfl) (by simp[hl,vG,zN])
  .simp[h1];refine mu (zOa r.1) (by simp[zN]) ?_;by_cases h2:24<mW r.1
   .have hl:lP r={r.2 with fail:=vG}:=by unfold lP;rw[if_pos ⟨h0,.inr h2⟩]
    simp[h2];exact mv [0,1,2,3,4,5,6] 0 (by rfl) (by simp[hl,vG,zN])
   .have hl:lP r=r.2:=by unfold lP;rw[if_neg fun h=>h.2.elim h1 h2]
    simp[h2];exact mv [0,1,2,3,4,5,6] 0 (by rfl) (by simp[hl,h0,zN])
 .have hl:lP r=r.2:=by unfold lP;rw[if_neg fun h=>h0 h.1]
  simp[h0];exact mv [0,1,2,3,4,5,6] 0 (by rfl) (by simp[hl,zN])
theorem zLC(hp:zLP p)(hsl:zRt p)(hc:c<=100000):∀n:Nat,Ih p c n (bC p 1 n)
 | 0=>⟨oR p 1 0,v6 hp 1 0,zCi 1 0,fun e V s hA hB=>by
  rw[bC];have hu:=hB.fu;split
  .rename_i hf;exact zKT hf
  .rename_i hf;exact zKU (by omega) (by omega)⟩
 |n+1=>⟨oR p 1 (n+1),v6 hp 1 (n+1),zCi 1 (n+1),fun e V s hA hB=>by
  rw[bC];split
  .rename_i hf;exact zKT hf
  .rename_i hf;have hf:s.fail=0:=by omega
   split
   .rename_i hu;exact zKU hf hu
   .rename_i hu;obtain⟨B,t,he,hV,hN⟩:=hA hf;have ht:=hB.tick e hu;have:((n+1:Nat):Int)-1=n:=by omega
    rw[this]at ht;exact zVx hc hf hu hB (zQ9 hp hsl (zLC hp hsl hc n) hc he hV hN ht)⟩
end
theorem zQ0(l:wG)(x:Id):aT (l++[x])=iV (aT l) x:=by rw[i7,i7,jBv];rfl
theorem eE(l:wG):(aT l).length<=l.length:=by
 rw[i7];have:=zNK l []
 simpa using this
def xS(p:Prg)(s:XS):St:=[.box (zI p++[int s.fuel,int s.fail,.sl (aT s.ds).length (zY (aT s.ds)),.sl (aT s.ns).length (zY (aT s.ns))])]
@[simp]theorem qNE:zA prog 210=true:=by kernel_rfl
section
variable{p:Prg}{c:Nat}{m:Int}{ev:Evl}{e:Exp}{V:wP}{s:XS}
@[simp]theorem qN7:zA prog 228=true:=by kernel_rfl
end
def cK(ev:Evl)(e:Exp)(V:wP)(v:Val)(s:XS):Val×XS :=
 if e.k=5 then ev (e.kids.getD (if v.n=1 then 1 else 2) .zero) V s
 else if e.k=6 then ev (e.kids.getD 1 .zero) (V++[⟨e.id,0,v⟩]) s
 else if e.k=8 then (v.kids.getD e.n.toNat vz,s)
 else if e.k=10 then ev (e.kids.getD (1+v.n).toNat .zero) (V++[⟨e.id,v.n,v.kids.headD vz⟩]) s
 else j5 ev V e.id (e.kids.getD 2 .zero) v.kids (ev (e.kids.getD 1 .zero) V s)
theorem zPe{ev:Evl}{e:Exp}{s:XS}(h:(ev (e.kids.headD .zero) V s).2.fail=0):jK ev e V s=cK ev e V (ev (e.kids.headD .zero) V s).1 (ev (e.kids.headD .zero) V s).2:=by unfold jK cK;rw[if_neg (fun hn=>hn h)]
section
variable{p:Prg}{F m:Int}{ev:Evl}{B:wJ}{e:Exp}{V:wP}{v:Val}{s:XS}
def qFD:Nat->Option wE:=fun|7=>k_ [0,0,0,0,0,0,0,0,0,0,10,0] | 11=>k_ [0,0,0,0,0,0,0,0,0,0,0,0,0,0,0,0,0,0,10,0] | 16=>k_ [0,0,0,0,0,0,0,0,0,0,0,0,0,0,10,0]|_=>none
noncomputable def zC6:{k:K//zV prog f221 qFD []=k}:=⟨_,by conv=>lhs;cbv⟩
theorem zEx:kx f221 qFD zC6.1:=mz (by kernel_rfl)
@[simp]theorem qLZ:zA prog 221=true:=by kernel_rfl
abbrev BrE(p:Prg)(F:Int)(e:Exp)(V:wP)(v:Val)(s:XS)(r:Val×XS):Prop:=RP 221 [.ptr 0 0,.agg (zG e),scE V,.agg (zN v)] p F s (.agg (zN r.1)) r.2
variable{a b:Exp}
theorem zU3{d:Exp}{x:Int}(hx:x=0\/x=1)(hk:e.k=5)(hks:e.kids=[a,b,d])(hb:zGM p F b V s (ev b V s))(hd:zGM p F d V s (ev d V s)):BrE p F e V (.mk 1 x []) s (cK ev e V (.mk 1 x []) s):=by
 have hP:=eP p;have hY:cK ev e V (.mk 1 x []) s=ev (if x=1 then b else d) V s:=by unfold cK;rw[hks];rcases hx with rfl|rfl<;>simp[hk,qJ]
 rw[hY];rcases hx with rfl|rfl
 .rw[if_neg (by decide)];generalize ev d V s=r at *
  constructor
  .intro hf;refine zK func221 rfl zEx (rs:=[.cell 8 3 true]) (by kernel_rfl) ?_
   simp only[zC6]
   simp[eS,hP,zG,zN,hk,hks,zL,qT,qJ,zX];refine mr (hd.ret hf) [0] (by simp[eS,hP,zG]) ?_;simp[eS,hP,zN];exact mv [0] 0 (by rfl) (by simp[zN])
  .intro hf;refine aZ func221 rfl zEx (rs:=[.cell 8 3 true]) (by kernel_rfl) ?_
   simp only[zC6];unfold wpF
   simp[eS,hP,zG,zN,hk,hks,zL,qT,qJ,zX];refine zB9 (hd.pan hf) [0] (by decide) (by simp[eS,hP]) (by simp[zG]) fun τ=>?_
   simp
 .rw[if_pos rfl];generalize ev b V s=r at *
  constructor
  .intro hf;refine zK func221 rfl zEx (rs:=[.cell 8 3 true]) (by kernel_rfl) ?_
   simp only[zC6]
   simp[eS,hP,zG,zN,hk,hks,zL,qT,qJ,zX];refine mr (hb.ret hf) [0] (by simp[eS,hP,zG]) ?_;simp[eS,hP,zN];exact mv [0] 0 (by rfl) (by simp[zN])
  .intro hf;refine aZ func221 rfl zEx (rs:=[.cell 8 3 true]) (by kernel_rfl) ?_
   simp only[zC6];unfold wpF
   simp[eS,hP,zG,zN,hk,hks,zL,qT,qJ,zX];refine zB9 (hb.pan hf) [0] (by decide) (by simp[eS,hP]) (by simp[zG]) fun τ=>?_
   simp
theorem zU4(hk:e.k=6)(hks:e.kids=[a,b])(hb:zGM p F b (V++[⟨e.id,0,v⟩]) s (ev b (V++[⟨e.id,0,v⟩]) s)):BrE p F e V v s (cK ev e V v s):=by
 have hP:=eP p;have hY:cK ev e V v s=ev b (V++[⟨e.id,0,v⟩]) s:=by unfold cK;rw[hks];simp[hk]
 rw[hY];generalize ev b (V++[⟨e.id,0,v⟩]) s=r at *
 have hw:=iS V.reverse ⟨e.id,0,v⟩;constructor
 .intro hf;refine zK func221 rfl zEx (rs:=[.cell 8 3 true]) (by kernel_rfl) ?_
  simp only[zC6]
  simp[eS,hP,zG,zN,hk,hks,zL,qT,qJ,zX];refine qC hw (by simp[zS,zN]) (by simp) ?_;simp[eS,hP];refine gX (hb.ret hf) [0] (by decide) (by simp[eS,hP]) (by simp[zG]) ?_;simp[eS,hP,zN];exact mv [0] 0 (by rfl) (by simp[zN])
 .intro hf;refine aZ func221 rfl zEx (rs:=[.cell 8 3 true]) (by kernel_rfl) ?_
  simp only[zC6];unfold wpF
  simp[eS,hP,zG,zN,hk,hks,zL,qT,qJ,zX];refine qC hw (by simp[zS,zN]) (by simp) ?_;simp[eS,hP];refine nK (hb.pan hf) [0] (by decide) (by simp[eS,hP]) (by simp[zG]) fun τ=>?_
  simp
theorem zPs{vs:wI}{j:Nat}(hk:e.k=8)(hn:e.n=j)(hs:s.fail=0)(hj:j<vs.length)(hks:e.kids=[a]):BrE p F e V (.mk 2 0 vs) s (cK ev e V (.mk 2 0 vs) s):=by
 have hP:=eP p;have hY:cK ev e V (.mk 2 0 vs) s=(vs[j],s):=by unfold cK;simp[hk,hn,zX,hj]
 rw[hY];refine⟨fun _=>?_,fun hf=>(hf hs).elim⟩;refine zK func221 rfl zEx (rs:=[.cell 8 3 true]) (by kernel_rfl) ?_
 simp only[zC6]
 simp[eS,hP,zG,zN,hk,hks,zL,qT,qJ,zX,hn,hj,jE hj];exact mv [0] 0 (by rfl) (by simp[zN])
theorem zPt{ks:wH}{q:Nat}{x:Val}(hk:e.k=10)(hks:e.kids=a::ks)(hq:q<ks.length)(hl6:ks.length<=32768)(hb:zGM p F ks[q] (V++[⟨e.id,q,x⟩]) s (ev ks[q] (V++[⟨e.id,q,x⟩]) s)):BrE p F e V (.mk 3 q [x]) s (cK ev e V (.mk 3 q [x]) s):=by
 have hP:=eP p;have e2:(1+(q:Int)).toNat=q+1:=by omega
 have hw1:IntKind.i64.wrap (1+(q:Int))=((q+1:Nat):Int):=by rw[IntWalk.i64_in _ (by omega)];omega
 have hY:cK ev e V (.mk 3 q [x]) s=ev ks[q] (V++[⟨e.id,q,x⟩]) s:=by unfold cK;rw[hks];simp[hk,qJ,zX,e2,hq]
 rw[hY];generalize ev ks[q] (V++[⟨e.id,q,x⟩]) s=r at *
 have hw:=iS V.reverse ⟨e.id,q,x⟩;have hdr:(qM (a::ks)).drop ((q+1)*15)=zG ks[q]++qM (ks.drop (q+1)):=by
  have:=yB (l:=a::ks) (i:=q+1) (by simpa using hq)
  simpa using this
 have hlt:q+1<(a::ks).length:=by simpa using hq
 generalize hQ:a::ks=Q at *
 obtain⟨M,hM⟩:∃M,M=q+1:=⟨_,rfl⟩;rw[<-hM]at hw1 hdr hlt;constructor
 .intro hf;refine zK func221 rfl zEx (rs:=[.cell 8 3 true]) (by kernel_rfl) ?_
  simp only[zC6]
  simp[eS,hP,zG,zN,hk,hks,qT,qJ,zX,hw1,hlt,hdr];refine qC hw (by simp[zS,zN]) (by simp) ?_;simp[eS,hP];refine gX (hb.ret hf) [0] (by decide) (by simp[eS,hP]) (by simp[zG]) ?_;simp[eS,hP,zN];exact mv [0] 0 (by rfl) (by simp[zN])
 .intro hf;refine aZ func221 rfl zEx (rs:=[.cell 8 3 true]) (by kernel_rfl) ?_
  simp only[zC6];unfold wpF
  simp[eS,hP,zG,zN,hk,hks,qT,qJ,zX,hw1,hlt,hdr];refine qC hw (by simp[zS,zN]) (by simp) ?_;simp[eS,hP];refine nK (hb.pan hf) [0] (by decide) (by simp[eS,hP]) (by simp[zG]) fun τ=>?_
  simp
theorem zRS{l z:Exp}{vs:wI}(h:zB3 ev)(hk:e.k=12)(hks:e.kids=[l,z,b])(hz:zGM p F z V s (ev z V s))(hb:∀x a s',s'.fail=0->(∃i,(j5 ev V e.id b (vs.take i) (ev z V s))=(a,s')/\vs[i]?=some x)->zGM p F b (V++[⟨e.id,0,x⟩]++[⟨e.id,1,a⟩]) s' (ev b (V++[⟨e.id,0,x⟩]++[⟨e.id,1,a⟩]) s')) :
 BrE p F e V (.mk 4 0 vs) s (cK ev e V (.mk 4 0 vs) s):=by
 have hP:=eP p;have hY:cK ev e V (.mk 4 0 vs) s=j5 ev V e.id b vs (ev z V s):=by unfold cK;rw[hks];simp[hk,zX]
 rw[hY];have htk:vs.take vs.length=vs:=jAs;generalize ev z V s=r at *
 by_cases hr0:r.2.fail=0
 .have hz:=hz.ret hr0;constructor
  .intro hf;have hpre:∀i,i<=vs.length->(j5 ev V e.id b (vs.take i) r).2.fail=0:=fun i hi=>zCZ h V e.id b vs r i vs.length hi (by rw[htk];exact hf)
   refine zK func221 rfl zEx (rs:=[.cell 8 3 true]) (by kernel_rfl) ?_
   simp only[zC6]
   simp[eS,hP,zG,zN,hk,hks,zL,qT,qJ,zX];refine mr hz [0] (by simp[eS,hP,zG]) ?_;simp[eS,hP,zN];intro hls;refine qI (S:=Nat) (fun i=>[(0,.ptr 0 0),(2,scE V),(5,.ptr 1 0),(8,.ptr 3 0),(9,.ptr 4 0),(83,.sl vs.length (zT vs)),(84,int vs.length),(85,int i)])
    (fun i=>eS p F (j5 ev V e.id b (vs.take i) r).2++[.box (zG e),.box (zN (.mk 4 0 vs)),.box [int 0,int 0,.nil],.box (zN (j5 ev V e.id b (vs.take i) r).1)]) (fun i=>i<=vs.length) (fun i=>vs.length-i) 0 (by simp)
    (mw [0,1,2,3,4] 0 (by rfl) (by simp[eS,hP,zG,zN,hks,zL,hk,j5,qT,qJ,zX])) ?_
   intro i hi;by_cases hil:i<vs.length
   .have hw0:=iS V.reverse ⟨e.id,0,vs[i]⟩;have hsn:=tC ev V e.id b vs[i] (vs.take i) r;rw[<-jA7 hil]at hsn;have hdr:=jE hil;have HP1:=hpre (i+1) hil;have hok:=hb vs[i] _ _ (hpre i hi) ⟨i,rfl,jA2 hil⟩;generalize hFn:j5 ev V e.id b (vs.take (i+1)) r=Fn at hsn HP1;subst hsn;generalize hFi:j5 ev V e.id b (vs.take i) r=Fi at *
    obtain⟨acc,si⟩:=Fi;simp only at *
    have hw1:=iS (⟨e.id,0,vs[i]⟩::V.reverse) ⟨e.id,1,acc⟩;generalize ev b (V++[⟨e.id,0,vs[i]⟩]++[⟨e.id,1,acc⟩]) si=rk at *
    obtain⟨v',sk⟩:=rk;simp only at *
    simp[eS,hP,zG,zN,hil,hdr,hks,zL,hFi,qT,qJ,zX];refine qC hw0 (by simp[zS,zN]) (by simp) ?_;simp[eS,hP];refine qC hw1 (by simp[zS,zN]) (by simp) ?_;simp[eS,hP];refine gX (hok.ret HP1) [0] (by decide) (by simp[eS,hP]) (by simp[zG]) ?_;simp[eS,hP,zN];exact zO (i+1) hil (by omega) (mw [0,1,2,3,4] 0 (by rfl) (by simp[eS,hP,zG,zN,hks,zL,hFn,hk,qT,qJ,zX,zZ hil hls]))
   .have hil:i=vs.length:=by omega
    subst hil;rw[htk];simp[eS,hP,zN];exact mv [0] 0 (by rfl) (by simp[zN])
  .intro hf;obtain⟨k,hk1,hk0,hk2⟩:=zDZ h V e.id b vs r hr0 hf;have hpre:∀i,i<=k->(j5 ev V e.id b (vs.take i) r).2.fail=0:=fun i hi=>zCZ h V e.id b vs r i k hi hk0
   rw[<-hk2]at hf ⊢;refine aZ func221 rfl zEx (rs:=[.cell 8 3 true]) (by kernel_rfl) ?_
   simp only[zC6];unfold wpF
   simp[eS,hP,zG,zN,hk,hks,zL,qT,qJ,zX];refine mr hz [0] (by simp[eS,hP,zG]) ?_;simp[eS,hP,zN];intro hls;refine qI (S:=Nat) (fun i=>[(0,.ptr 0 0),(2,scE V),(5,.ptr 1 0),(8,.ptr 3 0),(9,.ptr 4 0),(83,.sl vs.length (zT vs)),(84,int vs.length),(85,int i)])
    (fun i=>eS p F (j5 ev V e.id b (vs.take i) r).2++[.box (zG e),.box (zN (.mk 4 0 vs)),.box [int 0,int 0,.nil],.box (zN (j5 ev V e.id b (vs.take i) r).1)]) (fun i=>i<=k) (fun i=>vs.length-i) 0 (by simp)
    (mw [0,1,2,3,4] 0 (by rfl) (by simp[eS,hP,zG,zN,hks,zL,hk,j5,qT,qJ,zX])) ?_
   intro i hi;have hil:i<vs.length:=by omega
   have hw0:=iS V.reverse ⟨e.id,0,vs[i]⟩;have hsn:=tC ev V e.id b vs[i] (vs.take i) r;rw[<-jA7 hil]at hsn;have hdr:=jE hil;have hok:=hb vs[i] _ _ (hpre i hi) ⟨i,rfl,jA2 hil⟩;by_cases hik:i<k
   .have HP1:=hpre (i+1) hik;generalize hFn:j5 ev V e.id b (vs.take (i+1)) r=Fn at hsn HP1;subst hsn;generalize hFi:j5 ev V e.id b (vs.take i) r=Fi at *
    obtain⟨acc,si⟩:=Fi;simp only at *
    have hw1:=iS (⟨e.id,0,vs[i]⟩::V.reverse) ⟨e.id,1,acc⟩;generalize ev b (V++[⟨e.id,0,vs[i]⟩]++[⟨e.id,1,acc⟩]) si=rk at *
    obtain⟨v',sk⟩:=rk;simp only at *
    simp[eS,hP,zG,zN,hil,hdr,hks,zL,hFi,qT,qJ,zX];refine qC hw0 (by simp[zS,zN]) (by simp) ?_;simp[eS,hP];refine qC hw1 (by simp[zS,zN]) (by simp) ?_;simp[eS,hP];refine gX (hok.ret HP1) [0] (by decide) (by simp[eS,hP]) (by simp[zG]) ?_;simp[eS,hP,zN];exact zO (i+1) hik (by omega) (mw [0,1,2,3,4] 0 (by rfl) (by simp[eS,hP,zG,zN,hks,zL,hFn,hk,qT,qJ,zX,zZ hil hls]))
   .have hik:i=k:=by omega
    subst hik;have HP1:=hf;generalize hFn:j5 ev V e.id b (vs.take (i+1)) r=Fn at hsn HP1;subst hsn;generalize hFi:j5 ev V e.id b (vs.take i) r=Fi at *
    obtain⟨acc,si⟩:=Fi;simp only at *
    have hw1:=iS (⟨e.id,0,vs[i]⟩::V.reverse) ⟨e.id,1,acc⟩;generalize ev b (V++[⟨e.id,0,vs[i]⟩]++[⟨e.id,1,acc⟩]) si=rk at *
    obtain⟨v',sk⟩:=rk;simp only at *
    simp[eS,hP,zG,zN,hil,hdr,hks,zL,hFi,qT,qJ,zX];refine qC hw0 (by simp[zS,zN]) (by simp) ?_;simp[eS,hP];refine qC hw1 (by simp[zS,zN]) (by simp) ?_;simp[eS,hP];refine nK (hok.pan HP1) [0] (by decide) (by simp[eS,hP]) (by simp[zG]) fun τ=>?_
    simp
 .have hx:(j5 ev V e.id b vs r).2=r.2:=oO h V e.id b vs r hr0;unfold BrE;rw[hx];refine⟨fun hf=>(hr0 hf).elim,fun hf=>?_⟩;refine aZ func221 rfl zEx (rs:=[.cell 8 3 true]) (by kernel_rfl) ?_
  simp only[zC6];unfold wpF
  simp[eS,hP,zG,zN,hk,hks,zL,qT,qJ,zX];refine zB9 (hz.pan hf) [0] (by decide) (by simp[eS,hP]) (by simp[zG]) fun τ=>?_
  simp
end
end Go.Proofs.YtolkhapmieigcaaGreatDoor

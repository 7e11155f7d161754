/- value.fits and value.Valid. -/
import Derived.Test.YtdnelmeboihpkaaGreatDoorX11
set_option linter.unusedVariables false
set_option maxHeartbeats 8000000
set_option maxRecDepth 100000
set_option linter.unusedSimpArgs false
open Go.Proofs.Tryz
namespace Go.Proofs.YtdnelmeboihpkaaGreatDoor
open Go.Abs
def dfn(p:Prg)(id:Id):Dfn:=(jH p.defs id).getD .zero
def fSt(p:Prg)(t:Typ):St:=[.box (zN p),.box (zB t)]
def zFU(q:Val->Bool):List Val->Nat->Int
 |[],_=>-1
 |x::l,n=>if q x then n else zFU q l (n+1)
theorem zJG(q:Val->Bool):∀(l:wI) (n:Nat),(l.any q=true/\0<=zFU q l n)\/(l.any q=false/\zFU q l n = -1)
 |[],n=>.inr ⟨rfl,rfl⟩
 |x::l,n=>by
  simp only[zFU,List.any_cons];cases hx:q x with
  |true=>exact .inl ⟨by simp,by simp⟩
  |false=>simpa using zJG q l (n+1)
mutual
def aO(p:Prg):Typ->Val->Bool
 |t,.mk k n l=>validT p t&&(if t.k=0 then decide (k=0)&&decide (l.length=0)&&decide (-1099511627776<=n)&&decide (n<=1099511627776)else if t.k=1 then decide (k=1)&&decide (l.length=0)&&(decide (n=0)||decide (n=1))
  else if t.k=2 then decide (k=4)&&decide (n=0)&&zJm p (t.kids.headD .zero) l
  else if (dfn p t.id).kind=1 then decide (k=3)&&decide (0<=n)&&decide (n<(dfn p t.id).slots.length)&&decide (l.length=1)&&zJn p ((dfn p t.id).slots.map Slt.typ)[n.toNat]? l
  else decide (k=2)&&decide (n=0)&&decide (l.length=(dfn p t.id).slots.length)&&dF p ((dfn p t.id).slots.map Slt.typ) l)
def zJm(p:Prg)(t:Typ):List Val->Bool
 |[]=>true
 |v::l=>aO p t v&&zJm p t l
def zJn(p:Prg):Option Typ->List Val->Bool
 |some t,v::_=>aO p t v
 |_,_=>false
def dF(p:Prg):List Typ->List Val->Bool
 |t::ts,v::l=>aO p t v&&dF p ts l
 |_,_=>true
end
theorem zGy(p:Prg)(t:Typ):∀(l:wI),zJm p t l=l.all (aO p t)
 |[]=>by rw[zJm];rfl
 |v::l=>by rw[zJm,zGy p t l];rfl
theorem dN(p:Prg)(t:Typ)(v:Val):aO p t v=(validT p t&&(if t.k=0 then decide (v.k=0)&&decide (v.kids.length=0)&&decide (-1099511627776<=v.n)&&decide (v.n<=1099511627776)else if t.k=1 then decide (v.k=1)&&decide (v.kids.length=0)&&(decide (v.n=0)||decide (v.n=1))
 else if t.k=2 then decide (v.k=4)&&decide (v.n=0)&&v.kids.all (aO p (t.kids.headD .zero))
 else if (dfn p t.id).kind=1 then decide (v.k=3)&&decide (0<=v.n)&&decide (v.n<(dfn p t.id).slots.length)&&decide (v.kids.length=1)&&zJn p ((dfn p t.id).slots.map Slt.typ)[v.n.toNat]? v.kids
 else decide (v.k=2)&&decide (v.n=0)&&decide (v.kids.length=(dfn p t.id).slots.length)&&dF p ((dfn p t.id).slots.map Slt.typ) v.kids)):=by
 cases v with
 |mk k n l=>rw[aO,zGy];rfl
theorem zR8(p:Prg)(t x:Typ)(hx:t.kids=[x])(v:Val)(b:Bool)(h:my 74 [.agg (zN p),.agg (zB x),.agg (zC v)] [] (bl b) []) :
 my 115 [.agg (zC v),.ptr 0 0,.ptr 1 0] (fSt p t) (bl (!b)) (fSt p t):=by
 refine mq [] [.slot 4] func115 (by kernel_rfl) ?_
 (conv in kq _ _=>cbv)
 simp[fSt,zN,zB,zC,hx];refine qA h (by simp[zN,zB,zC,qN]) (by simp) ?_;simp;exact mv [0,1] 0 (by rfl) (by simp[zN,zB,hx])
theorem zUv(p:Prg)(t:Typ)(q:Val->Bool)(l:wI)(h:∀v∈l,my 115 [.agg (zC v),.ptr 0 0,.ptr 1 0] (fSt p t) (bl (q v)) (fSt p t)) :
 my 153 [.sl l.length (zR l),.clo 115 [] [.ptr 0 0,.ptr 1 0]] (fSt p t) (int (zFU q l 0)) (fSt p t):=by
 refine mq [] [.slot 4] func153 (by kernel_rfl) ?_
 (conv in kq _ _=>cbv)
 simp[fSt,zN,zB];intro hl;refine qO (S:=Nat) (fun i=>[(0,.sl l.length (zR l)),(1,.clo 115 [] [.ptr 0 0,.ptr 1 0]),(6,.sl l.length (zR l)),(7,int l.length),(8,int i)]) (fun i=>fSt p t) (fun i=>i<=l.length/\zFU q l 0=zFU q (l.drop i) i) (fun i=>l.length-i) 0 (by simp)
  (mw [0,1] 0 (by rfl) (by simp[fSt,zN,zB])) ?_
 rintro i ⟨hi,ho⟩;by_cases hil:i<l.length
 .have hd:l.drop i=l[i]::l.drop (i+1):=jAp hil;simp[hil,qT hil,fSt,zN,zB];refine mr (h l[i] (jA0 hil)) [0,1] (by simp[fSt,zN,zB,zC]) ?_;cases hq:q l[i]with
  |true =>
   simp[fSt,zN,zB];exact ke [0,1] 0 (by rfl) (by simp[zN,zB]) (by rw[ho,hd];simp[zFU,hq])
  |false =>
   simp[fSt,zN,zB];exact zS (i+1) ⟨hil,by rw[ho,hd];simp[zFU,hq]⟩ (by omega) (mw [0,1] 0 (by rfl) (by simp[fSt,zN,zB,qF hil hl]))
 .have:i=l.length:=by omega
  subst this;simp[fSt,zN,zB];exact ke [0,1] 0 (by rfl) (by simp[zN,zB]) (by rw[ho];simp[zFU])
theorem zTQ(p:Prg)(t:Typ)(q:Val->Bool)(l:wI)(h:∀v∈l,my 115 [.agg (zC v),.ptr 0 0,.ptr 1 0] (fSt p t) (bl (q v)) (fSt p t)) :
 my 112 [.sl l.length (zR l),.clo 115 [] [.ptr 0 0,.ptr 1 0]] (fSt p t) (bl (l.any q)) (fSt p t):=by
 refine mq [] [.slot 4] func112 (by kernel_rfl) ?_
 (conv in kq _ _=>cbv)
 simp[fSt,zN,zB];refine mr (zUv p t q l h) [0,1] (by simp[fSt,zN,zB]) ?_;rcases zJG q l 0 with ⟨h1,h2⟩|⟨h1,h2⟩
 all_goals
  simp[fSt,zN,zB,h2];exact mv [0,1] 0 (by rfl) (by simp[zN,zB,h1])
abbrev zHY:FuncId:=131
variable{hs:wP}{R:Nat}{m:Mk}
theorem zWH(hx:Cx hs R m){k:Nat}(hk:k<hs.length)(h1:∀(j:Nat)(hj:j<k),hs[j].id≠hs[k].id):∃h:k<m.defs.length,xT m.defs hs[k].id=(m.defs[k],true)/\m.defs[k].hd=hs[k]:=by
 have hl:=hx.dlen;have h:k<m.defs.length:=by omega
 have hg:=hx.get h;refine⟨h,?_,hg.symm⟩;unfold xT;rw[zCj h (fun d hd=>?_) (by rw[hg];rfl)];rw[List.mem_take_iff_getElem]at hd;obtain⟨j,hj,rfl⟩:=hd;have hjl:j<m.defs.length:=by omega
 have:=h1 j (by omega);rw[hx.get hjl]at this;exact this
variable{env:wJ}
theorem zU8{R:Nat}(hl:Lim m 1)(x depth:Int)(hx0:0<=x)(hx1:x<=65536):cN hs m.own zHY m [.ptr 0 0,.agg (zB jK),.sl env.length (qC env),int x,int depth] env jK 1:=by
 have e9:x.tmod 9=x % 9:=tmN hx0;have e29:x.tmod 29=x % 29:=tmN hx0;have e2:x.tmod 2=x % 2:=tmN hx0;have key:∀n,-1099511627776<=n->n<=1099511627776->(∀(K:Prop),K->K)->my zHY [.ptr 0 0,.agg (zB jK),.sl env.length (qC env),int x,int depth] (mkS m) (.agg (zJ (.mk ⟨0,0,m.temp⟩ 0 n Id.zero Typ.zero [] []))) (mkS {m with temp:=m.temp+1,left:=m.left-1})->cN hs m.own zHY m [.ptr 0 0,.agg (zB jK),.sl env.length (qC env),int x,int depth] env jK 1:=fun n q1 q2 _ h =>
  ⟨_,_,h,aH m,.int _ _ _ q1 q2,by simp only[tmps,yQ,jBl];exact Seg.one _,xJ⟩
 have w1:=z8 (x.tmod 9-2) (by omega);have w2:=z8 (1099511627776-x.tmod 2) (by omega);obtain⟨l1,l2,l3,l4,l5,l6,l7,l8⟩:=hl;by_cases h29:x.tmod 29=3
 .refine key (1099511627776-x.tmod 2) (by omega) (by omega) (fun _ h=>h) ?_;refine ml qFD [87,77,147] [] [] [.cell 10 15 true] func131 (by kernel_rfl) ?_
  (conv in kH _ _ _=>cbv)
  simp[mkS,mkB,zB,jK,w1,w2,h29];refine mr (aT m 0 (1099511627776-x.tmod 2) [] l3 (by omega) (by omega) l6) [0,1] (by simp[mkS,mkB]) ?_;simp[mkS,mkB];exact mv [0,1] 0 (by rfl) (by simp)
 .refine key (x.tmod 9-2) (by omega) (by omega) (fun _ h=>h) ?_;refine ml qFD [87,77,147] [] [] [.cell 10 15 true] func131 (by kernel_rfl) ?_
  (conv in kH _ _ _=>cbv)
  simp[mkS,mkB,zB,jK,w1,w2,h29];refine mr (aT m 0 (x.tmod 9-2) [] l3 (by omega) (by omega) l6) [0,1] (by simp[mkS,mkB]) ?_;simp[mkS,mkB];exact mv [0,1] 0 (by rfl) (by simp)
theorem zSh(hl:Lim m 1)(x depth:Int)(hx0:0<=x):cN hs m.own zHY m [.ptr 0 0,.agg (zB jR),.sl env.length (qC env),int x,int depth] env jR 1:=by
 have e2:x.tmod 2=x % 2:=tmN hx0;obtain⟨l1,l2,l3,l4,l5,l6,l7,l8⟩:=hl;refine⟨.mk ⟨0,0,m.temp⟩ 1 (x.tmod 2) Id.zero Typ.zero [] [],_,?_,aH m,.bool _ _ _ (by omega),by simp only[tmps,yQ,jBl];exact Seg.one _,xJ⟩;refine ml qFD [87,77,147] [] [] [.cell 10 15 true] func131 (by kernel_rfl) ?_
 (conv in kH _ _ _=>cbv)
 simp[mkS,mkB,zB,jR];refine mr (aT m 1 (x.tmod 2) [] l3 (by omega) (by omega) l6) [0,1] (by simp[mkS,mkB]) ?_;simp[mkS,mkB];exact mv [0,1] 0 (by rfl) (by simp)
variable{c depth:Int}{Q:Nat->Prop}{r:Nat}
theorem zSj{len:Nat}(hc:0<=c)(hl:Lim m (2*c+1))(x:Int)(hx0:0<=x)(t:Typ)(hr:TyOk hs r t)(hQ:Q r)
 (hk:dV hs R c (depth-1) Q len)(hx:Cx hs R m)(he:EnvOk hs R m.temp env)(h1:0<env.length)(h2:env.length<=len)(hd1 : -1000<=depth)(hd2:depth<=1000) :
 cN hs m.own zHY m [.ptr 0 0,.agg (zB (j8 t)),.sl env.length (qC env),int x,int depth] env (j8 t) (2*c+1):=by
 have e3:x.tmod 3=x % 3:=tmN hx0;have wd:=z8 (depth-1) (by omega);obtain⟨K,hK,hK2⟩:∃K:Nat,(K:Int)=(if 0<=depth then x.tmod 3 else 0)/\K<=2:=by
  by_cases h:0<=depth
  .exact⟨(x % 3).toNat,by rw[if_pos h,e3];omega,by omega⟩
  .exact⟨0,by rw[if_neg h];rfl,by omega⟩
 have hKc:(K:Int)*c<=2*c:=jDb (by omega) hc;obtain⟨es,ms,q0,q2,q3,q4,q6,q7,q5⟩:=zSc hk hc env h1 h2 t hr hQ m hx he K (hl.mono (by omega));have ha:=q3 es.length (jA _);have hec:(es.length:Int)*c<=2*c:=jDb (by omega) hc;have ha2:=ha.mono hec;have hln:=Lim.adv (c:=2*c) (c':=1) hl ha2;obtain⟨l1,l2,l3,l4,l5,l6,l7,l8⟩:=hln;refine⟨.mk ⟨0,0,(ms es.length).temp⟩ 11 0 Id.zero t es [],{ms es.length with temp:=(ms es.length).temp+1,left:=(ms es.length).left-1},?_,ha2.trans (aH _),.list _ _ _ _ fun j hj=>(q5 j hj).2.1,
  by simp only[tmps];exact q4.append (Seg.one _) ha.temp1 (by omega),iX (zB2 rfl fun j hj=>(q5 j hj).2.2)⟩
 refine ml qFD [87,77,147] [] [] [.cell 10 15 true] func131 (by kernel_rfl) ?_
 (conv in kH _ _ _=>cbv)
 simp[mkS,mkB,zB,j8];refine qO (S:=Nat) (fun i=>[(0,.ptr 0 0),(2,.sl env.length (qC env)),(3,int x),(4,int depth),(6,.ptr 2 0),(10,.ptr 3 0),(12,.row 4 i),(13,int i)])
  (fun i=>mkS (ms i)++[.box (zB (j8 t)),.box (zJ Exp.zero),.row false 39 15 i (qQ (es.take i))]) (fun i=>i<=es.length) (fun i=>es.length-i) 0 (by simp)
  ((yK (t:=12) (by simp) 39 15).trans (mw [0,1,2,3,4] 0 (by rfl) (by simp[mkS,mkB,zB,j8,q2,zJ,Exp.zero,Id.zero,Typ.zero]))) ?_
 intro i hi;have hms:=q3 i hi;by_cases hi2:i<es.length
 .obtain⟨g1,_,_⟩:=q5 i hi2;have c2:0<=depth:=by
   by_cases h:0<=depth
   .exact h
   .rw[if_neg h]at hK;omega
  have c1:(i:Int)<x.tmod 3:=by rw[if_pos c2]at hK;omega
  have c3:=q6 i hi2;have hst:qQ (es.take (i+1))=qQ (es.take i)++zJ es[i]:=bO hi2;have hw:=jY i (by omega);simp[mkS,mkB,zB,j8,c1,c2,c3,wd,qN];refine mr g1 [0,1] (by simp[mkS,mkB,zB]) ?_;simp[mkS,mkB];refine⟨⟨by simp[maxLen];omega,by omega⟩,?_⟩;exact zS (i+1) hi2 (by omega) (mw [0,1,2,3,4] 0 (by rfl) (by simp[mkS,mkB,zB,j8,zJ,Exp.zero,Id.zero,Typ.zero,hst,hw]))
 .have hie:i=es.length:=by omega
  subst hie;have hexit:¬((es.length:Int)<x.tmod 3/\0<=depth/\0<(ms es.length).left):=fun hh=>by
   rcases q7 with q7|q7
   .rw[if_pos hh.2.1]at hK;omega
   .omega
  by_cases c1:(es.length:Int)<x.tmod 3
  .by_cases c2:0<=depth
   .have c3:¬0<(ms es.length).left:=fun h=>hexit ⟨c1,c2,h⟩
    simp[mkS,mkB,zB,j8,c1,c2,c3,qN];refine⟨qS [(0,.ptr 0 0),(6,.ptr 2 0),(10,.ptr 3 0),(12,.sl es.length (qQ es))],mkS (ms es.length)++[.box (zB (j8 t)),.box (zJ Exp.zero)],mw [0,1,2,3] 1 (by rfl) (by simp[mkS,mkB,zB,j8,zJ,Exp.zero,Id.zero,Typ.zero,qN]),?_⟩;simp[mkS,mkB,zB,j8];refine mr (aT (ms es.length) 11 0 es l3 (by omega) (by omega) l6) [0,1] (by simp[mkS,mkB]) ?_;simp[mkS,mkB,zB,j8,zJ,qN];exact mv [0,1] 0 (by rfl) (by simp[zJ])
   .simp[mkS,mkB,zB,j8,c1,c2,qN];refine⟨qS [(0,.ptr 0 0),(6,.ptr 2 0),(10,.ptr 3 0),(12,.sl es.length (qQ es))],mkS (ms es.length)++[.box (zB (j8 t)),.box (zJ Exp.zero)],mw [0,1,2,3] 1 (by rfl) (by simp[mkS,mkB,zB,j8,zJ,Exp.zero,Id.zero,Typ.zero,qN]),?_⟩;simp[mkS,mkB,zB,j8];refine mr (aT (ms es.length) 11 0 es l3 (by omega) (by omega) l6) [0,1] (by simp[mkS,mkB]) ?_;simp[mkS,mkB,zB,j8,zJ,qN];exact mv [0,1] 0 (by rfl) (by simp[zJ])
  .simp[mkS,mkB,zB,j8,c1,qN];refine⟨qS [(0,.ptr 0 0),(6,.ptr 2 0),(10,.ptr 3 0),(12,.sl es.length (qQ es))],mkS (ms es.length)++[.box (zB (j8 t)),.box (zJ Exp.zero)],mw [0,1,2,3] 1 (by rfl) (by simp[mkS,mkB,zB,j8,zJ,Exp.zero,Id.zero,Typ.zero,qN]),?_⟩;simp[mkS,mkB,zB,j8];refine mr (aT (ms es.length) 11 0 es l3 (by omega) (by omega) l6) [0,1] (by simp[mkS,mkB]) ?_;simp[mkS,mkB,zB,j8,zJ,qN];exact mv [0,1] 0 (by rfl) (by simp[zJ])
variable{p:Prg}{t:Typ}
theorem zF5(h:validT p t=true)(h2:t.k=2):∃x,t.kids=[x]:=by
 cases t with
 |mk k id kids =>
  simp only[Typ.k_mk]at h2;subst h2;simp only[validT,j9,Typ.k_mk,Typ.id_mk,Typ.kids_mk,if_true]at h;split at h
  .exact⟨_,rfl⟩
  .cases h
theorem zCl{ts:wS}:dF p ts []=true:=by cases ts<;>simp[dF]
theorem zJo{v:Val}(h:validT p t=false):aO p t v=false:=by rw[dN,h];rfl
theorem zBp(p:Prg)(t:Typ)(v:Val):my 74 [.agg (zN p),.agg (zB t),.agg (zC v)] [] (bl (aO p t v)) []:=by
 refine mq [] [.slot 6] func74 (by kernel_rfl) ?_
 (conv in kq _ _=>cbv)
 simp[zN,zB,zC];refine mu (zF6 p t) (by simp[zN,zB]) ?_;cases hv:validT p t with
 |false =>
  simp;exact zA 0 (by simp[zJo hv])
 |true =>
 by_cases h0:t.k=0
 .have e:aO p t v=(decide (v.k=0)&&decide (v.kids.length=0)&&decide (-1099511627776<=v.n)&&decide (v.n<=1099511627776)):=by rw[dN,hv,if_pos h0,jBi]
  by_cases c1:v.k=0
  .by_cases c2:v.kids.length=0
   .by_cases c3 : -1099511627776<=v.n
    all_goals
     simp[hv,h0,c1,c2,c3];exact zA 0 (by rw[e];simp[c1,c2,c3])
   .simp[hv,h0,c1,c2];exact fun _=>zA 0 (by rw[e];simp[c1,c2])
  .simp[hv,h0,c1];exact zA 0 (by rw[e];simp[c1])
 by_cases h1:t.k=1
 .have e:aO p t v=(decide (v.k=1)&&decide (v.kids.length=0)&&(decide (v.n=0)||decide (v.n=1))):=by rw[dN,hv,if_neg h0,if_pos h1,jBi]
  by_cases c1:v.k=1
  .by_cases c2:v.kids.length=0
   .by_cases c3:v.n=0
    all_goals
     simp[hv,h1,c1,c2,c3];exact zA 0 (by rw[e];simp[c1,c2,c3])
   .simp[hv,h1,c1,c2];exact fun _=>zA 0 (by rw[e];simp[c1,c2])
  .simp[hv,h1,c1];exact zA 0 (by rw[e];simp[c1])
 by_cases h2:t.k=2
 .obtain⟨x,hx⟩:=zF5 hv h2;have e:aO p t v=(decide (v.k=4)&&decide (v.n=0)&&v.kids.all (aO p x)):=by rw[dN,hv,if_neg h0,if_neg h1,if_pos h2,jBi,hx];rfl
  by_cases c1:v.k=4
  .by_cases c2:v.n=0
   .simp[hv,h2,c1,c2];refine mr (zTQ p t (fun y=>!aO p x y) v.kids (fun y hy=>zR8 p t x hx y _ (zBp p x y))) [0,1] (by simp[fSt,zN,zB,h2]) ?_;simp[fSt,zN,zB];exact zA 0 (by rw[e];simp[c1,c2,List.all_eq_not_any_not])
   .simp[hv,h2,c1,c2];exact zA 0 (by rw[e];simp[c1,c2])
  .simp[hv,h2,c1];exact zA 0 (by rw[e];simp[c1])
 have e:=dN p t v;rw[hv,if_neg h0,if_neg h1,if_neg h2,jBi]at e;simp[hv,h0,h1,h2];refine mu (nO p t.id) (by simp[zN,zL,bL]) ?_;have hD:(jH p.defs t.id).getD .zero=dfn p t.id:=rfl;generalize dfn p t.id=D at hD e;by_cases hk:D.kind=1
 .rw[if_pos hk]at e;by_cases c1:v.k=3
  .by_cases c2:0<=v.n
   .by_cases c3:v.n<D.slots.length
    .by_cases c4:v.kids.length=1
     .obtain⟨x,hx⟩:∃x,v.kids=[x]:=List.length_eq_one_iff.1 c4;obtain⟨i,hi⟩:∃i:Nat,v.n=i:=⟨v.n.toNat,by omega⟩;have hil:i<D.slots.length:=by omega
      simp[bL,hD,zK,hk,c1,hi,hil,hx,qW hil,j4];refine qA (zBp p D.slots[i].typ x) (by simp[zN,zB,zC]) (by simp) ?_;simp;exact zA 0 (by rw[e];simp[c1,hi,hil,hx,zJn])
     .have c4':¬(v.kids.length:Int)=1:=by omega
      simp[bL,hD,zK,hk,c1,c2,c3,c4']
      first|exact zA 0 (by rw[e];simp[c1,c2,c3,c4])|exact fun _=>zA 0 (by rw[e];simp[c1,c2,c3,c4])|exact fun _ _=>zA 0 (by rw[e];simp[c1,c2,c3,c4])
    .simp[bL,hD,zK,hk,c1,c2,c3];exact zA 0 (by rw[e];simp[c1,c2,c3])
   .simp[bL,hD,zK,hk,c1,c2];exact zA 0 (by rw[e];simp[c1,c2])
  .simp[bL,hD,zK,hk,c1];exact zA 0 (by rw[e];simp[c1])
 rw[if_neg hk]at e;by_cases c1:v.k=2
 .by_cases c2:v.n=0
  .by_cases c3:v.kids.length=D.slots.length
   .simp[bL,hD,zK,hk,c1,c2,c3];intro hl;refine qO (S:=Nat) (fun i=>[(3,.ptr 0 0),(7,.ptr 3 0),(141,.sl v.kids.length (zR v.kids)),(142,int v.kids.length),(143,int i)])
     (fun i=>[.box (zN p),.box (zB t),.box (zC v),.box (zK D)]) (fun i=>i<=v.kids.length/\dF p (D.slots.map Slt.typ) v.kids=dF p ((D.slots.map Slt.typ).drop i) (v.kids.drop i)) (fun i=>v.kids.length-i) 0 (by simp)
     (mw [0,1,2,3] 0 (by rfl) (by simp[zN,zB,zC,zK,hk,c1,c2,c3])) ?_
    rintro i ⟨hi,ho⟩;by_cases hil:i<v.kids.length
    .have hiD:i<D.slots.length:=by omega
     have d1:v.kids.drop i=v.kids[i]::v.kids.drop (i+1):=jAp hil;have d2:(D.slots.map Slt.typ).drop i=D.slots[i].typ::(D.slots.map Slt.typ).drop (i+1):=by rw[jAp (by simpa using hiD)];simp
     simp[hil,hiD,qT hil,qW hiD,zN,zK,j4];refine qA (zBp p D.slots[i].typ v.kids[i]) (by simp[zN,zB,zC]) (by simp) ?_;cases hf:aO p D.slots[i].typ v.kids[i]with
     |true =>
      simp;exact zS (i+1) ⟨hil,by rw[ho,d1,d2];simp[dF,hf]⟩ (by omega) (mw [0,1,2,3] 0 (by rfl) (by simp[zN,zB,zC,zK,qF hil (c3▸hl)]))
     |false =>
      simp;exact zA 0 (by rw[e,ho,d1,d2];simp[dF,hf])
    .have:i=v.kids.length:=by omega
     subst this;simp;exact zA 0 (by rw[e,ho,jCj (jA v.kids.length),zCl];simp[c1,c2,c3])
   .have c3':¬(v.kids.length:Int)=D.slots.length:=by omega
    simp[bL,hD,zK,hk,c1,c2,c3']
    first|exact zA 0 (by rw[e];simp[c1,c2,c3])|exact fun _=>zA 0 (by rw[e];simp[c1,c2,c3])|exact fun _ _=>zA 0 (by rw[e];simp[c1,c2,c3])
  .simp[bL,hD,zK,hk,c1,c2];exact zA 0 (by rw[e];simp[c1,c2])
 .simp[bL,hD,zK,hk,c1];exact zA 0 (by rw[e];simp[c1])
termination_by zZ v
decreasing_by
 .exact y4 hy
 .exact y4 (by simp[hx])
 .exact y4 (jA0 _)
theorem zHr(p:Prg)(t:Typ)(v:Val)(h1:zZ v<=256)(h2:j6 v<=24) :
 my 30 [.agg (zN p),.agg (zB t),.agg (zC v)] [] (bl (aO p t v)) []:=by
 refine mq [] [.slot 6] func30 (by kernel_rfl) ?_
 (conv in kq _ _=>cbv)
 simp[zN,zB,zC];refine mu (zSW v h1 h2) (by simp[zC]) ?_;simp;refine mu (zBp p t v) (by simp[zN,zB,zC]) ?_;simp;exact zA 0 (by simp)
abbrev vz:Val:=.mk 0 0 []
def pZ(a b:Int):Int:=if b=0 then 0 else if a.tmod b≠0/\¬(a<0↔b<0)then a.tdiv b-1 else a.tdiv b
def zD3(a b:Int):Int:=if b=0 then 0 else a-b*pZ a b
def uA(n a b:Int):Int:=if n=0 then bB (a+b)else if n=1 then bB (a-b)else if n=2 then bB (a*b)else if n=3 then pZ a b else zD3 a b
def opV(n:Int):List Val->Val
 |[a]=>if n=9 then dR (decide (a.n=0))else .mk 0 a.kids.length []
 |[a,b]=>if n<=4 then .mk 0 (uA n a.n b.n) []else if n=5 then dR (decide (a.n<b.n))else if n=6 then dR (decide (gU a b=0))
  else if n=7 then dR (decide (a.n=1/\b.n=1))else if n=8 then dR (decide (a.n=1\/b.n=1))else .mk 4 0 (a.kids++b.kids)
 |_=>vz
structure XS where
 fuel:Int
 fail:Int
 ds:List Id
 ns:List Id
abbrev Evl:=Exp->List EVar->XS->Val×XS
def jG(ev:Evl)(env:wO):List Exp->XS->wI×XS
 |[],s=>([],s)
 |e::l,s=>((ev e env s).1::(jG ev env l (ev e env s).2).1,(jG ev env l (ev e env s).2).2)
theorem vY(ev:Evl)(env:wO)(e:Exp):∀(l:wG) (s:XS),jG ev env (l++[e]) s=((jG ev env l s).1++[(ev e env (jG ev env l s).2).1],(ev e env (jG ev env l s).2).2)
 |[],s=>rfl
 |x::l,s=>by simp only[jB6,jG,vY ev env e l]
theorem fK(ev:Evl)(env:wO):∀(l:wG) (s:XS),(jG ev env l s).1.length=l.length
 |[],s=>rfl
 |x::l,s=>by simp only[jG,jA9,fK ev env l]
def j7(ev:Evl)(env:wO)(i:Id)(b:Exp):List Val->Val×XS->Val×XS
 |[],r=>r
 |x::l,r=>j7 ev env i b l (ev b (env++[⟨i,0,x⟩]++[⟨i,1,r.1⟩]) r.2)
theorem sO(ev:Evl)(env:wO)(i:Id)(b:Exp)(x:Val):∀(l:wI) (r:Val×XS),j7 ev env i b (l++[x]) r=ev b (env++[⟨i,0,x⟩]++[⟨i,1,(j7 ev env i b l r).1⟩]) (j7 ev env i b l r).2
 |[],r=>rfl
 |y::l,r=>by simp only[jB6,j7,sO ev env i b x l]
def cG(ss:List Slt)(vs:wI):wO:=List.zipWith (fun s v=>⟨s.id,0,v⟩) ss vs
theorem zBe(ss:List Slt)(vs:wI)(h:vs.length=ss.length):(cG ss vs).length=ss.length:=by simp[cG,h]
theorem zGu{ss:List Slt}{vs:wI}(h:vs.length=ss.length){i:Nat}(hi:i<ss.length):(cG ss vs).take (i+1)=(cG ss vs).take i++[⟨ss[i].id,0,vs[i]⟩]:=by rw[jA8 (by rw[zBe ss vs h];exact hi)];simp[cG]
def bX(ev:Evl)(d:Dfn)(vs:wI)(s:XS):Val×XS:=if s.fail≠0 then (vz,s)else ev d.body (cG d.slots vs) {s with ds:=s.ds++[d.id]}
def jW(ev:Evl)(e:Exp)(env:wO)(s:XS):Val×XS :=
 if (ev (e.kids.headD .zero) env s).2.fail≠0 then (vz,(ev (e.kids.headD .zero) env s).2)
 else if e.k=5 then ev (e.kids.getD (if (ev (e.kids.headD .zero) env s).1.n=1 then 1 else 2) .zero) env (ev (e.kids.headD .zero) env s).2
 else if e.k=6 then ev (e.kids.getD 1 .zero) (env++[⟨e.id,0,(ev (e.kids.headD .zero) env s).1⟩]) (ev (e.kids.headD .zero) env s).2
 else if e.k=8 then ((ev (e.kids.headD .zero) env s).1.kids.getD e.n.toNat vz,(ev (e.kids.headD .zero) env s).2)
 else if e.k=10 then ev (e.kids.getD (1+(ev (e.kids.headD .zero) env s).1.n).toNat .zero) (env++[⟨e.id,(ev (e.kids.headD .zero) env s).1.n,(ev (e.kids.headD .zero) env s).1.kids.headD vz⟩]) (ev (e.kids.headD .zero) env s).2
 else j7 ev env e.id (e.kids.getD 2 .zero) (ev (e.kids.headD .zero) env s).1.kids (ev (e.kids.getD 1 .zero) env (ev (e.kids.headD .zero) env s).2)
def zf(c:Bool)(s:XS)(v:Val):Val:=if c=true/\s.fail≠0 then vz else v
def qM(p:Prg)(fl:Nat)(ev:Evl)(e:Exp)(env:wO)(s:XS):Val×XS :=
 if e.k=0 then (.mk 0 e.n [],s)
 else if e.k=1 then (.mk 1 e.n [],s)
 else if e.k=2 then (lF env e.ref e.n,s)
 else if e.k=5\/e.k=6\/e.k=8\/e.k=10\/e.k=12 then jW ev e env s
 else if e.k=3 then bX ev (dfn p e.ref) (jG ev env e.kids s).1 (jG ev env e.kids s).2
 else if e.k=4 then (zf true (jG ev env e.kids s).2 (opV e.n (jG ev env e.kids s).1),(jG ev env e.kids s).2)
 else if e.k=7 then (zf (fl==1) (jG ev env e.kids s).2 (.mk 2 0 (jG ev env e.kids s).1),(jG ev env e.kids s).2)
 else if e.k=9 then (zf (fl==1) (jG ev env e.kids s).2 (.mk 3 e.n (jG ev env e.kids s).1),(jG ev env e.kids s).2)
 else (zf (fl==1) (jG ev env e.kids s).2 (.mk 4 0 (jG ev env e.kids s).1),(jG ev env e.kids s).2)
def zDx(v:Val):Prop:=256<mU v\/24<gM v
instance (v:Val):Decidable (zDx v):=by unfold zDx;infer_instance
abbrev tT:Int:=18
abbrev mJ:Int:=4
def gD(r:Val×XS):XS:=if r.2.fail=0/\zDx r.1 then {r.2 with fail:=mJ} else r.2
def uU(fl:Nat)(r:Val×XS):Val×XS:=(zf (fl==2) (gD r) r.1,gD r)
def mV(e:Exp)(s:XS):XS:={s with fuel:=s.fuel-1,ns:=s.ns++[e.id]}
def aM(p:Prg)(fl:Nat):Nat->Evl
 | 0,_,_,s=>if s.fail≠0 then (vz,s)else (vz,{s with fail:=tT})
 |m+1,e,env,s =>
  if s.fail≠0 then (vz,s)else if s.fuel<=0 then (vz,{s with fail:=tT})
  else uU fl (qM p fl (aM p fl m) e env (mV e s))
theorem zFd{U τ:St}(hk:c6 U τ){j:Nat}{o:AObj}(h : U[j]?=some o)(hn:o≠AObj.rsv):q9 τ [j] [o] = τ:=by
 have h1:=hk j o h hn;have hlt:j < τ.length:=by
  by_cases hl:j < τ.length
  .exact hl
  .rw[jBd (by omega)]at h1;cases h1
 rw[jA1 hlt]at h1;simp only[q9];injection h1 with h1
 rw[<-h1,jBa];exact List.set_getElem_self hlt
theorem cN.mono{own:Int}{f:FuncId}{args:wE}{c':Int}(h:cN hs own f m args env t c)(hc:c<=c'):cN hs own f m args env t c':=by obtain⟨e,m',h1,h2,h3,h4,h5⟩:=h;exact⟨e,m',h1,h2.mono hc,h3,h4,h5⟩
theorem zSd{len:Nat}(hk:dV hs R c depth Q len)(hc:0<=c)(envs:Nat->wJ)(t:Typ)(hr:TyOk hs r t)(hQ:Q r)
 (m:Mk)(hx:Cx hs R m)(he:∀j,EnvOk hs R m.temp (envs j))(h1:∀j,0<(envs j).length)(h2:∀j,(envs j).length<=len):∀(k:Nat),Lim m (k*(c+1)) ->
  ∃(es:wG) (ns:List ByteArray) (ms:Nat->Mk),es.length=k/\ns.length=k/\ms 0=m/\(∀j≤k,Adv m (ms j) (j*(c+1)))/\Seg m.temp (ms k).temp (yQ es) /\
   ∀(j:Nat) (hj:j<es.length) (hj':j<ns.length),∃mm:Mk,my bR [.ptr 0 0,.agg (zB t),.sl (envs j).length (qC (envs j)),int depth] (mkS (ms j)) (.agg (zJ es[j])) (mkS mm) /\
    my 133 [.ptr 0 0] (mkS mm) (.lit (.string ns[j])) (mkS (ms (j+1)))/\WT hs m.own (envs j) es[j] t/\es[j].num0:=by
 intro k;induction k with
 |zero =>
  intro hl;refine⟨[],[],fun _=>m,rfl,rfl,rfl,fun j hj=>?_,Seg.nil,fun j hj=>by simp at hj⟩;have:j=0:=by simpa using hj
  subst this;exact(Adv.zero m).mono (by simp)
 |succ k ih =>
  intro hl;have e1:(((k+1:Nat):Int))*(c+1)=k*(c+1)+(c+1):=by rw[jDa,Int.add_mul];simp
  rw[e1]at hl;obtain⟨es,ns,ms,q0,q1,q2,q3,q4,q5⟩:=ih (hl.mono (by omega));have a1:=q3 k (jA _);have hl1:=Lim.adv (c:=k*(c+1)) (c':=c+1) hl a1;obtain⟨e,mm,g1,g2,g3,g4,g5⟩:=hk (ms k) r t (envs k) (hx.adv a1) (hl1.mono (by omega)) hr hQ ((he k).mono a1.temp1) (h1 k) (h2 k);have hl2:=Lim.adv (c:=c) (c':=1) hl1 g2;obtain⟨s,hs⟩:=zDG mm hl2.name1 (by have:=hl2.name2;omega);have a2:=g2.trans (zAQ mm);refine⟨es++[e],ns++[s],fun j=>if j<=k then ms j else {mm with name:=mm.name+1},by simp[q0],by simp[q1],by simp[q2],fun j hj=>?_,?_,fun j hj hj'=>?_⟩
  .by_cases hle:j<=k
   .simp only[hle,if_true];exact q3 j hle
   .have:j=k+1:=by omega
    subst this;simp only[show ¬(k+1<=k) by omega,if_false];rw[e1];exact a1.trans a2
  .rw[oG];simp only[show ¬(k+1<=k) by omega,if_false];exact q4.append g4 a1.temp1 g2.temp1
  .simp only[jA5,jAz,q0]at hj;by_cases hlt:j<k
   .have hjes:j<es.length:=by omega
    have hjns:j<ns.length:=by omega
    rw[jBn hjes,jBn hjns];simp only[show j<=k by omega,if_true,show j+1<=k by omega];exact q5 j hjes hjns
   .have:j=k:=by omega
    subst this;rw[jC1 (by omega),jC1 (by omega)];simp only[jA,if_true,show ¬(j+1<=j) by omega,if_false,jBx,q0,q1,jCw];rw[a1.own]at g3;exact⟨mm,g1,hs,g3,g5⟩
theorem zSi{len:Nat}(hc:0<=c)(hl:Lim m (c+1))(x:Int)(hx0:0<=x)(hx1:x<=65536)(k:Nat)(h:k<hs.length)(h1:∀(j:Nat)(hj:j<k),hs[j].id≠hs[k].id)
 (h2:hs[k].kind=1)(h3:0<hs[k].slots.length)(h3':hs[k].slots.length<=6)(h4:∀s∈hs[k].slots,TyOk hs r s.typ)(hQ:Q r)
 (hk:dV hs R c (depth-1) Q len)(hx:Cx hs R m)(he:EnvOk hs R m.temp env)(h5:0<env.length)(h6:env.length<=len)(hd1 : -1000<=depth)(hd2:depth<=1000) :
 cN hs m.own zHY m [.ptr 0 0,.agg (zB (yO hs[k].id)),.sl env.length (qC env),int x,int depth] env (yO hs[k].id) (c+1):=by
 obtain⟨hm,hdv,hhd⟩:=zWH hx h h1;generalize hD:m.defs[k]=D at hdv hhd;have eid:D.id=hs[k].id:=by rw[<-hhd];rfl
 have eslots:D.slots=hs[k].slots:=by rw[<-hhd];rfl
 have ekind:D.kind=1:=by rw[<-h2,<-hhd];rfl
 have hdl:=hx.dlen;have hd100:=hx.len;have wd:=z8 (depth-1) (by omega);obtain⟨j,hj,hj1⟩:∃j:Nat,j<D.slots.length/\(j:Int)=if depth<0 then 0 else x.tmod D.slots.length:=by
  rw[eslots];by_cases hd:depth<0
  .exact⟨0,h3,by rw[if_pos hd];rfl⟩
  .refine⟨(x % hs[k].slots.length).toNat,?_,?_⟩
   .have:=jD3 x (b:=(hs[k].slots.length:Int)) (by omega);have:=jCx x (b:=(hs[k].slots.length:Int)) (by omega);omega
   .rw[if_neg hd,tmN hx0];have:=jCx x (b:=(hs[k].slots.length:Int)) (by omega);omega
 have hjs:j<hs[k].slots.length:=by rw[<-eslots];exact hj
 have hty:D.slots[j].typ=hs[k].slots[j].typ:=by simp only[eslots]
 obtain⟨e,m',g1,g2,g3,g4,g5⟩:=hk m r D.slots[j].typ env hx (hl.mono (by omega)) (by rw[hty];exact h4 _ (jA0 hjs)) hQ he h5 h6;have hln:=Lim.adv (c:=c) (c':=1) hl g2;obtain⟨l1,l2,l3,l4,l5,l6,l7,l8⟩:=hln;refine⟨.mk ⟨0,0,m'.temp⟩ 9 j hs[k].id Typ.zero [e] [],{m' with temp:=m'.temp+1,left:=m'.left-1},?_,g2.trans (aH _),.case _ _ k h j hjs e h2 (hty▸g3),by simp only[tmps,yQ,jBa];exact g4.append (Seg.one _) g2.temp1 (by omega),iX (by simpa using g5)⟩;refine ml qFD [87,77,147] [] [] [.cell 10 15 true] func131 (by kernel_rfl) ?_
 (conv in kH _ _ _=>cbv)
 simp[mkS,mkB,zB];refine⟨_,_,yN 1,?_⟩;simp[mkS,mkB,zB,List.replicate];refine zNr (zKr m.mods m.defs hs[k].id (by omega)) [1] (by decide) (by simp[zGa]) (by simp[zGa]) (by simp[zL]) (fun τ hτ=>by
  have:=zFd hτ (j:=1) (o:=.row false 41 31 m.defs.length (z6 m.defs)) (by simp) (by simp)
  simpa[zGa]using this) ?_
 rw[hdv];have hnil:D.slots≠[]:=fun e=>by rw[e]at hj;simp at hj
 have hdS:List.drop (j*11+4) (jN D.slots)=(j4 D.slots[j]++jN (D.slots.drop (j+1))).drop 4:=by rw[<-jBc,qW hj]
 have hbS:j*11+4+5<=D.slots.length*11:=by omega
 by_cases hd:depth<0
 .have hj0:j=0:=by rw[if_pos hd]at hj1;omega
  subst hj0;simp only[Nat.zero_mul,jB1]at hdS hbS;simp[mkS,mkB,zK,ekind,hnil,hd,hj,hdS,hbS,j4,wd];intro _;refine mr g1 [0,1] (by simp[mkS,mkB,zB]) ?_;simp[mkS,mkB];refine mr (aT m' 9 0 [e] l3 (by omega) (by omega) l6) [0,1] (by simp[mkS,mkB,zO]) ?_;simp[mkS,mkB,zJ];exact mv [0,1] 0 (by rfl) (by simp[zJ,zO,eid])
 .rw[if_neg hd]at hj1;simp[mkS,mkB,zK,ekind,hnil,hd,<-hj1,hj,hdS,hbS,j4,wd];intro _;refine mr g1 [0,1] (by simp[mkS,mkB,zB]) ?_;simp[mkS,mkB];refine mr (aT m' 9 j [e] l3 (by omega) (by omega) l6) [0,1] (by simp[mkS,mkB,zO]) ?_;simp[mkS,mkB,zJ];exact mv [0,1] 0 (by rfl) (by simp[zJ,zO,eid])
theorem zU9{len:Nat}(hc:0<=c)(hl:Lim m (6*c+1))(x:Int)(k:Nat)(h:k<hs.length)(h1:∀(j:Nat)(hj:j<k),hs[j].id≠hs[k].id)
 (h2:hs[k].kind=0)(h3':hs[k].slots.length<=6)(h4:∀s∈hs[k].slots,TyOk hs r s.typ)(hQ:Q r)
 (hk:dV hs R c (depth-1) Q len)(hx:Cx hs R m)(he:EnvOk hs R m.temp env)(h5:0<env.length)(h6:env.length<=len)(hd1 : -1000<=depth)(hd2:depth<=1000) :
 cN hs m.own zHY m [.ptr 0 0,.agg (zB (yO hs[k].id)),.sl env.length (qC env),int x,int depth] env (yO hs[k].id) (6*c+1):=by
 obtain⟨hm,hdv,hhd⟩:=zWH hx h h1;generalize hD:m.defs[k]=D at hdv hhd;have eid:D.id=hs[k].id:=by rw[<-hhd];rfl
 have eslots:D.slots=hs[k].slots:=by rw[<-hhd];rfl
 have ekind:D.kind=0:=by rw[<-h2,<-hhd];rfl
 have hdl:=hx.dlen;have hd100:=hx.len;have wd:=z8 (depth-1) (by omega);have hS6:D.slots.length<=6:=by rw[eslots];exact h3'
 have hsc:((D.slots.length:Int))*c<=6*c:=jDb (by omega) hc;obtain⟨es,ms,q1,q2,q3,q4,q5⟩:=zN9 hk hc env h5 h6 (D.slots.map (·.typ)) m hx (hl.mono (by rw[jAb];omega)) (fun t ht=>by obtain⟨s,hs',rfl⟩:=jAg.1 ht;exact⟨r,h4 s (eslots▸hs'),hQ⟩) he
 rw[jAb]at q1 q3 q4;have ha:=(q3 D.slots.length (jA _)).mono hsc;obtain⟨l1,l2,l3,l4,l5,l6,l7,l8⟩:=Lim.adv (c:=6*c) (c':=1) hl ha;refine⟨.mk ⟨0,0,(ms es.length).temp⟩ 7 0 hs[k].id Typ.zero es [],{ms es.length with temp:=(ms es.length).temp+1,left:=(ms es.length).left-1},?_,q1▸ha.trans (aH _),.record _ _ k h es h2 (by rw[<-eslots,q1]) fun j hj=>?_,
  by simp only[tmps];rw[q1];exact q4.append (Seg.one _) ha.temp1 (by omega),iX (zB2 rfl fun j hj=>(q5 j hj (by rw[jAb];omega)).2.2)⟩
 .rw[<-eid]at hdv ⊢;refine ml qFD [87,77,147] [] [] [.cell 10 15 true] func131 (by kernel_rfl) ?_
  (conv in kH _ _ _=>cbv)
  simp[mkS,mkB,zB];refine⟨_,_,yN 1,?_⟩;simp[mkS,mkB,zB,List.replicate];refine zNr (zKr m.mods m.defs D.id (by omega)) [1] (by decide) (by simp[zGa]) (by simp[zGa]) (by simp[zL]) (fun τ hτ=>by
   have:=zFd hτ (j:=1) (o:=.row false 41 31 m.defs.length (z6 m.defs)) (by simp) (by simp)
   simpa[zGa]using this) ?_
  rw[hdv];simp[mkS,mkB,zK,ekind];refine qO (S:=Nat) (fun i=>[(0,.ptr 0 0),(2,.sl env.length (qC env)),(4,int depth),(6,.ptr 2 0),(10,.ptr 3 0),(15,.ptr 4 0),(20,.row 5 i),(21,int i)])
   (fun i=>mkS (ms i)++[.box (zB (yO D.id)),.box (zJ Exp.zero),.box (zK D),.row false 39 15 i (qQ (es.take i))]) (fun i=>i<=es.length) (fun i=>es.length-i) 0 (by simp)
   ((yK (t:=20) (by simp) 39 15).trans (mw [0,1,2,3,4,5] 0 (by rfl) (by simp[mkS,mkB,zB,yO,q2,zJ,Exp.zero,Id.zero,Typ.zero,zK,ekind]))) ?_
  intro i hi;have hms:=q3 i (by omega);by_cases hi2:i<es.length
  .have hid:i<D.slots.length:=by omega
   obtain⟨g1,_,_⟩:=q5 i hi2 (by rw[jAb];omega);rw[jAt]at g1;have hst:qQ (es.take (i+1))=qQ (es.take i)++zJ es[i]:=bO hi2;have hw:=jY i (by omega);have hdS:List.drop (i*11+4) (jN D.slots)=(j4 D.slots[i]++jN (D.slots.drop (i+1))).drop 4:=by rw[<-jBc,qW hid]
   have hbS:i*11+4+5<=D.slots.length*11:=by omega
   simp[mkS,mkB,zK,hid,hdS,hbS,j4,wd];intro _;refine mr g1 [0,1] (by simp[mkS,mkB,zB]) ?_;simp[mkS,mkB];refine⟨⟨by simp[maxLen];omega,by omega⟩,?_⟩;exact zS (i+1) hi2 (by omega) (mw [0,1,2,3,4,5] 0 (by rfl) (by simp[mkS,mkB,zB,yO,zJ,Exp.zero,Id.zero,Typ.zero,hst,zK,hw]))
  .have hie:i=es.length:=by omega
   subst hie;have hid:¬es.length<D.slots.length:=by omega
   rw[<-q1]at l3 l4 l5 l6;simp[mkS,mkB,zK,hid];intro _;refine⟨qS [(0,.ptr 0 0),(10,.ptr 3 0),(15,.ptr 4 0),(20,.sl es.length (qQ es))],mkS (ms es.length)++[.box (zB (yO D.id)),.box (zJ Exp.zero),.box (zK D)],mw [0,1,2,3,4] 1 (by rfl) (by simp[mkS,mkB,zB,yO,zJ,Exp.zero,Id.zero,Typ.zero,zK]),?_⟩;simp[mkS,mkB];refine mr (aT (ms es.length) 7 0 es l3 (by omega) (by omega) l6) [0,1] (by simp[mkS,mkB]) ?_;simp[mkS,mkB,zJ,zK];exact mv [0,1] 0 (by rfl) (by simp[zJ])
 .have:=(q5 j hj (by rw[jAb];omega)).2.1;rw[jAt]at this
  simpa only[eslots]using this
theorem zSk{len:Nat}(hc:0<=c)(hl:Lim m (6*c+1))(x:Int)(hx0:0<=x)(hx1:x<=65536)(t:Typ)(hr:TyOk hs r t)(hQ:∀r'<r,Q r')
 (hk:dV hs R c (depth-1) Q len)(hx:Cx hs R m)(he:EnvOk hs R m.temp env)(h5:0<env.length)(h6:env.length<=len)(hd1 : -1000<=depth)(hd2:depth<=1000) :
 cN hs m.own zHY m [.ptr 0 0,.agg (zB t),.sl env.length (qC env),int x,int depth] env t (6*c+1):=by
 cases hr with
 |int r=>exact(zU8 (R:=R) (hl.mono (by omega)) x depth hx0 hx1).mono (by omega)
 |bool r=>exact(zSh (hl.mono (by omega)) x depth hx0).mono (by omega)
 |list r t h=>exact(zSj hc (hl.mono (by omega)) x hx0 t h (hQ r (by omega)) hk hx he h5 h6 hd1 hd2).mono (by omega)
 |dfn r k h h1 h2 h3 h4 =>
  rcases h2 with h2|⟨h2,h2'⟩
  .exact zU9 hc hl x k h h1 h2 h3 h4 (hQ r (by omega)) hk hx he h5 h6 hd1 hd2
  .exact(zSi hc (hl.mono (by omega)) x hx0 hx1 k h h1 h2 h2' h3 h4 (hQ r (by omega)) hk hx he h5 h6 hd1 hd2).mono (by omega)
def zWK:Nat->Option wD:=fun|2=>k_ [0,0,0,0,0,0,0,0,2,2,2,0,0,0,0]|_=>none
def uO(d:Dfn):Bool:=decide (d.kind=5)&&decide (d.slots.length=1)
def zIZ(p:Prg)(id:Id):A:=.tup [.agg (zK ((jH p.defs id).getD .zero)),bl ((jH p.defs id).isSome&&uO ((jH p.defs id).getD .zero))]
theorem zBc(p:Prg)(id:Id):my 56 [.agg (zN p),.agg (zL id)] [] (zIZ p id) []:=by
 have hP:=eP p;have hdf:=nO p id;unfold zIZ;unfold bL at hdf;generalize (jH p.defs id).getD .zero=d at *
 generalize (jH p.defs id).isSome=b at *
 refine ml zWK [14] [] [] [.cell 4 31 true,.slot 5] func56 (by kernel_rfl) ?_
 (conv in kH _ _ _=>cbv)
 simp[hP,zL];refine mu hdf (by simp[zN,zL]) ?_;simp[zK];refine⟨_,_,zP (l:=[(4,.ptr 0 0),(6,.rptr (zK d)),(7,bl b)]) (U':=[.box (kz0.map jJ)]) [2] 1 (by simp) (by simp) (by simp) (by simp[zK]),?_⟩;cases b
 .simp[zK];exact zA 0 (by simp[zK])
 .by_cases h0:d.kind=5
  .by_cases h1:d.slots.length=1
   .have h1':(d.slots.length:Int)=1:=by omega
    simp[zK,h0,h1']
    first|exact fun _=>zA 0 (by simp[zK,h0,uO,h1])|exact zA 0 (by simp[zK,h0,uO,h1])
   .have h1':¬(d.slots.length:Int)=1:=by omega
    simp[zK,h0,h1']
    first|exact fun _=>zA 0 (by simp[zK,h0,uO,h1])|exact zA 0 (by simp[zK,h0,uO,h1])
  .simp[zK,h0];exact zA 0 (by simp[zK,h0,uO])
theorem zL0{id:Id}:((jH p.defs id).isSome&&uO ((jH p.defs id).getD .zero))=(yG p id).isSome:=by
 unfold yG uO;cases jH p.defs id with
 |none=>rfl
 |some d =>
  simp only[Option.isSome_some,jBe,jBi];by_cases h:d.kind=5
  .rw[if_pos h]
   match hs:d.slots with
   |[]=>simp
   |[s]=>simp[h]
   |s::s'::l=>simp
  .rw[if_neg h];simp[h]
theorem zE8{id:Id}{a:Typ×Typ}(h:yG p id=some a):∃d s,jH p.defs id=some d/\d.kind=5/\d.slots=[s]/\a=(s.typ,d.res):=by
 unfold yG at h;cases hd:jH p.defs id with
 |none=>rw[hd]at h;cases h
 |some d =>
  rw[hd]at h;simp only at h;split at h
  .rename_i hk;split at h
   .rename_i s hs;cases h;exact⟨d,s,rfl,hk,hs,rfl⟩
   .cases h
  .cases h
def zWL:Nat->Option wD:=fun|11=>k_ [0,2002,0,2,0,1002,0,0]|_=>none
def zLF(p:Prg)(l:wF):Typ:=((yG p (l.getD 0 .zero)).getD (.zero,.zero)).1
def toN(p:Prg)(l:wF):Nat->Typ
 | 0=>.zero
 |n+1=>((yG p (l.getD n .zero)).getD (.zero,.zero)).2
def uW(p:Prg)(l:wF):Typ×Typ×Bool:=if lG p l=true then (if l=[]then .zero else zLF p l,toN p l l.length,decide (l≠[]))else (.zero,.zero,false)
def uV(p:Prg)(l:wF):A:=.tup [.agg (zB (uW p l).1),.agg (zB (uW p l).2.1),bl (uW p l).2.2]
theorem zNv(p:Prg)(l:wF)(hl:l.length<=1000000):my 44 [.agg (zN p),.sl l.length (zV l)] [] (uV p l) []:=by
 have hP:=eP p;refine mn zWL [] [.cell 4 5 true,.cell 5 5 true,.slot 6] func44 (by kernel_rfl) ?_
 (conv in zY _ _ _ _=>cbv)
 simp[hP];intro hlm;refine qO (S:=Nat) (fun i=>[(1,.sl l.length (zV l)),(2,.ptr 0 0),(4,.ptr 1 0),(5,.ptr 2 0),(11,.sl l.length (zV l)),(12,int l.length),(13,int i)]) (fun i=>[.box (zN p),.box (zB (if i=0 then .zero else zLF p l)),.box (zB (toN p l i))])
  (fun i=>i<=l.length/\gK p l i=true) (fun i=>l.length-i) 0 (by simp[gK])
  (mw [0,1,2] 0 (by rfl) (by simp[hP,zB,toN,Typ.zero,Id.zero])) ?_
 rintro i ⟨hi,hp⟩;by_cases h:i<l.length
 .have hgd:l.getD i .zero=l[i]:=by rw[jB7,jA1 h,jBe]
  have hq:l[i]?=some l[i]:=jA1 h;have hw:=jY i (by omega);simp[hP,h,yA h];refine mu (zBc p l[i]) (by simp[hP,zL,zIZ]) ?_;rw[zIZ,zL0];cases hc:yG p l[i]with
  |none =>
   have hbad:lG p l=false:=xL h (by rw[oF,hgd,hc]);simp[zB];exact zA 0 (by simp[uV,uW,hbad,zB,Typ.zero,Id.zero])
  |some a =>
   obtain⟨d,s,hd,hk,hs,rfl⟩:=zE8 hc;have hcs:jN [s]=j4 s:=by simp[jN]
   have hfro:l.getD 0 .zero=l[0]:=by rw[jB7,jA1 (by omega),jBe]
   by_cases h0:i=0
   .subst h0;simp[hP,hd,zB,zK,hs,hcs,j4];refine zS 1 ⟨h,by simp[gK,oF,hq,hc]⟩ (by omega) (mw [0,1,2] 0 (by rfl) (by simp[hP,zB,toN,zLF,hq,hc,show IntKind.i64.wrap 1=1 from by decide]))
   .have hi0:(0:Int)<i:=by omega
    obtain⟨j,rfl⟩:∃j,i=j+1:=⟨i-1,by omega⟩;have hqj:l[j]?=some l[j]:=jA1 (by omega);have hgj:l.getD j .zero=l[j]:=by rw[jB7,jA1 (by omega),jBe]
    obtain⟨b,hb⟩:∃b,yG p l[j]=some b:=by
     simp only[gK,jA6]at hp;have h2:=hp.2;rw[oF,hgj]at h2;cases hb:yG p l[j]with
     |none=>rw[hb]at h2;cases h2
     |some b=>exact⟨b,rfl⟩
    have hto:toN p l (j+1)=b.2:=by simp[toN,hqj,hb]
    have hst:oF p l (j+1)=y7 s.typ b.2:=by rw[oF,hgd,hc];simp[hqj,hb]
    simp[hP,hd,zB,zK,hs,hcs,j4,hi0];refine qA (zDs s.typ (toN p l (j+1))) (by simp[zB]) (by simp) ?_;rw[hto];cases hsm:y7 s.typ b.2
    .have hbad:lG p l=false:=xL h (by rw[hst,hsm]);simp[zB];exact zA 0 (by simp[uV,uW,hbad,zB,Typ.zero,Id.zero])
    .have hn1:¬((j:Int)+1=0):=by omega
     simp[hP,zB,zK,hn1];refine zS (j+2) ⟨h,by rw[gK,hp,hst,hsm];rfl⟩ (by omega) (kf [0,1,2] 0 (by rfl) (by simp[hP,zB,toN,hq,hc]) (by simp[show IntKind.i64.wrap ((j:Int)+1+1)=(j:Int)+2 from IntWalk.i64_in _ (by omega)]))
 .have hi':i=l.length:=by omega
  subst hi';have hpv:lG p l=true:=hp;have hpos:((0:Int)<l.length)=(l≠[]):=by apply propext;rw[<-List.length_pos_iff];omega
  simp[hP,zB,hpos]
  first|exact fun _=>zA 0 (by simp[uV,uW,hpv,zB,List.length_pos_iff])|exact zA 0 (by simp[uV,uW,hpv,zB,List.length_pos_iff])
theorem vP(p:Prg)(hL:p.defs.length<=1000000)(t:Typ)(v:Val):my 91 [.agg (zN p),.agg (zB t),.agg (zC v)] [] (bl (aO p t v)) []:=by
 refine mq [] [.slot 6] func91 (by kernel_rfl) ?_
 (conv in kq _ _=>cbv)
 simp[zN,zB,zC];refine mu (zDn p hL t) (by simp[zN,zB]) ?_;cases hv:validT p t with
 |false =>
  simp;exact zA 0 (by simp[zJo hv])
 |true =>
 by_cases h0:t.k=0
 .have e:aO p t v=(decide (v.k=0)&&decide (v.kids.length=0)&&decide (-1099511627776<=v.n)&&decide (v.n<=1099511627776)):=by rw[dN,hv,if_pos h0,jBi]
  by_cases c1:v.k=0
  .by_cases c2:v.kids.length=0
   .by_cases c3 : -1099511627776<=v.n
    all_goals
     simp[hv,h0,c1,c2,c3];exact zA 0 (by rw[e];simp[c1,c2,c3])
   .simp[hv,h0,c1,c2];exact fun _=>zA 0 (by rw[e];simp[c1,c2])
  .simp[hv,h0,c1];exact zA 0 (by rw[e];simp[c1])
 by_cases h1:t.k=1
 .have e:aO p t v=(decide (v.k=1)&&decide (v.kids.length=0)&&(decide (v.n=0)||decide (v.n=1))):=by rw[dN,hv,if_neg h0,if_pos h1,jBi]
  by_cases c1:v.k=1
  .by_cases c2:v.kids.length=0
   .by_cases c3:v.n=0
    all_goals
     simp[hv,h1,c1,c2,c3];exact zA 0 (by rw[e];simp[c1,c2,c3])
   .simp[hv,h1,c1,c2];exact fun _=>zA 0 (by rw[e];simp[c1,c2])
  .simp[hv,h1,c1];exact zA 0 (by rw[e];simp[c1])
 by_cases h2:t.k=2
 .obtain⟨x,hx⟩:=zF5 hv h2;have e:aO p t v=(decide (v.k=4)&&decide (v.n=0)&&v.kids.all (aO p x)):=by rw[dN,hv,if_neg h0,if_neg h1,if_pos h2,jBi,hx];rfl
  simp[hv,h2,hx];refine qO (S:=Nat) (fun i=>[(3,.ptr 0 0),(4,.ptr 1 0),(5,.ptr 2 0),(7,int i)])
   (fun i=>[.box (zN p),.box (zB t),.box (zC v)]) (fun i=>i<=v.kids.length/\v.kids.all (aO p x)=(v.kids.drop i).all (aO p x)) (fun i=>v.kids.length-i) 0 (by simp)
   (mw [0,1,2] 0 (by rfl) (by simp[zN,zB,zC,h2,hx])) ?_
  rintro i ⟨hi,ho⟩;by_cases hil:i<v.kids.length
  .have d1:v.kids.drop i=v.kids[i]::v.kids.drop (i+1):=jAp hil;simp[hil,qT hil,zN,zB,zC,hx,qN];intro hl;refine qA (vP p hL x v.kids[i]) (by simp[zN,zB,zC]) (by simp) ?_;cases hf:aO p x v.kids[i]with
   |true =>
    simp;exact zS (i+1) ⟨hil,by rw[ho,d1,List.all_cons,hf,jBi]⟩ (by omega) (mw [0,1,2] 0 (by rfl) (by simp[zN,zB,zC,hx,qN,qF hil hl]))
   |false =>
    simp;exact zA 0 (by rw[e,ho,d1,List.all_cons,hf];simp)
  .have:i=v.kids.length:=by omega
   subst this;rw[jCj (jA v.kids.length)]at ho;by_cases c1:v.k=4
   all_goals
    simp[zN,zB,zC,c1];exact fun _=>zA 0 (by rw[e,ho];simp[c1])
 have e:=dN p t v;rw[hv,if_neg h0,if_neg h1,if_neg h2,jBi]at e;simp[hv,h0,h1,h2];refine mu (lP p hL t.id) (by simp[zN,zL,bL]) ?_;have hD:(jH p.defs t.id).getD .zero=dfn p t.id:=rfl;generalize dfn p t.id=D at hD e;by_cases hk:D.kind=1
 .rw[if_pos hk]at e;by_cases c1:v.k=3
  .by_cases c2:0<=v.n
   .by_cases c3:v.n<D.slots.length
    .by_cases c4:v.kids.length=1
     .obtain⟨x,hx⟩:∃x,v.kids=[x]:=List.length_eq_one_iff.1 c4;obtain⟨i,hi⟩:∃i:Nat,v.n=i:=⟨v.n.toNat,by omega⟩;have hil:i<D.slots.length:=by omega
      have hil':¬D.slots.length<=i:=by omega
      have hi0:¬((i:Int)<0):=by omega
      simp[bL,hD,zK,hk,c1,hi,hi0,hil,hil',hx,qW hil,j4];intro _ _;refine qA (vP p hL D.slots[i].typ x) (by simp[zN,zB,zC]) (by simp) ?_;simp;exact zA 0 (by rw[e];simp[c1,hi,hil,hx,zJn])
     .have c4':¬(v.kids.length:Int)=1:=by omega
      have c3':¬(D.slots.length:Int)<=v.n:=by omega
      have c2':¬v.n<0:=by omega
      simp[bL,hD,zK,hk,c1,c2',c3',c4']
      first|exact zA 0 (by rw[e];simp[c1,c2,c3,c4])|exact fun _=>zA 0 (by rw[e];simp[c1,c2,c3,c4])|exact fun _ _=>zA 0 (by rw[e];simp[c1,c2,c3,c4])
    .have c3':(D.slots.length:Int)<=v.n:=by omega
     have c2':¬v.n<0:=by omega
     simp[bL,hD,zK,hk,c1,c2',c3']
     first|exact zA 0 (by rw[e];simp[c1,c2,c3])|exact fun _=>zA 0 (by rw[e];simp[c1,c2,c3])
   .have c2':v.n<0:=by omega
    simp[bL,hD,zK,hk,c1,c2'];exact zA 0 (by rw[e];simp[c1,c2])
  .simp[bL,hD,zK,hk,c1];exact zA 0 (by rw[e];simp[c1])
 rw[if_neg hk]at e;by_cases c1:v.k=2
 .by_cases c2:v.n=0
  .by_cases c3:v.kids.length=D.slots.length
   .simp[bL,hD,zK,hk,c1,c2,c3];intro hl;refine qO (S:=Nat) (fun i=>[(3,.ptr 0 0),(5,.ptr 2 0),(8,.ptr 3 0),(10,int i)])
     (fun i=>[.box (zN p),.box (zB t),.box (zC v),.box (zK D)]) (fun i=>i<=v.kids.length/\dF p (D.slots.map Slt.typ) v.kids=dF p ((D.slots.map Slt.typ).drop i) (v.kids.drop i)) (fun i=>v.kids.length-i) 0 (by simp)
     (mw [0,1,2,3] 0 (by rfl) (by simp[zN,zB,zC,zK,hk,c1,c2,c3])) ?_
    rintro i ⟨hi,ho⟩;by_cases hil:i<v.kids.length
    .have hiD:i<D.slots.length:=by omega
     have d1:v.kids.drop i=v.kids[i]::v.kids.drop (i+1):=jAp hil;have d2:(D.slots.map Slt.typ).drop i=D.slots[i].typ::(D.slots.map Slt.typ).drop (i+1):=by rw[jAp (by simpa using hiD)];simp
     simp[hil,hiD,qT hil,qW hiD,zN,zK,j4,zC];intro _;refine qA (vP p hL D.slots[i].typ v.kids[i]) (by simp[zN,zB,zC]) (by simp) ?_;cases hf:aO p D.slots[i].typ v.kids[i]with
     |true =>
      simp;exact zS (i+1) ⟨hil,by rw[ho,d1,d2];simp[dF,hf]⟩ (by omega) (mw [0,1,2,3] 0 (by rfl) (by simp[zN,zB,zC,zK,qF hil (c3▸hl)]))
     |false =>
      simp;exact zA 0 (by rw[e,ho,d1,d2];simp[dF,hf])
    .have:i=v.kids.length:=by omega
     subst this;simp[zN,zC]
     first|exact zA 0 (by rw[e,ho,jCj (jA v.kids.length),zCl];simp[c1,c2,c3])|exact fun _=>zA 0 (by rw[e,ho,jCj (jA v.kids.length),zCl];simp[c1,c2,c3])
   .have c3':¬(v.kids.length:Int)=D.slots.length:=by omega
    simp[bL,hD,zK,hk,c1,c2,c3']
    first|exact zA 0 (by rw[e];simp[c1,c2,c3])|exact fun _=>zA 0 (by rw[e];simp[c1,c2,c3])|exact fun _ _=>zA 0 (by rw[e];simp[c1,c2,c3])
  .simp[bL,hD,zK,hk,c1,c2];exact zA 0 (by rw[e];simp[c1,c2])
 .simp[bL,hD,zK,hk,c1];exact zA 0 (by rw[e];simp[c1])
termination_by zZ v
decreasing_by
 .exact y4 (jA0 _)
 .exact y4 (by simp[hx])
 .exact y4 (jA0 _)
def qFF:Nat->Option wD:=fun|5=>k_ [0,0,0,0,2,2,2002,0,0,0,0,0,1002,0,4,0] | 20=>k_ [0,0,2002,0,0,0,0,0,1002,0,4,0] | 23=>k_ [0,2002,0,0,0,0,0,1002,0,4,0]|_=>none
variable{x:Operand}
@[simp]theorem qHy{d:wC}{n:Nat}{g:Bool}{env:Env}:cQ 2002 (.ld d x n g) env=fH 2 (ev env x):=propext (xQ (by omega) (by omega))
@[simp]theorem zZZ{d:wC}{l:List Operand}{env:Env}:cQ 1002 (.call d x l) env=True:=rfl
@[simp]theorem zWU{c l o:Nat}:fH c (.ptr l o)=(c<=l):=rfl
abbrev opF:FuncId:=138
theorem zAI{len:Nat}(hk:dV hs R c depth Q len)(hx:Cx hs R m){c':Int}(hl:Lim m (2*c+c'))(hc:0<=c)(hc':0<=c')(he:EnvOk hs R m.temp env)(h1:0<env.length)(h2:env.length<=len)
 (t u:Typ){r':Nat}(ht:TyOk hs r t)(hu:TyOk hs r' u)(hQ:Q r)(hQ':Q r') :
 ∃(a b:Exp) (m1 m2:Mk),my bR [.ptr 0 0,.agg (zB t),.sl env.length (qC env),int depth] (mkS m) (.agg (zJ a)) (mkS m1) /\
  my bR [.ptr 0 0,.agg (zB u),.sl env.length (qC env),int depth] (mkS m1) (.agg (zJ b)) (mkS m2) /\
  Adv m m2 (2*c)/\WT hs m.own env a t/\WT hs m.own env b u/\Seg m.temp m2.temp (tmps a++tmps b)/\a.num0/\b.num0/\Lim m2 c':=by
 obtain⟨a,m1,g1,g2,g3,g4,g5⟩:=hk m r t env hx (hl.mono (by omega)) ht hQ he h1 h2;have hl1:Lim m1 (c+c'):=Lim.adv (c:=c) (hl.mono (by omega)) g2;obtain⟨b,m2,k1,k2,k3,k4,k5⟩:=hk m1 r' u env (hx.adv g2) (hl1.mono (by omega)) hu hQ' (he.mono g2.temp1) h1 h2;rw[g2.own]at k3;exact⟨a,b,m1,m2,g1,k1,(g2.trans k2).mono (by omega),g3,k3,g4.append k4 g2.temp1 k2.temp1,g5,k5,Lim.adv hl1 k2⟩
variable{a:Exp}
theorem tG{b:Exp}{t0 t1:Int}{k n:Int}(h:Seg t0 t1 (tmps a++tmps b))(h1:t0<=t1):Seg t0 (t1+1) (tmps (.mk ⟨0,0,t1⟩ k n Id.zero Typ.zero [a,b] [])):=by simp only[tmps,yQ,jBa];exact h.append (Seg.one _) h1 (by omega)
theorem nY{b:Exp}{c k n:Int}(h1:a.num0)(h2:b.num0):(Exp.mk ⟨0,0,c⟩ k n Id.zero Typ.zero [a,b] []).num0:=iX (by simp[h1,h2])
theorem zEP{c k n:Int}{r:Id}(h1:a.num0):(Exp.mk ⟨0,0,c⟩ k n r Typ.zero [a] []).num0:=iX (by simp[h1])
theorem zIp{t0 t1:Int}{k n:Int}{r:Id}(h:Seg t0 t1 (tmps a))(h1:t0<=t1):Seg t0 (t1+1) (tmps (.mk ⟨0,0,t1⟩ k n r Typ.zero [a] [])):=by simp only[tmps,yQ,jBa];exact h.append (Seg.one _) h1 (by omega)
theorem zEC:my 126 [.agg (zB jK)] [] (.agg (zB (j8 jK))) []:=zU7 jK
theorem zZ1{len:Nat}(hc:0<=c)(hl2:Lim m (2*c+1))(x:Int)(hx0:0<=x)(hx1:x<=65536)
 (hk:dV hs R c (depth-1) (fun r=>r<=R) len)(hR:1<=R)(hx:Cx hs R m)(he:EnvOk hs R m.temp env)(h1:0<env.length)(h2:env.length<=len)(h3:env.length<=1000)(hd1 : -1000<=depth)(hd2:depth<=1000) :
 cN hs m.own opF m [.ptr 0 0,.agg (zB jK),.sl env.length (qC env),int x,int depth] env jK (2*c+1):=by
 have e6:x.tmod 6=x % 6:=tmN hx0;have e5:x.tmod 5=x % 5:=tmN hx0;have wd:=z8 (depth-1) (by omega);by_cases h6:x.tmod 6=5
 .obtain⟨a,m1,g1,k2,k3,k4,k5⟩:=hk m 1 (j8 jK) env hx (hl2.mono (by omega)) (.list _ _ (.int _)) hR he h1 h2;obtain⟨l1,l2,l3,l4,l5,l6,l7,l8⟩:=Lim.adv (c:=c) (c':=1) (hl2.mono (by omega)) k2;refine⟨.mk ⟨0,0,m1.temp⟩ 4 11 Id.zero Typ.zero [a] [],{m1 with temp:=m1.temp+1,left:=m1.left-1},?_,(k2.trans (aH _)).mono (by omega),.len _ _ _ _ k3,zIp k4 k2.temp1,zEP k5⟩;refine mn qFF [] [.cell 10 15 true] func138 (by kernel_rfl) ?_
  (conv in zY _ _ _ _=>cbv)
  simp[mkS,mkB,zB,jK,h6];refine mu zEC (by simp[zB,jK]) ?_;simp[mkS,mkB,zB,wd];refine mr g1 [0,1] (by simp[mkS,mkB,zB,j8]) ?_;simp[mkS,mkB];refine mr (aT m1 4 11 [a] l3 (by omega) (by omega) l6) [0,1] (by simp[mkS,mkB,zO]) ?_;simp[mkS,mkB];exact mv [0,1] 0 (by rfl) (by simp[zJ,zO])
 .obtain⟨a,b,m1,m2,g1,g2,k2,k3,k3',k4,k5,k6,hln⟩:=zAI (t:=jK) (u:=jK) (c':=1) hk hx hl2 hc (by omega) he h1 h2 (.int 0) (.int 0) (by omega) (by omega);obtain⟨l1,l2,l3,l4,l5,l6,l7,l8⟩:=hln;obtain⟨rest,hA⟩:∃rest,List.drop (x.tmod 5).toNat [A.lit (.int .i64 0),A.lit (.int .i64 1),A.lit (.int .i64 2),A.lit (.int .i64 3),A.lit (.int .i64 4)]=A.lit (.int .i64 (x.tmod 5))::rest:=by
   have:x.tmod 5=0\/x.tmod 5=1\/x.tmod 5=2\/x.tmod 5=3\/x.tmod 5=4:=by omega
   rcases this with e|e|e|e|e<;>rw[e]<;>exact⟨_,rfl⟩
  have a0:0<=x.tmod 5:=by omega
  have a1:(x.tmod 5).toNat<5:=by omega
  have a1':x.tmod 5<5:=by omega
  refine⟨.mk ⟨0,0,m2.temp⟩ 4 (x.tmod 5) Id.zero Typ.zero [a,b] [],{m2 with temp:=m2.temp+1,left:=m2.left-1},?_,k2.trans (aH _),.arith _ _ _ _ _ a0 (by omega) k3 k3',tG k4 k2.temp1,nY k5 k6⟩;refine mn qFF [] [.cell 10 15 true] func138 (by kernel_rfl) ?_
  (conv in zY _ _ _ _=>cbv)
  simp[mkS,mkB,zB,jK,h6,wd];refine mr g1 [0,1] (by simp[mkS,mkB,zB]) ?_;simp[mkS,mkB,zB,hA,a0,a1,a1',wd];refine aK g2 [0,1] (by decide) (by simp[mkS,mkB]) (by simp[zB]) (by decide) (by simp) (by simp[mkS]) ?_;simp[mkS,mkB];refine bV (aT m2 4 (x.tmod 5) [a,b] l3 (by omega) (by omega) l6) [0,1] (by decide) (by simp[mkS,mkB]) (by simp[zO]) ?_;simp[mkS,mkB,zJ,zO];exact mv [0,1] 0 (by rfl) (by simp[zJ,zO])
theorem zUS{len:Nat}(hc:0<=c)(hl2:Lim m (2*c+1))(x:Int)(hx0:0<=x)(hx1:x<=65536)
 (hk:dV hs R c (depth-1) (fun r=>r<=R) len)(hR:1<=R)(hx:Cx hs R m)(he:EnvOk hs R m.temp env)(h1:0<env.length)(h2:env.length<=len)(h3:env.length<=1000)(hd1 : -1000<=depth)(hd2:depth<=1000) :
 cN hs m.own opF m [.ptr 0 0,.agg (zB jR),.sl env.length (qC env),int x,int depth] env jR (2*c+1):=by
 have e6:x.tmod 6=x % 6:=tmN hx0;have d6:x.tdiv 6=x / 6:=tdN hx0;have wd:=z8 (depth-1) (by omega);have w0:IntKind.i64.wrap 0=0:=IntWalk.i64_in _ (by omega);have w1:IntKind.i64.wrap 1=1:=IntWalk.i64_in _ (by omega);have:x.tmod 6=0\/x.tmod 6=1\/x.tmod 6=2\/x.tmod 6=3\/x.tmod 6=4\/x.tmod 6=5:=by omega
 rcases this with e|e|e|e|e|e
 .obtain⟨a,m1,g1,k2,k3,k4,k5⟩:=hk m 0 jR env hx (hl2.mono (by omega)) (.bool _) (by omega) he h1 h2;obtain⟨l1,l2,l3,l4,l5,l6,l7,l8⟩:=Lim.adv (c:=c) (c':=1) (hl2.mono (by omega)) k2;refine⟨.mk ⟨0,0,m1.temp⟩ 4 9 Id.zero Typ.zero [a] [],{m1 with temp:=m1.temp+1,left:=m1.left-1},?_,(k2.trans (aH _)).mono (by omega),.not _ _ _ k3,zIp k4 k2.temp1,zEP k5⟩;refine mn qFF [] [.cell 10 15 true] func138 (by kernel_rfl) ?_
  (conv in zY _ _ _ _=>cbv)
  simp[mkS,mkB,zB,jR,e,wd];refine mr g1 [0,1] (by simp[mkS,mkB,zB]) ?_;simp[mkS,mkB];refine mr (aT m1 4 9 [a] l3 (by omega) (by omega) l6) [0,1] (by simp[mkS,mkB,zO]) ?_;simp[mkS,mkB];exact mv [0,1] 0 (by rfl) (by simp[zJ,zO])
 .obtain⟨a,b,m1,m2,g1,g2,k2,k3,k3',k4,k5,k6,hln⟩:=zAI (t:=jK) (u:=jK) (c':=1) hk hx hl2 hc (by omega) he h1 h2 (.int 0) (.int 0) (by omega) (by omega);obtain⟨l1,l2,l3,l4,l5,l6,l7,l8⟩:=hln;refine⟨.mk ⟨0,0,m2.temp⟩ 4 5 Id.zero Typ.zero [a,b] [],{m2 with temp:=m2.temp+1,left:=m2.left-1},?_,k2.trans (aH _),.less _ _ _ _ k3 k3',tG k4 k2.temp1,nY k5 k6⟩;refine mn qFF [] [.cell 10 15 true] func138 (by kernel_rfl) ?_
  (conv in zY _ _ _ _=>cbv)
  simp[mkS,mkB,zB,jR,e,wd];refine mr g1 [0,1] (by simp[mkS,mkB,zB]) ?_;simp[mkS,mkB,zB,wd];refine aK g2 [0,1] (by decide) (by simp[mkS,mkB]) (by simp[zB]) (by decide) (by simp) (by simp[mkS]) ?_;simp[mkS,mkB];refine bV (aT m2 4 5 [a,b] l3 (by omega) (by omega) l6) [0,1] (by decide) (by simp[mkS,mkB]) (by simp[zO]) ?_;simp[mkS,mkB,zJ,zO];exact mv [0,1] 0 (by rfl) (by simp[zJ,zO])
 .obtain⟨a,b,m1,m2,g1,g2,k2,k3,k3',k4,k5,k6,hln⟩:=zAI (t:=jK) (u:=jK) (c':=1) hk hx hl2 hc (by omega) he h1 h2 (.int 0) (.int 0) (by omega) (by omega);obtain⟨l1,l2,l3,l4,l5,l6,l7,l8⟩:=hln;refine⟨.mk ⟨0,0,m2.temp⟩ 4 6 Id.zero Typ.zero [a,b] [],{m2 with temp:=m2.temp+1,left:=m2.left-1},?_,k2.trans (aH _),.same _ _ _ _ jK k3 k3',tG k4 k2.temp1,nY k5 k6⟩;refine mn qFF [] [.cell 10 15 true] func138 (by kernel_rfl) ?_
  (conv in zY _ _ _ _=>cbv)
  simp[mkS,mkB,zB,jR,e,wd];refine mr g1 [0,1] (by simp[mkS,mkB,zB]) ?_;simp[mkS,mkB,zB,wd];refine aK g2 [0,1] (by decide) (by simp[mkS,mkB]) (by simp[zB]) (by decide) (by simp) (by simp[mkS]) ?_;simp[mkS,mkB];refine bV (aT m2 4 6 [a,b] l3 (by omega) (by omega) l6) [0,1] (by decide) (by simp[mkS,mkB]) (by simp[zO]) ?_;simp[mkS,mkB,zJ,zO];exact mv [0,1] 0 (by rfl) (by simp[zJ,zO])
 .obtain⟨j,hj,e1⟩:∃j:Nat,j<env.length/\(x.tdiv 6).tmod (env.length:Int)=j:=by
   have q0:0<=x.tdiv 6:=by omega
   have q1:=jD3 (x.tdiv 6) (b:=(env.length:Int)) (by omega);have q2:=jCx (x.tdiv 6) (b:=(env.length:Int)) (by omega);exact⟨((x.tdiv 6) % env.length).toNat,by omega,by rw[tmN q0];omega⟩
  have hdr:=iA hj;have hdr4:List.drop (j*9+4) (qC env)=(cO env[j]++qC (env.drop (j+1))).drop 4:=by rw[<-jBc,hdr]
  have hb4:j*9+4+5<=env.length*9:=by omega
  have hne:¬((env.length:Int)=0):=by omega
  have hnil:env≠[]:=fun e=>by rw[e]at h1;simp at h1
  have htu:=he.typs env[j] (jA0 hj);have w6:=z8 (x.tdiv 6) (by omega);obtain⟨a,b,m1,m2,g1,g2,k2,k3,k3',k4,k5,k6,hln⟩:=zAI (t:=env[j].typ) (u:=env[j].typ) (c':=1) hk hx hl2 hc (by omega) he h1 h2 htu htu (by omega) (by omega);obtain⟨l1,l2,l3,l4,l5,l6,l7,l8⟩:=hln;refine⟨.mk ⟨0,0,m2.temp⟩ 4 6 Id.zero Typ.zero [a,b] [],{m2 with temp:=m2.temp+1,left:=m2.left-1},?_,k2.trans (aH _),.same _ _ _ _ env[j].typ k3 k3',tG k4 k2.temp1,nY k5 k6⟩;refine mn qFF [] [.cell 10 15 true] func138 (by kernel_rfl) ?_
  (conv in zY _ _ _ _=>cbv)
  simp[mkS,mkB,zB,jR,e,wd,e1,hne,hnil,hj,hdr4,hb4,cO,w6];intro _;refine mr g1 [0,1] (by simp[mkS,mkB,zB]) ?_;simp[mkS,mkB,zB,wd];refine aK g2 [0,1] (by decide) (by simp[mkS,mkB]) (by simp[zB]) (by decide) (by simp) (by simp[mkS]) ?_;simp[mkS,mkB];refine bV (aT m2 4 6 [a,b] l3 (by omega) (by omega) l6) [0,1] (by decide) (by simp[mkS,mkB]) (by simp[zO]) ?_;simp[mkS,mkB,zJ,zO];exact mv [0,1] 0 (by rfl) (by simp[zJ,zO])
 .obtain⟨a,b,m1,m2,g1,g2,k2,k3,k3',k4,k5,k6,hln⟩:=zAI (t:=jR) (u:=jR) (c':=1) hk hx hl2 hc (by omega) he h1 h2 (.bool 0) (.bool 0) (by omega) (by omega);obtain⟨l1,l2,l3,l4,l5,l6,l7,l8⟩:=hln;refine⟨.mk ⟨0,0,m2.temp⟩ 4 7 Id.zero Typ.zero [a,b] [],{m2 with temp:=m2.temp+1,left:=m2.left-1},?_,k2.trans (aH _),.andor _ _ _ _ _ (.inl rfl) k3 k3',tG k4 k2.temp1,nY k5 k6⟩;refine mn qFF [] [.cell 10 15 true] func138 (by kernel_rfl) ?_
  (conv in zY _ _ _ _=>cbv)
  simp[mkS,mkB,zB,jR,e,wd,w0];refine mr g1 [0,1] (by simp[mkS,mkB,zB]) ?_;simp[mkS,mkB,zB,wd];refine aK g2 [0,1] (by decide) (by simp[mkS,mkB]) (by simp[zB]) (by decide) (by simp) (by simp[mkS]) ?_;simp[mkS,mkB];refine bV (aT m2 4 7 [a,b] l3 (by omega) (by omega) l6) [0,1] (by decide) (by simp[mkS,mkB]) (by simp[zO]) ?_;simp[mkS,mkB,zJ,zO];exact mv [0,1] 0 (by rfl) (by simp[zJ,zO])
 .obtain⟨a,b,m1,m2,g1,g2,k2,k3,k3',k4,k5,k6,hln⟩:=zAI (t:=jR) (u:=jR) (c':=1) hk hx hl2 hc (by omega) he h1 h2 (.bool 0) (.bool 0) (by omega) (by omega);obtain⟨l1,l2,l3,l4,l5,l6,l7,l8⟩:=hln;refine⟨.mk ⟨0,0,m2.temp⟩ 4 8 Id.zero Typ.zero [a,b] [],{m2 with temp:=m2.temp+1,left:=m2.left-1},?_,k2.trans (aH _),.andor _ _ _ _ _ (.inr rfl) k3 k3',tG k4 k2.temp1,nY k5 k6⟩;refine mn qFF [] [.cell 10 15 true] func138 (by kernel_rfl) ?_
  (conv in zY _ _ _ _=>cbv)
  simp[mkS,mkB,zB,jR,e,wd,w1];refine mr g1 [0,1] (by simp[mkS,mkB,zB]) ?_;simp[mkS,mkB,zB,wd];refine aK g2 [0,1] (by decide) (by simp[mkS,mkB]) (by simp[zB]) (by decide) (by simp) (by simp[mkS]) ?_;simp[mkS,mkB];refine bV (aT m2 4 8 [a,b] l3 (by omega) (by omega) l6) [0,1] (by decide) (by simp[mkS,mkB]) (by simp[zO]) ?_;simp[mkS,mkB,zJ,zO];exact mv [0,1] 0 (by rfl) (by simp[zJ,zO])
theorem zUT{len:Nat}(hc:0<=c)(hl2:Lim m (2*c+1))(x:Int)(hx0:0<=x)(hx1:x<=65536)
 (hk:dV hs R c (depth-1) (fun r=>r<=R) len)(hR:1<=R)(hx:Cx hs R m)(he:EnvOk hs R m.temp env)(h1:0<env.length)(h2:env.length<=len)(h3:env.length<=1000)(hd1 : -1000<=depth)(hd2:depth<=1000)(t:Typ)(ht:TyOk hs R (j8 t))(h5:x.tmod 2=0) :
 cN hs m.own opF m [.ptr 0 0,.agg (zB (j8 t)),.sl env.length (qC env),int x,int depth] env (j8 t) (2*c+1):=by
 have wd:=z8 (depth-1) (by omega);obtain⟨a,b,m1,m2,g1,g2,k2,k3,k3',k4,k5,k6,hln⟩:=zAI (t:=(j8 t)) (u:=(j8 t)) (c':=1) hk hx hl2 hc (by omega) he h1 h2 ht ht (by omega) (by omega);obtain⟨l1,l2,l3,l4,l5,l6,l7,l8⟩:=hln;refine⟨.mk ⟨0,0,m2.temp⟩ 4 10 Id.zero Typ.zero [a,b] [],{m2 with temp:=m2.temp+1,left:=m2.left-1},?_,k2.trans (aH _),.join _ _ _ _ _ k3 k3',tG k4 k2.temp1,nY k5 k6⟩;refine mn qFF [] [.cell 10 15 true] func138 (by kernel_rfl) ?_
 (conv in zY _ _ _ _=>cbv)
 simp[mkS,mkB,zB,j8,h5,wd];refine mr g1 [0,1] (by simp[mkS,mkB,zB,j8]) ?_;simp[mkS,mkB,zB,wd];refine aK g2 [0,1] (by decide) (by simp[mkS,mkB]) (by simp[zB,j8]) (by decide) (by simp) (by simp[mkS]) ?_;simp[mkS,mkB];refine bV (aT m2 4 10 [a,b] l3 (by omega) (by omega) l6) [0,1] (by decide) (by simp[mkS,mkB]) (by simp[zO]) ?_;simp[mkS,mkB,zJ,zO];exact mv [0,1] 0 (by rfl) (by simp[zJ,zO])
theorem zZ2{len:Nat}(hc:0<=c)(hl2:Lim m (2*c+1))(x:Int)(hx0:0<=x)(hx1:x<=65536)
 (hk:dV hs R c (depth-1) (fun r=>r<=R) len)(hR:1<=R)(hx:Cx hs R m)(he:EnvOk hs R m.temp env)(h1:0<env.length)(h2:env.length<=len)(h3:env.length<=1000)(hd1 : -1000<=depth)(hd2:depth<=1000)(t:Typ)(ht:TyOk hs R t)(h4:t.k≠0)(h5:t.k≠1)(h6:t.k≠2\/x.tmod 2≠0)(hl:Lim m (6*c+1)) :
 cN hs m.own opF m [.ptr 0 0,.agg (zB t),.sl env.length (qC env),int x,int depth] env t (6*c+1):=by
 have d2:x.tdiv 2=x / 2:=tdN hx0;have w2:=z8 (x.tdiv 2) (by omega);obtain⟨e,m',g1,g2⟩:=zSk hc hl (x.tdiv 2) (by omega) (by omega) t ht (fun r' h=>by omega) hk hx he h1 h2 hd1 hd2;refine⟨e,m',?_,g2⟩;refine mn qFF [] [.cell 10 15 true] func138 (by kernel_rfl) ?_
 (conv in zY _ _ _ _=>cbv)
 by_cases h2:t.k=2
 .have h7:x.tmod 2≠0:=h6.resolve_left (fun h=>h h2);simp[mkS,mkB,zB,h2,h7,w2];refine mr g1 [0,1] (by simp[mkS,mkB,zB,h2]) ?_;simp[mkS,mkB];exact mv [0,1] 0 (by rfl) (by simp[zJ])
 .simp[mkS,mkB,zB,h2,h4,h5,w2];refine mr g1 [0,1] (by simp[mkS,mkB,zB]) ?_;simp[mkS,mkB];exact mv [0,1] 0 (by rfl) (by simp[zJ])
theorem qGL{len:Nat}(hc:0<=c)(hl:Lim m (7*c+7))(x:Int)(hx0:0<=x)(hx1:x<=65536)
 (hk:dV hs R c (depth-1) (fun r=>r<=R) len)(hR:1<=R)(hx:Cx hs R m)(he:EnvOk hs R m.temp env)(h1:0<env.length)(h2:env.length<=len)(h3:env.length<=1000)(hd1 : -1000<=depth)(hd2:depth<=1000)(t:Typ)(ht:TyOk hs R t) :
 cN hs m.own opF m [.ptr 0 0,.agg (zB t),.sl env.length (qC env),int x,int depth] env t (7*c+7):=by
 have hlit:=fun h4 h5 h6=>(zZ2 (hl:=hl.mono (by omega)) hc (hl.mono (by omega)) x hx0 hx1 hk hR hx he h1 h2 h3 hd1 hd2 t ht h4 h5 h6).mono (show 6*c+1<=7*c+7 by omega)
 cases ht with
 |int r=>exact(zZ1 hc (hl.mono (by omega)) x hx0 hx1 hk hR hx he h1 h2 h3 hd1 hd2).mono (by omega)
 |bool r=>exact(zUS hc (hl.mono (by omega)) x hx0 hx1 hk hR hx he h1 h2 h3 hd1 hd2).mono (by omega)
 |list r t h =>
  by_cases h5:x.tmod 2=0
  .exact(zUT hc (hl.mono (by omega)) x hx0 hx1 hk hR hx he h1 h2 h3 hd1 hd2 t (.list _ _ h) h5).mono (by omega)
  .exact hlit (by simp) (by simp) (.inr h5)
 |dfn r k h h1 h2 h3 h4=>exact hlit (by simp) (by simp) (.inl (by simp))
theorem zVv{n:Nat}(h:n<=1000000000):w64 (n:Int)=n:=IntWalk.i64_in _ (by omega)
theorem nL:∀(v:Val),zZ v<=100000000->mU v=zZ v:=by
 intro v h;rw[zFv,aR];have key:∀i,i<=v.kids.length->zF1 (v.kids.take i)=((1+qK (v.kids.take i):Nat):Int):=by
  intro i;induction i with
  |zero=>intro _;simp[zF1,qK]
  |succ i ih =>
   intro hi;have e1:=o9 (l:=v.kids) (i:=i) (by omega);have e2:=i5 v.kids (i+1);have e3:=aR v;have hk:zZ (v.kids[i]'(by omega))<zZ v:=y4 (jA0 _);rw[zCI (by omega),ih (by omega),nL (v.kids[i]'(by omega)) (by omega),e1];rw[IntWalk.i64_in _ (by omega)];omega
 have:=key v.kids.length (jA _)
 rwa[jAu]at this
termination_by v=>zZ v
theorem uQ:∀(a b:wI),yI (a++b)=max (yI a) (yI b)
 |[],b=>by simp[yI]
 |x::a,b=>by simp only[jB6,yI,uQ a b];omega
mutual
theorem zGr:∀(v:Val),j6 v<=zZ v
 | .mk _ _ l=>by simp only[j6,zZ];have:=zEk l;omega
theorem zEk:∀(l:wI),yI l<=qK l
 |[]=>by simp[yI]
 |v::l=>by simp only[yI,qK];have:=zGr v;have:=zEk l;omega
end
theorem nP:∀(v:Val),zZ v<=100000000->gM v=j6 v:=by
 intro v h;rw[zCf,gA];have key:∀i,i<=v.kids.length->zEF (v.kids.take i)=((yI (v.kids.take i):Nat):Int):=by
  intro i;induction i with
  |zero=>intro _;simp[zEF,yI]
  |succ i ih =>
   intro hi;have hk:zZ (v.kids[i]'(by omega))<zZ v:=y4 (jA0 _);rw[zCw (by omega),ih (by omega),nP (v.kids[i]'(by omega)) (by omega),jA8 (by omega),uQ];simp only[yI,zMg];split<;>omega
 have:=key v.kids.length (jA _);rw[jAu]at this;rw[this];have h1:=zGr v;have h2:=gA v;have:((yI v.kids:Nat):Int)+1=((yI v.kids+1:Nat):Int):=by omega
 rw[this,zVv (by omega)]
termination_by v=>zZ v
theorem zP9(p:Prg)(hL:p.defs.length<=1000000)(t:Typ)(v:Val)(h1:zZ v<=256)(h2:j6 v<=24) :
 my 47 [.agg (zN p),.agg (zB t),.agg (zC v)] [] (bl (aO p t v)) []:=by
 refine mq [] [.slot 6] func47 (by kernel_rfl) ?_
 (conv in kq _ _=>cbv)
 have e1:(zZ v:Int)<=256:=by omega
 have e2:(j6 v:Int)<=24:=by omega
 simp[zN,zB,zC];refine mu (fT v) (by simp[zC]) ?_;simp[nL v (by omega),h1,e1];refine mu (iH v) (by simp[zC]) ?_;simp[nP v (by omega),h2,e2];refine mu (vP p hL t v) (by simp[zN,zB,zC]) ?_;simp;exact zA 0 (by simp)
def qFE:Nat->Option wD:=fun|11=>k_ [0,0,0,0,0,0,0,0,0,0,0,0,0,0,0,0,0,4,0,0,0] | 12=>k_ [2,2002,0,1002,0,0,2,0]|_=>none
abbrev zMf:FuncId:=135
theorem zSy(m:Mk)(kind n:Int)(h0:0<=m.temp)(h1:m.temp<=1000000000000000)(h2 : -1000000000000000<=m.left)(h3:m.left<=1000000000000000) :
 my 132 [.ptr 0 0,int kind,int n,.sl 0 []] (mkS m) (.agg [int 0,int 0,int m.temp,int kind,int n,int 0,int 0,int 0,int 0,int 0,int 0,int 0,.nil,.sl 0 [],.nil]) (mkS {m with temp:=m.temp+1,left:=m.left-1}):=by
 refine mq [] [.cell 8 15 true] func132 (by kernel_rfl) ?_
 (conv in kq _ _=>cbv)
 have w1:=z8 (m.temp+1) (by omega);have w2:=z8 m.temp (by omega);have w3:=z8 (m.left-1) (by omega);simp[mkS,mkB,w1,w2,w3];exact mv [0,1] 0 (by rfl) (by simp)
def zMG(hd:Hd)(j:Nat):Typ:=match hd.slots[j]? with
 |some s=>s.typ
 |none=>jK
theorem zNY{hd:Hd}{j:Nat}(h:j<hd.slots.length):zMG hd j=hd.slots[j].typ:=by unfold zMG;rw[jA1 h]
theorem zVm{hd:Hd}(h:∀s∈hd.slots,TyOk hs R s.typ)(j:Nat):TyOk hs R (zMG hd j):=by
 unfold zMG;split
 .rename_i s hs;exact h s (jBt hs)
 .exact .int _
theorem zJX{len:Nat}(hc:0<=c)(hl:Lim m (7*c+7))(x:Nat)(hx1:x<=65536)(hk:dV hs R c (depth-1) (fun r=>r<=R) len)(hk2:dV hs R c (depth-2) (fun r=>r<=R) len)
 (hx:Cx hs R m)(he:EnvOk hs R m.temp env)(h1:0<env.length)(h2:env.length+1<=len)(h3:env.length<=1000)(hd1 : -1000<=depth)(hd2:depth<=1000)(t:Typ)(ht:TyOk hs R t)
 (hop:cN hs m.own opF m [.ptr 0 0,.agg (zB t),.sl env.length (qC env),int x,int depth] env t (7*c+7)) :
 cN hs m.own zMf m [.ptr 0 0,.agg (zB t),.sl env.length (qC env),int x,int depth] env t (7*c+7):=by
 have hdl:=hx.dlen;have hd100:=hx.len;have hd0:=hx.len0;have wd:=z8 (depth-1) (by omega);have wd2:=z8 (depth-2) (by omega);rcases zUP m 1 x with hof|⟨k,hkm,hof,hkind,hvis⟩
 .obtain⟨e,m',g1,g2⟩:=hop;refine⟨e,m',?_,g2⟩;refine ml qFE [83] [43] [] [.cell 10 15 true] func135 (by kernel_rfl) ?_
  (conv in kH _ _ _=>cbv)
  simp[mkS,mkB,zB];refine mr (zS5 m 1 x (by omega) (by omega) (by omega) hx.mods) [0,1] (by simp[mkS,mkB]) ?_;simp[mkS,mkB,hof];refine mr g1 [0,1] (by simp[mkS,mkB,zB]) ?_;simp[mkS,mkB];exact mv [0,1] 0 (by rfl) (by simp[zJ])
 .have hks:k<hs.length:=by omega
  have hget:=hx.get hkm;generalize hD:m.defs[k]=D at hget hkind;have eid:hs[k].id=D.id:=by rw[hget];rfl
  have eslots:hs[k].slots=D.slots:=by rw[hget];rfl
  have ekind:hs[k].kind=1:=by rw[hget];exact hkind
  obtain⟨hs6,hsT⟩:=hx.slots k hks;have hDl:D.slots.length<=6:=by rw[<-eslots];exact hs6
  obtain⟨a,m1,g1,g2,g3,g4,g5⟩:=hk2 m R (yO hs[k].id) env hx (hl.mono (by omega)) (hx.typs k hks (.inr ekind)) (jA _) he h1 (by omega);have hl1:Lim m1 (6*c+7):=Lim.adv (c:=c) (hl.mono (by omega)) g2;obtain⟨l1,l2,l3,l4,l5,l6,l7,l8⟩:=hl1;obtain⟨mA,hmA⟩:∃mA:Mk,mA={m1 with temp:=m1.temp+1,left:=m1.left-1}:=⟨_,rfl⟩;have aA:Adv m1 mA 1:=hmA▸aH m1;have tA:mA.temp=m1.temp+1:=by rw[hmA]
  have hlA:Lim mA (6*c+6):=Lim.adv (c:=1) ⟨l1,by omega,l3,by omega,by omega,l6,l7,by omega⟩ aA;have hsc:((D.slots.length:Int))*(c+1)<=6*(c+1):=jDb (by omega) (by omega);obtain⟨es,ns,ms,q0,q1,q2,q3,q4,q5⟩:=zSd hk hc (fun j=>env++[⟨⟨0,0,m1.temp⟩,j,zMG hs[k] j⟩]) t ht (jA R) mA ((hx.adv g2).adv aA)
   (fun j=>((he.mono g2.temp1).mono aA.temp1).snoc m1.temp j _ (zVm hsT j) (fun b hb e=>by have hb':=he.new b hb (by rw[e]);rw[e]at hb';have:=g2.temp1;simp only at hb';omega) (by omega)) (fun j=>by simp) (fun j=>by simp;omega) D.slots.length (hlA.mono (by omega))
  have aE:=q3 D.slots.length (jA _);have eown:mA.own=m.own:=aA.own.trans g2.own;refine⟨.mk ⟨0,0,m1.temp⟩ 10 0 hs[k].id Typ.zero (a::es) ns,ms D.slots.length,?_,((g2.trans aA).trans aE).mono (by omega),?_,?_,iX ?_⟩
  rotate_left
  .refine .mtch _ _ k hks a es t ns (by omega) ekind (by rw[eslots,q0]) g3 fun j hj=>?_
   have:=(q5 j hj (by omega)).elim fun mm h=>h.2.2.1
   rw[eown,zNY (by rw[eslots];omega)]at this;exact this
  .simp only[tmps,yQ];have s1:Seg m1.temp (m1.temp+1) [m1.temp]:=Seg.one _;have s2:=s1.append (b:=m1.temp+1) (tA▸q4) (by omega) (tA▸aE.temp1);have s3:=g4.append s2 g2.temp1 (by have:=aE.temp1;omega);refine s3.perm ?_;rw[jAq];exact jDk _ jDs
  .intro e' he';rcases jA3.1 he' with rfl|he'
   .exact g5
   .exact zB2 rfl (fun j hj=>(q5 j hj (by omega)).elim fun mm h=>h.2.2.2) e' he'
  refine ml qFE [83] [43] [] [.cell 10 15 true] func135 (by kernel_rfl) ?_
  (conv in kH _ _ _=>cbv)
  have hdr:=yD hkm;rw[hD]at hdr;have hb31:k*31+31<=m.defs.length*31:=by omega
  have hnk:¬((k:Int)<0):=by omega
  simp[mkS,mkB,zB];refine mr (zS5 m 1 x (by omega) (by omega) (by omega) hx.mods) [0,1] (by simp[mkS,mkB]) ?_;simp[mkS,mkB,hof,hnk,hkm,hdr,hb31,zK];refine mu (zDl D.id) (by simp[zL]) ?_;simp[mkS,mkB,wd2];rw[eid]at g1;refine mr g1 [0,1] (by simp[mkS,mkB,zB,yO]) ?_;simp[mkS,mkB];refine mr (zSy m1 10 0 l3 (by omega) (by omega) l6) [0,1] (by simp[mkS,mkB]) ?_;simp[mkS,mkB,zK];refine qO (S:=Nat) (fun i=>[(0,.ptr 0 0),(2,.sl env.length (qC env)),(4,int depth),(6,.ptr 2 0),(10,.ptr 3 0),(12,.ptr 4 0),(13,.row 5 (i+1)),(14,.ptr 6 0),(15,int i)])
   (fun i=>mkS (ms i)++[.box (zB t),.box (zJ Exp.zero),.box (zK D),.row false 39 15 (i+1) (zJ a++qQ (es.take i)),.box [int 0,int 0,int m1.temp,int 10,int 0,int D.id.a,int D.id.b,int D.id.c,int 0,int 0,int 0,int 0,.sl 0 [],.sl 0 [],.row 7 i],.row false 9 1 i (yT (ns.take i))]) (fun i=>i<=es.length) (fun i=>es.length-i) 0 (by simp)
   ((yJ (l:=6) (o:=14) rfl rfl 9 1).trans (mw [0,1,2,3,4,5,6,7] 0 (by rfl) (by simp[mkS,mkB,zB,q2,hmA,zJ,Exp.zero,Id.zero,Typ.zero,zK]))) ?_
  intro i hi;by_cases hi2:i<es.length
  .have hid:i<D.slots.length:=by omega
   have hin:i<ns.length:=by omega
   obtain⟨mm,g1',g2',_,_⟩:=q5 i hi2 hin;have hsty:zMG hs[k] i=D.slots[i].typ:=by rw[zNY (by rw[eslots];exact hid)];simp only[eslots]
   have hst:qQ (es.take (i+1))=qQ (es.take i)++zJ es[i]:=bO hi2;have hsn:yT (ns.take (i+1))=yT (ns.take i)++zRn ns[i]:=by unfold yT;rw[jA8 hin,jBz];simp
   have hw:=jY i (by omega);have hdS:List.drop (i*11+4) (jN D.slots)=(j4 D.slots[i]++jN (D.slots.drop (i+1))).drop 4:=by rw[<-jBc,qW hid]
   have hbS:i*11+4+5<=D.slots.length*11:=by omega
   simp[mkS,mkB,zK,zB,hid,hdS,hbS,j4,wd];intro _;refine qA (lY env ⟨⟨0,0,m1.temp⟩,i,zMG hs[k] i⟩ (by omega)) (by simp[cO,hsty]) (by simp) ?_;simp[mkS,mkB,wd];refine bV g1' [0,1] (by decide) (by simp[mkS,mkB]) (by simp[zB]) ?_;simp[mkS,mkB];refine⟨⟨by simp[maxLen];omega,by omega⟩,?_⟩;refine aK g2' [0,1] (by decide) (by simp[mkS,mkB]) (by simp) (by decide) (by simp) (by simp[mkS]) ?_;simp[mkS,mkB];refine⟨⟨by simp[maxLen];omega,by omega⟩,?_⟩;exact zS (i+1) hi2 (by omega) (mw [0,1,2,3,4,5,6,7] 0 (by rfl) (by simp[mkS,mkB,zB,zJ,Exp.zero,Id.zero,Typ.zero,zK,hst,hsn,zRn,hw]))
  .have hie:i=es.length:=by omega
   subst hie;have hid:¬es.length<D.slots.length:=by omega
   have hnl:List.take es.length ns=ns:=jAe (by omega);simp[mkS,mkB,zK,hid];intro _;refine⟨qS [(0,.ptr 0 0),(10,.ptr 3 0),(13,.sl (es.length+1) (qQ (a::es))),(14,.ptr 4 0)],mkS (ms es.length)++[.box (zB t),.box (zJ Exp.zero),.box [int 0,int 0,int m1.temp,int 10,int 0,int D.id.a,int D.id.b,int D.id.c,int 0,int 0,int 0,int 0,.sl 0 [],.sl 0 [],.sl es.length (yT ns)]],mw [0,1,2,3,6] 1 (by rfl) (by simp[mkS,mkB,zB,zJ,Exp.zero,Id.zero,Typ.zero,hnl,zO]),?_⟩;simp[mkS,mkB];exact mv [0,1] 0 (by rfl) (by simp[q0,zJ,Id.zero,Typ.zero,eid,q1])
end Go.Proofs.YtdnelmeboihpkaaGreatDoor

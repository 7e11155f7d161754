/- value.fits and value.Valid. -/
import Derived.Test.YtdnelmeboihpkaaGreatDoorX11
set_option linter.unusedVariables false
set_option maxHeartbeats 8000000
set_option maxRecDepth 100000
set_option linter.unusedSimpArgs false
open Go.Proofs.Tryz
namespace Go.Proofs.YtdnelmeboihpkaaGreatDoor
open Go.Abs
def dfn(p:Prg)(id:Id):Dfn:=(jK p.defs id).getD .zero
def fSt(p:Prg)(t:Typ):St:=[.box (zP p),.box (zB t)]
def zGs(q:Val->Bool):List Val->Nat->Int
 |[],_=>-1
 |x::l,n=>if q x then n else zGs q l (n+1)
theorem zKg(q:Val->Bool):∀(l:wI) (n:Nat),(l.any q=true/\0<=zGs q l n)\/(l.any q=false/\zGs q l n = -1)
 |[],n=>.inr ⟨rfl,rfl⟩
 |x::l,n=>by
  simp only[zGs,List.any_cons];cases hx:q x with
  |true=>exact .inl ⟨by simp,by simp⟩
  |false=>simpa using zKg q l (n+1)
mutual
def bY(p:Prg):Typ->Val->Bool
 |t,.mk k n l=>validT p t&&(if t.k=0 then decide (k=0)&&decide (l.length=0)&&decide (-1099511627776<=n)&&decide (n<=1099511627776)else if t.k=1 then decide (k=1)&&decide (l.length=0)&&(decide (n=0)||decide (n=1))
  else if t.k=2 then decide (k=4)&&decide (n=0)&&zJ9 p (t.kids.headD .zero) l
  else if (dfn p t.id).kind=1 then decide (k=3)&&decide (0<=n)&&decide (n<(dfn p t.id).slots.length)&&decide (l.length=1)&&zJA p ((dfn p t.id).slots.map Slt.typ)[n.toNat]? l
  else decide (k=2)&&decide (n=0)&&decide (l.length=(dfn p t.id).slots.length)&&dU p ((dfn p t.id).slots.map Slt.typ) l)
def zJ9(p:Prg)(t:Typ):List Val->Bool
 |[]=>true
 |v::l=>bY p t v&&zJ9 p t l
def zJA(p:Prg):Option Typ->List Val->Bool
 |some t,v::_=>bY p t v
 |_,_=>false
def dU(p:Prg):List Typ->List Val->Bool
 |t::ts,v::l=>bY p t v&&dU p ts l
 |_,_=>true
end
theorem zGP(p:Prg)(t:Typ):∀(l:wI),zJ9 p t l=l.all (bY p t)
 |[]=>by rw[zJ9];rfl
 |v::l=>by rw[zJ9,zGP p t l];rfl
theorem eA(p:Prg)(t:Typ)(v:Val):bY p t v=(validT p t&&(if t.k=0 then decide (v.k=0)&&decide (v.kids.length=0)&&decide (-1099511627776<=v.n)&&decide (v.n<=1099511627776)else if t.k=1 then decide (v.k=1)&&decide (v.kids.length=0)&&(decide (v.n=0)||decide (v.n=1))
 else if t.k=2 then decide (v.k=4)&&decide (v.n=0)&&v.kids.all (bY p (t.kids.headD .zero))
 else if (dfn p t.id).kind=1 then decide (v.k=3)&&decide (0<=v.n)&&decide (v.n<(dfn p t.id).slots.length)&&decide (v.kids.length=1)&&zJA p ((dfn p t.id).slots.map Slt.typ)[v.n.toNat]? v.kids
 else decide (v.k=2)&&decide (v.n=0)&&decide (v.kids.length=(dfn p t.id).slots.length)&&dU p ((dfn p t.id).slots.map Slt.typ) v.kids)):=by
 cases v with
 |mk k n l=>rw[bY,zGP];rfl
theorem zRU(p:Prg)(t x:Typ)(hx:t.kids=[x])(v:Val)(b:Bool)(h:mv 74 [.agg (zP p),.agg (zB x),.agg (zF v)] [] (bl b) []) :
 mv 115 [.agg (zF v),.ptr 0 0,.ptr 1 0] (fSt p t) (bl (!b)) (fSt p t):=by
 refine ml [] [.slot 4] func115 (by kernel_rfl) ?_
 (conv in kq _ _=>cbv)
 simp[fSt,zP,zB,zF,hx];refine z7 h (by simp[zP,zB,zF,qI]) (by simp) ?_;simp;exact mr [0,1] 0 (by rfl) (by simp[zP,zB,hx])
theorem zUI(p:Prg)(t:Typ)(q:Val->Bool)(l:wI)(h:∀v∈l,mv 115 [.agg (zF v),.ptr 0 0,.ptr 1 0] (fSt p t) (bl (q v)) (fSt p t)) :
 mv 153 [.sl l.length (zR l),.clo 115 [] [.ptr 0 0,.ptr 1 0]] (fSt p t) (int (zGs q l 0)) (fSt p t):=by
 refine ml [] [.slot 4] func153 (by kernel_rfl) ?_
 (conv in kq _ _=>cbv)
 simp[fSt,zP,zB];intro hl;refine qK (S:=Nat) (fun i=>[(0,.sl l.length (zR l)),(1,.clo 115 [] [.ptr 0 0,.ptr 1 0]),(6,.sl l.length (zR l)),(7,int l.length),(8,int i)]) (fun i=>fSt p t) (fun i=>i<=l.length/\zGs q l 0=zGs q (l.drop i) i) (fun i=>l.length-i) 0 (by simp)
  (mu [0,1] 0 (by rfl) (by simp[fSt,zP,zB])) ?_
 rintro i ⟨hi,ho⟩;by_cases hil:i<l.length
 .have hd:l.drop i=l[i]::l.drop (i+1):=jAo hil;simp[hil,qL hil,fSt,zP,zB];refine mn (h l[i] (jA0 hil)) [0,1] (by simp[fSt,zP,zB,zF]) ?_;cases hq:q l[i]with
  |true =>
   simp[fSt,zP,zB];exact mz [0,1] 0 (by rfl) (by simp[zP,zB]) (by rw[ho,hd];simp[zGs,hq])
  |false =>
   simp[fSt,zP,zB];exact zO (i+1) ⟨hil,by rw[ho,hd];simp[zGs,hq]⟩ (by omega) (mu [0,1] 0 (by rfl) (by simp[fSt,zP,zB,z8 hil hl]))
 .have:i=l.length:=by omega
  subst this;simp[fSt,zP,zB];exact mz [0,1] 0 (by rfl) (by simp[zP,zB]) (by rw[ho];simp[zGs])
theorem zUn(p:Prg)(t:Typ)(q:Val->Bool)(l:wI)(h:∀v∈l,mv 115 [.agg (zF v),.ptr 0 0,.ptr 1 0] (fSt p t) (bl (q v)) (fSt p t)) :
 mv 112 [.sl l.length (zR l),.clo 115 [] [.ptr 0 0,.ptr 1 0]] (fSt p t) (bl (l.any q)) (fSt p t):=by
 refine ml [] [.slot 4] func112 (by kernel_rfl) ?_
 (conv in kq _ _=>cbv)
 simp[fSt,zP,zB];refine mn (zUI p t q l h) [0,1] (by simp[fSt,zP,zB]) ?_;rcases zKg q l 0 with ⟨h1,h2⟩|⟨h1,h2⟩
 all_goals
  simp[fSt,zP,zB,h2];exact mr [0,1] 0 (by rfl) (by simp[zP,zB,h1])
abbrev zIy:FuncId:=131
variable{hs:wP}{R:Nat}{m:Mk}
theorem zXb(hx:Cx hs R m){k:Nat}(hk:k<hs.length)(h1:∀(j:Nat)(hj:j<k),hs[j].id≠hs[k].id):∃h:k<m.defs.length,x9 m.defs hs[k].id=(m.defs[k],true)/\m.defs[k].hd=hs[k]:=by
 have hl:=hx.dlen;have h:k<m.defs.length:=by omega
 have hg:=hx.get h;refine⟨h,?_,hg.symm⟩;unfold x9;rw[zC5 h (fun d hd=>?_) (by rw[hg];rfl)];rw[List.mem_take_iff_getElem]at hd;obtain⟨j,hj,rfl⟩:=hd;have hjl:j<m.defs.length:=by omega
 have:=h1 j (by omega);rw[hx.get hjl]at this;exact this
variable{env:wJ}
theorem zUU{R:Nat}(hl:Lim m 1)(x depth:Int)(hx0:0<=x)(hx1:x<=65536):c6 hs m.own zIy m [.ptr 0 0,.agg (zB jO),.sl env.length (qC env),int x,int depth] env jO 1:=by
 have e9:x.tmod 9=x % 9:=tmN hx0;have e29:x.tmod 29=x % 29:=tmN hx0;have e2:x.tmod 2=x % 2:=tmN hx0;have key:∀n,-1099511627776<=n->n<=1099511627776->(∀(K:Prop),K->K)->mv zIy [.ptr 0 0,.agg (zB jO),.sl env.length (qC env),int x,int depth] (mkS m) (.agg (zI (.mk ⟨0,0,m.temp⟩ 0 n Id.zero Typ.zero [] []))) (mkS {m with temp:=m.temp+1,left:=m.left-1})->c6 hs m.own zIy m [.ptr 0 0,.agg (zB jO),.sl env.length (qC env),int x,int depth] env jO 1:=fun n q1 q2 _ h =>
  ⟨_,_,h,aL m,.int _ _ _ q1 q2,by simp only[tmps,yN,jBy];exact Seg.one _,xW⟩
 have w1:=zY (x.tmod 9-2) (by omega);have w2:=zY (1099511627776-x.tmod 2) (by omega);obtain⟨l1,l2,l3,l4,l5,l6,l7,l8⟩:=hl;by_cases h29:x.tmod 29=3
 .refine key (1099511627776-x.tmod 2) (by omega) (by omega) (fun _ h=>h) ?_;refine zN func131 rfl zO8 (rs:=[.cell 10 15 true]) (by kernel_rfl) ?_
  simp only[zL3]
  simp[mkS,mkB,zB,jO,w1,w2,h29];refine mn (aZ m 0 (1099511627776-x.tmod 2) [] l3 (by omega) (by omega) l6) [0,1] (by simp[mkS,mkB]) ?_;simp[mkS,mkB];exact mr [0,1] 0 (by rfl) (by simp)
 .refine key (x.tmod 9-2) (by omega) (by omega) (fun _ h=>h) ?_;refine zN func131 rfl zO8 (rs:=[.cell 10 15 true]) (by kernel_rfl) ?_
  simp only[zL3]
  simp[mkS,mkB,zB,jO,w1,w2,h29];refine mn (aZ m 0 (x.tmod 9-2) [] l3 (by omega) (by omega) l6) [0,1] (by simp[mkS,mkB]) ?_;simp[mkS,mkB];exact mr [0,1] 0 (by rfl) (by simp)
theorem zS3(hl:Lim m 1)(x depth:Int)(hx0:0<=x):c6 hs m.own zIy m [.ptr 0 0,.agg (zB jX),.sl env.length (qC env),int x,int depth] env jX 1:=by
 have e2:x.tmod 2=x % 2:=tmN hx0;obtain⟨l1,l2,l3,l4,l5,l6,l7,l8⟩:=hl;refine⟨.mk ⟨0,0,m.temp⟩ 1 (x.tmod 2) Id.zero Typ.zero [] [],_,?_,aL m,.bool _ _ _ (by omega),by simp only[tmps,yN,jBy];exact Seg.one _,xW⟩;refine zN func131 rfl zO8 (rs:=[.cell 10 15 true]) (by kernel_rfl) ?_
 simp only[zL3]
 simp[mkS,mkB,zB,jX];refine mn (aZ m 1 (x.tmod 2) [] l3 (by omega) (by omega) l6) [0,1] (by simp[mkS,mkB]) ?_;simp[mkS,mkB];exact mr [0,1] 0 (by rfl) (by simp)
variable{c depth:Int}{Q:Nat->Prop}{r:Nat}
theorem zS5{len:Nat}(hc:0<=c)(hl:Lim m (2*c+1))(x:Int)(hx0:0<=x)(t:Typ)(hr:TyOk hs r t)(hQ:Q r)
 (hk:eL hs R c (depth-1) Q len)(hx:Cx hs R m)(he:EnvOk hs R m.temp env)(h1:0<env.length)(h2:env.length<=len)(hd1 : -1000<=depth)(hd2:depth<=1000) :
 c6 hs m.own zIy m [.ptr 0 0,.agg (zB (yC t)),.sl env.length (qC env),int x,int depth] env (yC t) (2*c+1):=by
 have e3:x.tmod 3=x % 3:=tmN hx0;have wd:=zY (depth-1) (by omega);obtain⟨K,hK,hK2⟩:∃K:Nat,(K:Int)=(if 0<=depth then x.tmod 3 else 0)/\K<=2:=by
  by_cases h:0<=depth
  .exact⟨(x % 3).toNat,by rw[if_pos h,e3];omega,by omega⟩
  .exact⟨0,by rw[if_neg h];rfl,by omega⟩
 have hKc:(K:Int)*c<=2*c:=jDa (by omega) hc;obtain⟨es,ms,q0,q2,q3,q4,q6,q7,q5⟩:=zSx hk hc env h1 h2 t hr hQ m hx he K (hl.mono (by omega));have ha:=q3 es.length (jA _);have hec:(es.length:Int)*c<=2*c:=jDa (by omega) hc;have ha2:=ha.mono hec;have hln:=Lim.adv (c:=2*c) (c':=1) hl ha2;obtain⟨l1,l2,l3,l4,l5,l6,l7,l8⟩:=hln;refine⟨.mk ⟨0,0,(ms es.length).temp⟩ 11 0 Id.zero t es [],{ms es.length with temp:=(ms es.length).temp+1,left:=(ms es.length).left-1},?_,ha2.trans (aL _),.list _ _ _ _ fun j hj=>(q5 j hj).2.1,
  by simp only[tmps];exact q4.append (Seg.one _) ha.temp1 (by omega),lN (zBK rfl fun j hj=>(q5 j hj).2.2)⟩
 refine zN func131 rfl zO8 (rs:=[.cell 10 15 true]) (by kernel_rfl) ?_
 simp only[zL3]
 simp[mkS,mkB,zB,yC];refine qK (S:=Nat) (fun i=>[(0,.ptr 0 0),(2,.sl env.length (qC env)),(3,int x),(4,int depth),(6,.ptr 2 0),(10,.ptr 3 0),(12,.row 4 i),(13,int i)])
  (fun i=>mkS (ms i)++[.box (zB (yC t)),.box (zI Exp.zero),.row false 39 15 i (qT (es.take i))]) (fun i=>i<=es.length) (fun i=>es.length-i) 0 (by simp)
  ((qS (t:=12) (by simp) 39 15).trans (mu [0,1,2,3,4] 0 (by rfl) (by simp[mkS,mkB,zB,yC,q2,zI,Exp.zero,Id.zero,Typ.zero]))) ?_
 intro i hi;have hms:=q3 i hi;by_cases hi2:i<es.length
 .obtain⟨g1,_,_⟩:=q5 i hi2;have c2:0<=depth:=by
   by_cases h:0<=depth
   .exact h
   .rw[if_neg h]at hK;omega
  have c1:(i:Int)<x.tmod 3:=by rw[if_pos c2]at hK;omega
  have c3:=q6 i hi2;have hst:qT (es.take (i+1))=qT (es.take i)++zI es[i]:=bT hi2;have hw:=jZ i (by omega);simp[mkS,mkB,zB,yC,c1,c2,c3,wd,qI];refine mn g1 [0,1] (by simp[mkS,mkB,zB]) ?_;simp[mkS,mkB];refine⟨⟨by simp[maxLen];omega,by omega⟩,?_⟩;exact zO (i+1) hi2 (by omega) (mu [0,1,2,3,4] 0 (by rfl) (by simp[mkS,mkB,zB,yC,zI,Exp.zero,Id.zero,Typ.zero,hst,hw]))
 .have hie:i=es.length:=by omega
  subst hie;have hexit:¬((es.length:Int)<x.tmod 3/\0<=depth/\0<(ms es.length).left):=fun hh=>by
   rcases q7 with q7|q7
   .rw[if_pos hh.2.1]at hK;omega
   .omega
  by_cases c1:(es.length:Int)<x.tmod 3
  .by_cases c2:0<=depth
   .have c3:¬0<(ms es.length).left:=fun h=>hexit ⟨c1,c2,h⟩
    simp[mkS,mkB,zB,yC,c1,c2,c3,qI];refine⟨qV [(0,.ptr 0 0),(6,.ptr 2 0),(10,.ptr 3 0),(12,.sl es.length (qT es))],mkS (ms es.length)++[.box (zB (yC t)),.box (zI Exp.zero)],mu [0,1,2,3] 1 (by rfl) (by simp[mkS,mkB,zB,yC,zI,Exp.zero,Id.zero,Typ.zero,qI]),?_⟩;simp[mkS,mkB,zB,yC];refine mn (aZ (ms es.length) 11 0 es l3 (by omega) (by omega) l6) [0,1] (by simp[mkS,mkB]) ?_;simp[mkS,mkB,zB,yC,zI,qI];exact mr [0,1] 0 (by rfl) (by simp[zI])
   .simp[mkS,mkB,zB,yC,c1,c2,qI];refine⟨qV [(0,.ptr 0 0),(6,.ptr 2 0),(10,.ptr 3 0),(12,.sl es.length (qT es))],mkS (ms es.length)++[.box (zB (yC t)),.box (zI Exp.zero)],mu [0,1,2,3] 1 (by rfl) (by simp[mkS,mkB,zB,yC,zI,Exp.zero,Id.zero,Typ.zero,qI]),?_⟩;simp[mkS,mkB,zB,yC];refine mn (aZ (ms es.length) 11 0 es l3 (by omega) (by omega) l6) [0,1] (by simp[mkS,mkB]) ?_;simp[mkS,mkB,zB,yC,zI,qI];exact mr [0,1] 0 (by rfl) (by simp[zI])
  .simp[mkS,mkB,zB,yC,c1,qI];refine⟨qV [(0,.ptr 0 0),(6,.ptr 2 0),(10,.ptr 3 0),(12,.sl es.length (qT es))],mkS (ms es.length)++[.box (zB (yC t)),.box (zI Exp.zero)],mu [0,1,2,3] 1 (by rfl) (by simp[mkS,mkB,zB,yC,zI,Exp.zero,Id.zero,Typ.zero,qI]),?_⟩;simp[mkS,mkB,zB,yC];refine mn (aZ (ms es.length) 11 0 es l3 (by omega) (by omega) l6) [0,1] (by simp[mkS,mkB]) ?_;simp[mkS,mkB,zB,yC,zI,qI];exact mr [0,1] 0 (by rfl) (by simp[zI])
variable{p:Prg}{t:Typ}
theorem zFV(h:validT p t=true)(h2:t.k=2):∃x,t.kids=[x]:=by
 cases t with
 |mk k id kids =>
  simp only[Typ.k_mk]at h2;subst h2;simp only[validT,yE,Typ.k_mk,Typ.id_mk,Typ.kids_mk,if_true]at h;split at h
  .exact⟨_,rfl⟩
  .cases h
theorem zC7{ts:wS}:dU p ts []=true:=by cases ts<;>simp[dU]
theorem zJB{v:Val}(h:validT p t=false):bY p t v=false:=by rw[eA,h];rfl
theorem zEd(p:Prg)(t:Typ)(v:Val):mv 74 [.agg (zP p),.agg (zB t),.agg (zF v)] [] (bl (bY p t v)) []:=by
 refine ml [] [.slot 6] func74 (by kernel_rfl) ?_
 (conv in kq _ _=>cbv)
 simp[zP,zB,zF];refine mq (zFW p t) (by simp[zP,zB]) ?_;cases hv:validT p t with
 |false =>
  simp;exact zA 0 (by simp[zJB hv])
 |true =>
 by_cases h0:t.k=0
 .have e:bY p t v=(decide (v.k=0)&&decide (v.kids.length=0)&&decide (-1099511627776<=v.n)&&decide (v.n<=1099511627776)):=by rw[eA,hv,if_pos h0,jBm]
  by_cases c1:v.k=0
  .by_cases c2:v.kids.length=0
   .by_cases c3 : -1099511627776<=v.n
    all_goals
     simp[hv,h0,c1,c2,c3];exact zA 0 (by rw[e];simp[c1,c2,c3])
   .simp[hv,h0,c1,c2];exact fun _=>zA 0 (by rw[e];simp[c1,c2])
  .simp[hv,h0,c1];exact zA 0 (by rw[e];simp[c1])
 by_cases h1:t.k=1
 .have e:bY p t v=(decide (v.k=1)&&decide (v.kids.length=0)&&(decide (v.n=0)||decide (v.n=1))):=by rw[eA,hv,if_neg h0,if_pos h1,jBm]
  by_cases c1:v.k=1
  .by_cases c2:v.kids.length=0
   .by_cases c3:v.n=0
    all_goals
     simp[hv,h1,c1,c2,c3];exact zA 0 (by rw[e];simp[c1,c2,c3])
   .simp[hv,h1,c1,c2];exact fun _=>zA 0 (by rw[e];simp[c1,c2])
  .simp[hv,h1,c1];exact zA 0 (by rw[e];simp[c1])
 by_cases h2:t.k=2
 .obtain⟨x,hx⟩:=zFV hv h2;have e:bY p t v=(decide (v.k=4)&&decide (v.n=0)&&v.kids.all (bY p x)):=by rw[eA,hv,if_neg h0,if_neg h1,if_pos h2,jBm,hx];rfl
  by_cases c1:v.k=4
  .by_cases c2:v.n=0
   .simp[hv,h2,c1,c2];refine mn (zUn p t (fun y=>!bY p x y) v.kids (fun y hy=>zRU p t x hx y _ (zEd p x y))) [0,1] (by simp[fSt,zP,zB,h2]) ?_;simp[fSt,zP,zB];exact zA 0 (by rw[e];simp[c1,c2,List.all_eq_not_any_not])
   .simp[hv,h2,c1,c2];exact zA 0 (by rw[e];simp[c1,c2])
  .simp[hv,h2,c1];exact zA 0 (by rw[e];simp[c1])
 have e:=eA p t v;rw[hv,if_neg h0,if_neg h1,if_neg h2,jBm]at e;simp[hv,h0,h1,h2];refine mq (oE p t.id) (by simp[zP,zK,bR]) ?_;have hD:(jK p.defs t.id).getD .zero=dfn p t.id:=rfl;generalize dfn p t.id=D at hD e;by_cases hk:D.kind=1
 .rw[if_pos hk]at e;by_cases c1:v.k=3
  .by_cases c2:0<=v.n
   .by_cases c3:v.n<D.slots.length
    .by_cases c4:v.kids.length=1
     .obtain⟨x,hx⟩:∃x,v.kids=[x]:=List.length_eq_one_iff.1 c4;obtain⟨i,hi⟩:∃i:Nat,v.n=i:=⟨v.n.toNat,by omega⟩;have hil:i<D.slots.length:=by omega
      simp[bR,hD,zJ,hk,c1,hi,hil,hx,qZ hil,j8];refine z7 (zEd p D.slots[i].typ x) (by simp[zP,zB,zF]) (by simp) ?_;simp;exact zA 0 (by rw[e];simp[c1,hi,hil,hx,zJA])
     .have c4':¬(v.kids.length:Int)=1:=by omega
      simp[bR,hD,zJ,hk,c1,c2,c3,c4']
      first|exact zA 0 (by rw[e];simp[c1,c2,c3,c4])|exact fun _=>zA 0 (by rw[e];simp[c1,c2,c3,c4])|exact fun _ _=>zA 0 (by rw[e];simp[c1,c2,c3,c4])
    .simp[bR,hD,zJ,hk,c1,c2,c3];exact zA 0 (by rw[e];simp[c1,c2,c3])
   .simp[bR,hD,zJ,hk,c1,c2];exact zA 0 (by rw[e];simp[c1,c2])
  .simp[bR,hD,zJ,hk,c1];exact zA 0 (by rw[e];simp[c1])
 rw[if_neg hk]at e;by_cases c1:v.k=2
 .by_cases c2:v.n=0
  .by_cases c3:v.kids.length=D.slots.length
   .simp[bR,hD,zJ,hk,c1,c2,c3];intro hl;refine qK (S:=Nat) (fun i=>[(3,.ptr 0 0),(7,.ptr 3 0),(141,.sl v.kids.length (zR v.kids)),(142,int v.kids.length),(143,int i)])
     (fun i=>[.box (zP p),.box (zB t),.box (zF v),.box (zJ D)]) (fun i=>i<=v.kids.length/\dU p (D.slots.map Slt.typ) v.kids=dU p ((D.slots.map Slt.typ).drop i) (v.kids.drop i)) (fun i=>v.kids.length-i) 0 (by simp)
     (mu [0,1,2,3] 0 (by rfl) (by simp[zP,zB,zF,zJ,hk,c1,c2,c3])) ?_
    rintro i ⟨hi,ho⟩;by_cases hil:i<v.kids.length
    .have hiD:i<D.slots.length:=by omega
     have d1:v.kids.drop i=v.kids[i]::v.kids.drop (i+1):=jAo hil;have d2:(D.slots.map Slt.typ).drop i=D.slots[i].typ::(D.slots.map Slt.typ).drop (i+1):=by rw[jAo (by simpa using hiD)];simp
     simp[hil,hiD,qL hil,qZ hiD,zP,zJ,j8];refine z7 (zEd p D.slots[i].typ v.kids[i]) (by simp[zP,zB,zF]) (by simp) ?_;cases hf:bY p D.slots[i].typ v.kids[i]with
     |true =>
      simp;exact zO (i+1) ⟨hil,by rw[ho,d1,d2];simp[dU,hf]⟩ (by omega) (mu [0,1,2,3] 0 (by rfl) (by simp[zP,zB,zF,zJ,z8 hil (c3▸hl)]))
     |false =>
      simp;exact zA 0 (by rw[e,ho,d1,d2];simp[dU,hf])
    .have:i=v.kids.length:=by omega
     subst this;simp;exact zA 0 (by rw[e,ho,jCf (jA v.kids.length),zC7];simp[c1,c2,c3])
   .have c3':¬(v.kids.length:Int)=D.slots.length:=by omega
    simp[bR,hD,zJ,hk,c1,c2,c3']
    first|exact zA 0 (by rw[e];simp[c1,c2,c3])|exact fun _=>zA 0 (by rw[e];simp[c1,c2,c3])|exact fun _ _=>zA 0 (by rw[e];simp[c1,c2,c3])
  .simp[bR,hD,zJ,hk,c1,c2];exact zA 0 (by rw[e];simp[c1,c2])
 .simp[bR,hD,zJ,hk,c1];exact zA 0 (by rw[e];simp[c1])
termination_by qN v
decreasing_by
 .exact aW hy
 .exact aW (by simp[hx])
 .exact aW (jA0 _)
theorem zHO(p:Prg)(t:Typ)(v:Val)(h1:qN v<=256)(h2:aD v<=24) :
 mv 30 [.agg (zP p),.agg (zB t),.agg (zF v)] [] (bl (bY p t v)) []:=by
 refine ml [] [.slot 6] func30 (by kernel_rfl) ?_
 (conv in kq _ _=>cbv)
 simp[zP,zB,zF];refine mq (zTs v h1 h2) (by simp[zF]) ?_;simp;refine mq (zEd p t v) (by simp[zP,zB,zF]) ?_;simp;exact zA 0 (by simp)
abbrev vz:Val:=.mk 0 0 []
def rK(a b:Int):Int:=if b=0 then 0 else if a.tmod b≠0/\¬(a<0↔b<0)then a.tdiv b-1 else a.tdiv b
def zDR(a b:Int):Int:=if b=0 then 0 else a-b*rK a b
def uN(n a b:Int):Int:=if n=0 then bH (a+b)else if n=1 then bH (a-b)else if n=2 then bH (a*b)else if n=3 then rK a b else zDR a b
def opV(n:Int):List Val->Val
 |[a]=>if n=9 then eI (decide (a.n=0))else .mk 0 a.kids.length []
 |[a,b]=>if n<=4 then .mk 0 (uN n a.n b.n) []else if n=5 then eI (decide (a.n<b.n))else if n=6 then eI (decide (gG a b=0))
  else if n=7 then eI (decide (a.n=1/\b.n=1))else if n=8 then eI (decide (a.n=1\/b.n=1))else .mk 4 0 (a.kids++b.kids)
 |_=>vz
structure XS where
 fuel:Int
 fail:Int
 ds:List Id
 ns:List Id
abbrev Evl:=Exp->List EVar->XS->Val×XS
def jJ(ev:Evl)(env:wO):List Exp->XS->wI×XS
 |[],s=>([],s)
 |e::l,s=>((ev e env s).1::(jJ ev env l (ev e env s).2).1,(jJ ev env l (ev e env s).2).2)
theorem xJ(ev:Evl)(env:wO)(e:Exp):∀(l:wG) (s:XS),jJ ev env (l++[e]) s=((jJ ev env l s).1++[(ev e env (jJ ev env l s).2).1],(ev e env (jJ ev env l s).2).2)
 |[],s=>rfl
 |x::l,s=>by simp only[jBj,jJ,xJ ev env e l]
theorem fZ(ev:Evl)(env:wO):∀(l:wG) (s:XS),(jJ ev env l s).1.length=l.length
 |[],s=>rfl
 |x::l,s=>by simp only[jJ,jAb,fZ ev env l]
def yB(ev:Evl)(env:wO)(i:Id)(b:Exp):List Val->Val×XS->Val×XS
 |[],r=>r
 |x::l,r=>yB ev env i b l (ev b (env++[⟨i,0,x⟩]++[⟨i,1,r.1⟩]) r.2)
theorem sW(ev:Evl)(env:wO)(i:Id)(b:Exp)(x:Val):∀(l:wI) (r:Val×XS),yB ev env i b (l++[x]) r=ev b (env++[⟨i,0,x⟩]++[⟨i,1,(yB ev env i b l r).1⟩]) (yB ev env i b l r).2
 |[],r=>rfl
 |y::l,r=>by simp only[jBj,yB,sW ev env i b x l]
def cN(ss:List Slt)(vs:wI):wO:=List.zipWith (fun s v=>⟨s.id,0,v⟩) ss vs
theorem zBv(ss:List Slt)(vs:wI)(h:vs.length=ss.length):(cN ss vs).length=ss.length:=by simp[cN,h]
theorem zGL{ss:List Slt}{vs:wI}(h:vs.length=ss.length){i:Nat}(hi:i<ss.length):(cN ss vs).take (i+1)=(cN ss vs).take i++[⟨ss[i].id,0,vs[i]⟩]:=by rw[jA6 (by rw[zBv ss vs h];exact hi)];simp[cN]
def b7(ev:Evl)(d:Dfn)(vs:wI)(s:XS):Val×XS:=if s.fail≠0 then (vz,s)else ev d.body (cN d.slots vs) {s with ds:=s.ds++[d.id]}
def j6(ev:Evl)(e:Exp)(env:wO)(s:XS):Val×XS :=
 if (ev (e.kids.headD .zero) env s).2.fail≠0 then (vz,(ev (e.kids.headD .zero) env s).2)
 else if e.k=5 then ev (e.kids.getD (if (ev (e.kids.headD .zero) env s).1.n=1 then 1 else 2) .zero) env (ev (e.kids.headD .zero) env s).2
 else if e.k=6 then ev (e.kids.getD 1 .zero) (env++[⟨e.id,0,(ev (e.kids.headD .zero) env s).1⟩]) (ev (e.kids.headD .zero) env s).2
 else if e.k=8 then ((ev (e.kids.headD .zero) env s).1.kids.getD e.n.toNat vz,(ev (e.kids.headD .zero) env s).2)
 else if e.k=10 then ev (e.kids.getD (1+(ev (e.kids.headD .zero) env s).1.n).toNat .zero) (env++[⟨e.id,(ev (e.kids.headD .zero) env s).1.n,(ev (e.kids.headD .zero) env s).1.kids.headD vz⟩]) (ev (e.kids.headD .zero) env s).2
 else yB ev env e.id (e.kids.getD 2 .zero) (ev (e.kids.headD .zero) env s).1.kids (ev (e.kids.getD 1 .zero) env (ev (e.kids.headD .zero) env s).2)
def zf(c:Bool)(s:XS)(v:Val):Val:=if c=true/\s.fail≠0 then vz else v
def qP(p:Prg)(fl:Nat)(ev:Evl)(e:Exp)(env:wO)(s:XS):Val×XS :=
 if e.k=0 then (.mk 0 e.n [],s)
 else if e.k=1 then (.mk 1 e.n [],s)
 else if e.k=2 then (lX env e.ref e.n,s)
 else if e.k=5\/e.k=6\/e.k=8\/e.k=10\/e.k=12 then j6 ev e env s
 else if e.k=3 then b7 ev (dfn p e.ref) (jJ ev env e.kids s).1 (jJ ev env e.kids s).2
 else if e.k=4 then (zf true (jJ ev env e.kids s).2 (opV e.n (jJ ev env e.kids s).1),(jJ ev env e.kids s).2)
 else if e.k=7 then (zf (fl==1) (jJ ev env e.kids s).2 (.mk 2 0 (jJ ev env e.kids s).1),(jJ ev env e.kids s).2)
 else if e.k=9 then (zf (fl==1) (jJ ev env e.kids s).2 (.mk 3 e.n (jJ ev env e.kids s).1),(jJ ev env e.kids s).2)
 else (zf (fl==1) (jJ ev env e.kids s).2 (.mk 4 0 (jJ ev env e.kids s).1),(jJ ev env e.kids s).2)
def zDL(v:Val):Prop:=256<sD v\/24<mF v
instance (v:Val):Decidable (zDL v):=by unfold zDL;infer_instance
abbrev uG:Int:=18
abbrev nB:Int:=4
def gY(r:Val×XS):XS:=if r.2.fail=0/\zDL r.1 then {r.2 with fail:=nB} else r.2
def vD(fl:Nat)(r:Val×XS):Val×XS:=(zf (fl==2) (gY r) r.1,gY r)
def nJ(e:Exp)(s:XS):XS:={s with fuel:=s.fuel-1,ns:=s.ns++[e.id]}
def aT(p:Prg)(fl:Nat):Nat->Evl
 | 0,_,_,s=>if s.fail≠0 then (vz,s)else (vz,{s with fail:=uG})
 |m+1,e,env,s =>
  if s.fail≠0 then (vz,s)else if s.fuel<=0 then (vz,{s with fail:=uG})
  else vD fl (qP p fl (aT p fl m) e env (nJ e s))
theorem zF5{U τ:St}(hk:dK U τ){j:Nat}{o:AObj}(h : U[j]?=some o)(hn:o≠AObj.rsv):jF τ [j] [o] = τ:=by
 have h1:=hk j o h hn;have hlt:j < τ.length:=by
  by_cases hl:j < τ.length
  .exact hl
  .rw[jBd (by omega)]at h1;cases h1
 rw[jA1 hlt]at h1;simp only[jF];injection h1 with h1
 rw[<-h1,jBa];exact List.set_getElem_self hlt
theorem c6.mono{own:Int}{f:FuncId}{args:wE}{c':Int}(h:c6 hs own f m args env t c)(hc:c<=c'):c6 hs own f m args env t c':=by obtain⟨e,m',h1,h2,h3,h4,h5⟩:=h;exact⟨e,m',h1,h2.mono hc,h3,h4,h5⟩
theorem zSy{len:Nat}(hk:eL hs R c depth Q len)(hc:0<=c)(envs:Nat->wJ)(t:Typ)(hr:TyOk hs r t)(hQ:Q r)
 (m:Mk)(hx:Cx hs R m)(he:∀j,EnvOk hs R m.temp (envs j))(h1:∀j,0<(envs j).length)(h2:∀j,(envs j).length<=len):∀(k:Nat),Lim m (k*(c+1)) ->
  ∃(es:wG) (ns:List ByteArray) (ms:Nat->Mk),es.length=k/\ns.length=k/\ms 0=m/\(∀j≤k,Adv m (ms j) (j*(c+1)))/\Seg m.temp (ms k).temp (yN es) /\
   ∀(j:Nat) (hj:j<es.length) (hj':j<ns.length),∃mm:Mk,mv bX [.ptr 0 0,.agg (zB t),.sl (envs j).length (qC (envs j)),int depth] (mkS (ms j)) (.agg (zI es[j])) (mkS mm) /\
    mv 133 [.ptr 0 0] (mkS mm) (.lit (.string ns[j])) (mkS (ms (j+1)))/\WT hs m.own (envs j) es[j] t/\es[j].num0:=by
 intro k;induction k with
 |zero =>
  intro hl;refine⟨[],[],fun _=>m,rfl,rfl,rfl,fun j hj=>?_,Seg.nil,fun j hj=>by simp at hj⟩;have:j=0:=by simpa using hj
  subst this;exact(Adv.zero m).mono (by simp)
 |succ k ih =>
  intro hl;have e1:(((k+1:Nat):Int))*(c+1)=k*(c+1)+(c+1):=by rw[jD9,Int.add_mul];simp
  rw[e1]at hl;obtain⟨es,ns,ms,q0,q1,q2,q3,q4,q5⟩:=ih (hl.mono (by omega));have a1:=q3 k (jA _);have hl1:=Lim.adv (c:=k*(c+1)) (c':=c+1) hl a1;obtain⟨e,mm,g1,g2,g3,g4,g5⟩:=hk (ms k) r t (envs k) (hx.adv a1) (hl1.mono (by omega)) hr hQ ((he k).mono a1.temp1) (h1 k) (h2 k);have hl2:=Lim.adv (c:=c) (c':=1) hl1 g2;obtain⟨s,hs⟩:=zEg mm hl2.name1 (by have:=hl2.name2;omega);have a2:=g2.trans (zBf mm);refine⟨es++[e],ns++[s],fun j=>if j<=k then ms j else {mm with name:=mm.name+1},by simp[q0],by simp[q1],by simp[q2],fun j hj=>?_,?_,fun j hj hj'=>?_⟩
  .by_cases hle:j<=k
   .simp only[hle,if_true];exact q3 j hle
   .have:j=k+1:=by omega
    subst this;simp only[show ¬(k+1<=k) by omega,if_false];rw[e1];exact a1.trans a2
  .rw[oT];simp only[show ¬(k+1<=k) by omega,if_false];exact q4.append g4 a1.temp1 g2.temp1
  .simp only[jA5,jAz,q0]at hj;by_cases hlt:j<k
   .have hjes:j<es.length:=by omega
    have hjns:j<ns.length:=by omega
    rw[jBl hjes,jBl hjns];simp only[show j<=k by omega,if_true,show j+1<=k by omega];exact q5 j hjes hjns
   .have:j=k:=by omega
    subst this;rw[jC2 (by omega),jC2 (by omega)];simp only[jA,if_true,show ¬(j+1<=j) by omega,if_false,jBv,q0,q1,jCz];rw[a1.own]at g3;exact⟨mm,g1,hs,g3,g5⟩
theorem zS4{len:Nat}(hc:0<=c)(hl:Lim m (c+1))(x:Int)(hx0:0<=x)(hx1:x<=65536)(k:Nat)(h:k<hs.length)(h1:∀(j:Nat)(hj:j<k),hs[j].id≠hs[k].id)
 (h2:hs[k].kind=1)(h3:0<hs[k].slots.length)(h3':hs[k].slots.length<=6)(h4:∀s∈hs[k].slots,TyOk hs r s.typ)(hQ:Q r)
 (hk:eL hs R c (depth-1) Q len)(hx:Cx hs R m)(he:EnvOk hs R m.temp env)(h5:0<env.length)(h6:env.length<=len)(hd1 : -1000<=depth)(hd2:depth<=1000) :
 c6 hs m.own zIy m [.ptr 0 0,.agg (zB (yI hs[k].id)),.sl env.length (qC env),int x,int depth] env (yI hs[k].id) (c+1):=by
 obtain⟨hm,hdv,hhd⟩:=zXb hx h h1;generalize hD:m.defs[k]=D at hdv hhd;have eid:D.id=hs[k].id:=by rw[<-hhd];rfl
 have eslots:D.slots=hs[k].slots:=by rw[<-hhd];rfl
 have ekind:D.kind=1:=by rw[<-h2,<-hhd];rfl
 have hdl:=hx.dlen;have hd100:=hx.len;have wd:=zY (depth-1) (by omega);obtain⟨j,hj,hj1⟩:∃j:Nat,j<D.slots.length/\(j:Int)=if depth<0 then 0 else x.tmod D.slots.length:=by
  rw[eslots];by_cases hd:depth<0
  .exact⟨0,h3,by rw[if_pos hd];rfl⟩
  .refine⟨(x % hs[k].slots.length).toNat,?_,?_⟩
   .have:=jDb x (b:=(hs[k].slots.length:Int)) (by omega);have:=jD1 x (b:=(hs[k].slots.length:Int)) (by omega);omega
   .rw[if_neg hd,tmN hx0];have:=jD1 x (b:=(hs[k].slots.length:Int)) (by omega);omega
 have hjs:j<hs[k].slots.length:=by rw[<-eslots];exact hj
 have hty:D.slots[j].typ=hs[k].slots[j].typ:=by simp only[eslots]
 obtain⟨e,m',g1,g2,g3,g4,g5⟩:=hk m r D.slots[j].typ env hx (hl.mono (by omega)) (by rw[hty];exact h4 _ (jA0 hjs)) hQ he h5 h6;have hln:=Lim.adv (c:=c) (c':=1) hl g2;obtain⟨l1,l2,l3,l4,l5,l6,l7,l8⟩:=hln;refine⟨.mk ⟨0,0,m'.temp⟩ 9 j hs[k].id Typ.zero [e] [],{m' with temp:=m'.temp+1,left:=m'.left-1},?_,g2.trans (aL _),.case _ _ k h j hjs e h2 (hty▸g3),by simp only[tmps,yN,jBa];exact g4.append (Seg.one _) g2.temp1 (by omega),lN (by simpa using g5)⟩;refine zN func131 rfl zO8 (rs:=[.cell 10 15 true]) (by kernel_rfl) ?_
 simp only[zL3]
 simp[mkS,mkB,zB];refine⟨_,_,aX 1,?_⟩;simp[mkS,mkB,zB,List.replicate];refine zNE (zKK m.mods m.defs hs[k].id (by omega)) [1] (by decide) (by simp[zGy]) (by simp[zGy]) (by simp[zK]) (fun τ hτ=>by
  have:=zF5 hτ (j:=1) (o:=.row false 41 31 m.defs.length (z6 m.defs)) (by simp) (by simp)
  simpa[zGy]using this) ?_
 rw[hdv];have hnil:D.slots≠[]:=fun e=>by rw[e]at hj;simp at hj
 have hdS:List.drop (j*11+4) (jS D.slots)=(j8 D.slots[j]++jS (D.slots.drop (j+1))).drop 4:=by rw[<-jBc,qZ hj]
 have hbS:j*11+4+5<=D.slots.length*11:=by omega
 by_cases hd:depth<0
 .have hj0:j=0:=by rw[if_pos hd]at hj1;omega
  subst hj0;simp only[Nat.zero_mul,jB1]at hdS hbS;simp[mkS,mkB,zJ,ekind,hnil,hd,hj,hdS,hbS,j8,wd];intro _;refine mn g1 [0,1] (by simp[mkS,mkB,zB]) ?_;simp[mkS,mkB];refine mn (aZ m' 9 0 [e] l3 (by omega) (by omega) l6) [0,1] (by simp[mkS,mkB,zQ]) ?_;simp[mkS,mkB,zI];exact mr [0,1] 0 (by rfl) (by simp[zI,zQ,eid])
 .rw[if_neg hd]at hj1;simp[mkS,mkB,zJ,ekind,hnil,hd,<-hj1,hj,hdS,hbS,j8,wd];intro _;refine mn g1 [0,1] (by simp[mkS,mkB,zB]) ?_;simp[mkS,mkB];refine mn (aZ m' 9 j [e] l3 (by omega) (by omega) l6) [0,1] (by simp[mkS,mkB,zQ]) ?_;simp[mkS,mkB,zI];exact mr [0,1] 0 (by rfl) (by simp[zI,zQ,eid])
theorem zUV{len:Nat}(hc:0<=c)(hl:Lim m (6*c+1))(x:Int)(k:Nat)(h:k<hs.length)(h1:∀(j:Nat)(hj:j<k),hs[j].id≠hs[k].id)
 (h2:hs[k].kind=0)(h3':hs[k].slots.length<=6)(h4:∀s∈hs[k].slots,TyOk hs r s.typ)(hQ:Q r)
 (hk:eL hs R c (depth-1) Q len)(hx:Cx hs R m)(he:EnvOk hs R m.temp env)(h5:0<env.length)(h6:env.length<=len)(hd1 : -1000<=depth)(hd2:depth<=1000) :
 c6 hs m.own zIy m [.ptr 0 0,.agg (zB (yI hs[k].id)),.sl env.length (qC env),int x,int depth] env (yI hs[k].id) (6*c+1):=by
 obtain⟨hm,hdv,hhd⟩:=zXb hx h h1;generalize hD:m.defs[k]=D at hdv hhd;have eid:D.id=hs[k].id:=by rw[<-hhd];rfl
 have eslots:D.slots=hs[k].slots:=by rw[<-hhd];rfl
 have ekind:D.kind=0:=by rw[<-h2,<-hhd];rfl
 have hdl:=hx.dlen;have hd100:=hx.len;have wd:=zY (depth-1) (by omega);have hS6:D.slots.length<=6:=by rw[eslots];exact h3'
 have hsc:((D.slots.length:Int))*c<=6*c:=jDa (by omega) hc;obtain⟨es,ms,q1,q2,q3,q4,q5⟩:=zNW hk hc env h5 h6 (D.slots.map (·.typ)) m hx (hl.mono (by rw[jAe];omega)) (fun t ht=>by obtain⟨s,hs',rfl⟩:=jAd.1 ht;exact⟨r,h4 s (eslots▸hs'),hQ⟩) he
 rw[jAe]at q1 q3 q4;have ha:=(q3 D.slots.length (jA _)).mono hsc;obtain⟨l1,l2,l3,l4,l5,l6,l7,l8⟩:=Lim.adv (c:=6*c) (c':=1) hl ha;refine⟨.mk ⟨0,0,(ms es.length).temp⟩ 7 0 hs[k].id Typ.zero es [],{ms es.length with temp:=(ms es.length).temp+1,left:=(ms es.length).left-1},?_,q1▸ha.trans (aL _),.record _ _ k h es h2 (by rw[<-eslots,q1]) fun j hj=>?_,
  by simp only[tmps];rw[q1];exact q4.append (Seg.one _) ha.temp1 (by omega),lN (zBK rfl fun j hj=>(q5 j hj (by rw[jAe];omega)).2.2)⟩
 .rw[<-eid]at hdv ⊢;refine zN func131 rfl zO8 (rs:=[.cell 10 15 true]) (by kernel_rfl) ?_
  simp only[zL3]
  simp[mkS,mkB,zB];refine⟨_,_,aX 1,?_⟩;simp[mkS,mkB,zB,List.replicate];refine zNE (zKK m.mods m.defs D.id (by omega)) [1] (by decide) (by simp[zGy]) (by simp[zGy]) (by simp[zK]) (fun τ hτ=>by
   have:=zF5 hτ (j:=1) (o:=.row false 41 31 m.defs.length (z6 m.defs)) (by simp) (by simp)
   simpa[zGy]using this) ?_
  rw[hdv];simp[mkS,mkB,zJ,ekind];refine qK (S:=Nat) (fun i=>[(0,.ptr 0 0),(2,.sl env.length (qC env)),(4,int depth),(6,.ptr 2 0),(10,.ptr 3 0),(15,.ptr 4 0),(20,.row 5 i),(21,int i)])
   (fun i=>mkS (ms i)++[.box (zB (yI D.id)),.box (zI Exp.zero),.box (zJ D),.row false 39 15 i (qT (es.take i))]) (fun i=>i<=es.length) (fun i=>es.length-i) 0 (by simp)
   ((qS (t:=20) (by simp) 39 15).trans (mu [0,1,2,3,4,5] 0 (by rfl) (by simp[mkS,mkB,zB,yI,q2,zI,Exp.zero,Id.zero,Typ.zero,zJ,ekind]))) ?_
  intro i hi;have hms:=q3 i (by omega);by_cases hi2:i<es.length
  .have hid:i<D.slots.length:=by omega
   obtain⟨g1,_,_⟩:=q5 i hi2 (by rw[jAe];omega);rw[jAw]at g1;have hst:qT (es.take (i+1))=qT (es.take i)++zI es[i]:=bT hi2;have hw:=jZ i (by omega);have hdS:List.drop (i*11+4) (jS D.slots)=(j8 D.slots[i]++jS (D.slots.drop (i+1))).drop 4:=by rw[<-jBc,qZ hid]
   have hbS:i*11+4+5<=D.slots.length*11:=by omega
   simp[mkS,mkB,zJ,hid,hdS,hbS,j8,wd];intro _;refine mn g1 [0,1] (by simp[mkS,mkB,zB]) ?_;simp[mkS,mkB];refine⟨⟨by simp[maxLen];omega,by omega⟩,?_⟩;exact zO (i+1) hi2 (by omega) (mu [0,1,2,3,4,5] 0 (by rfl) (by simp[mkS,mkB,zB,yI,zI,Exp.zero,Id.zero,Typ.zero,hst,zJ,hw]))
  .have hie:i=es.length:=by omega
   subst hie;have hid:¬es.length<D.slots.length:=by omega
   rw[<-q1]at l3 l4 l5 l6;simp[mkS,mkB,zJ,hid];intro _;refine⟨qV [(0,.ptr 0 0),(10,.ptr 3 0),(15,.ptr 4 0),(20,.sl es.length (qT es))],mkS (ms es.length)++[.box (zB (yI D.id)),.box (zI Exp.zero),.box (zJ D)],mu [0,1,2,3,4] 1 (by rfl) (by simp[mkS,mkB,zB,yI,zI,Exp.zero,Id.zero,Typ.zero,zJ]),?_⟩;simp[mkS,mkB];refine mn (aZ (ms es.length) 7 0 es l3 (by omega) (by omega) l6) [0,1] (by simp[mkS,mkB]) ?_;simp[mkS,mkB,zI,zJ];exact mr [0,1] 0 (by rfl) (by simp[zI])
 .have:=(q5 j hj (by rw[jAe];omega)).2.1;rw[jAw]at this
  simpa only[eslots]using this
theorem zS6{len:Nat}(hc:0<=c)(hl:Lim m (6*c+1))(x:Int)(hx0:0<=x)(hx1:x<=65536)(t:Typ)(hr:TyOk hs r t)(hQ:∀r'<r,Q r')
 (hk:eL hs R c (depth-1) Q len)(hx:Cx hs R m)(he:EnvOk hs R m.temp env)(h5:0<env.length)(h6:env.length<=len)(hd1 : -1000<=depth)(hd2:depth<=1000) :
 c6 hs m.own zIy m [.ptr 0 0,.agg (zB t),.sl env.length (qC env),int x,int depth] env t (6*c+1):=by
 cases hr with
 |int r=>exact(zUU (R:=R) (hl.mono (by omega)) x depth hx0 hx1).mono (by omega)
 |bool r=>exact(zS3 (hl.mono (by omega)) x depth hx0).mono (by omega)
 |list r t h=>exact(zS5 hc (hl.mono (by omega)) x hx0 t h (hQ r (by omega)) hk hx he h5 h6 hd1 hd2).mono (by omega)
 |dfn r k h h1 h2 h3 h4 =>
  rcases h2 with h2|⟨h2,h2'⟩
  .exact zUV hc hl x k h h1 h2 h3 h4 (hQ r (by omega)) hk hx he h5 h6 hd1 hd2
  .exact(zS4 hc (hl.mono (by omega)) x hx0 hx1 k h h1 h2 h2' h3 h4 (hQ r (by omega)) hk hx he h5 h6 hd1 hd2).mono (by omega)
def zXe:Nat->Option wD:=fun|2=>k_ [0,0,0,0,0,0,0,0,2,2,2,0,0,0,0]|_=>none
def u9(d:Dfn):Bool:=decide (d.kind=5)&&decide (d.slots.length=1)
def zJx(p:Prg)(id:Id):A:=.tup [.agg (zJ ((jK p.defs id).getD .zero)),bl ((jK p.defs id).isSome&&u9 ((jK p.defs id).getD .zero))]
theorem zBs(p:Prg)(id:Id):mv 56 [.agg (zP p),.agg (zK id)] [] (zJx p id) []:=by
 have hP:=eP p;have hdf:=oE p id;unfold zJx;unfold bR at hdf;generalize (jK p.defs id).getD .zero=d at *
 generalize (jK p.defs id).isSome=b at *
 refine mh zXe [14] [] [] [.cell 4 31 true,.slot 5] func56 (by kernel_rfl) ?_
 (conv in kH _ _ _=>cbv)
 simp[hP,zK];refine mq hdf (by simp[zP,zK]) ?_;simp[zJ];refine⟨_,_,zM (l:=[(4,.ptr 0 0),(6,.rptr (zJ d)),(7,bl b)]) (U':=[.box (kz0.map jN)]) [2] 1 (by simp) (by simp) (by simp) (by simp[zJ]),?_⟩;cases b
 .simp[zJ];exact zA 0 (by simp[zJ])
 .by_cases h0:d.kind=5
  .by_cases h1:d.slots.length=1
   .have h1':(d.slots.length:Int)=1:=by omega
    simp[zJ,h0,h1']
    first|exact fun _=>zA 0 (by simp[zJ,h0,u9,h1])|exact zA 0 (by simp[zJ,h0,u9,h1])
   .have h1':¬(d.slots.length:Int)=1:=by omega
    simp[zJ,h0,h1']
    first|exact fun _=>zA 0 (by simp[zJ,h0,u9,h1])|exact zA 0 (by simp[zJ,h0,u9,h1])
  .simp[zJ,h0];exact zA 0 (by simp[zJ,h0,u9])
theorem zLP{id:Id}:((jK p.defs id).isSome&&u9 ((jK p.defs id).getD .zero))=(aF p id).isSome:=by
 unfold aF u9;cases jK p.defs id with
 |none=>rfl
 |some d =>
  simp only[Option.isSome_some,jB9,jBm];by_cases h:d.kind=5
  .rw[if_pos h]
   match hs:d.slots with
   |[]=>simp
   |[s]=>simp[h]
   |s::s'::l=>simp
  .rw[if_neg h];simp[h]
theorem zMy{id:Id}{a:Typ×Typ}(h:aF p id=some a):∃d s,jK p.defs id=some d/\d.kind=5/\d.slots=[s]/\a=(s.typ,d.res):=by
 unfold aF at h;cases hd:jK p.defs id with
 |none=>rw[hd]at h;cases h
 |some d =>
  rw[hd]at h;simp only at h;split at h
  .rename_i hk;split at h
   .rename_i s hs;cases h;exact⟨d,s,rfl,hk,hs,rfl⟩
   .cases h
  .cases h
def zXf:Nat->Option wD:=fun|11=>k_ [0,2002,0,2,0,1002,0,0]|_=>none
def zRX(p:Prg)(l:wF):Typ:=((aF p (l.getD 0 .zero)).getD (.zero,.zero)).1
def toN(p:Prg)(l:wF):Nat->Typ
 | 0=>.zero
 |n+1=>((aF p (l.getD n .zero)).getD (.zero,.zero)).2
def zBu(p:Prg)(l:wF):Typ×Typ×Bool:=if zBR p l=true then (if l=[]then .zero else zRX p l,toN p l l.length,decide (l≠[]))else (.zero,.zero,false)
def zDt(p:Prg)(l:wF):A:=.tup [.agg (zB (zBu p l).1),.agg (zB (zBu p l).2.1),bl (zBu p l).2.2]
theorem zUt(p:Prg)(l:wF)(hl:l.length<=1000000):mv 44 [.agg (zP p),.sl l.length (zT l)] [] (zDt p l) []:=by
 have hP:=eP p;refine mj zXf [] [.cell 4 5 true,.cell 5 5 true,.slot 6] func44 (by kernel_rfl) ?_
 (conv in zV _ _ _ _=>cbv)
 simp[hP];intro hlm;refine qK (S:=Nat) (fun i=>[(1,.sl l.length (zT l)),(2,.ptr 0 0),(4,.ptr 1 0),(5,.ptr 2 0),(11,.sl l.length (zT l)),(12,int l.length),(13,int i)]) (fun i=>[.box (zP p),.box (zB (if i=0 then .zero else zRX p l)),.box (zB (toN p l i))])
  (fun i=>i<=l.length/\r6 p l i=true) (fun i=>l.length-i) 0 (by simp[r6])
  (mu [0,1,2] 0 (by rfl) (by simp[hP,zB,toN,Typ.zero,Id.zero])) ?_
 rintro i ⟨hi,hp⟩;by_cases h:i<l.length
 .have hgd:l.getD i .zero=l[i]:=by rw[jB7,jA1 h,jB9]
  have hq:l[i]?=some l[i]:=jA1 h;have hw:=jZ i (by omega);simp[hP,h,yS h];refine mq (zBs p l[i]) (by simp[hP,zK,zJx]) ?_;rw[zJx,zLP];cases hc:aF p l[i]with
  |none =>
   have hbad:zBR p l=false:=zHw h (by rw[zDJ,hgd,hc]);simp[zB];exact zA 0 (by simp[zDt,zBu,hbad,zB,Typ.zero,Id.zero])
  |some a =>
   obtain⟨d,s,hd,hk,hs,rfl⟩:=zMy hc;have hcs:jS [s]=j8 s:=by simp[jS]
   have hfro:l.getD 0 .zero=l[0]:=by rw[jB7,jA1 (by omega),jB9]
   by_cases h0:i=0
   .subst h0;simp[hP,hd,zB,zJ,hs,hcs,j8];refine zO 1 ⟨h,by simp[r6,zDJ,hq,hc]⟩ (by omega) (mu [0,1,2] 0 (by rfl) (by simp[hP,zB,toN,zRX,hq,hc,show IntKind.i64.wrap 1=1 from by decide]))
   .have hi0:(0:Int)<i:=by omega
    obtain⟨j,rfl⟩:∃j,i=j+1:=⟨i-1,by omega⟩;have hqj:l[j]?=some l[j]:=jA1 (by omega);have hgj:l.getD j .zero=l[j]:=by rw[jB7,jA1 (by omega),jB9]
    obtain⟨b,hb⟩:∃b,aF p l[j]=some b:=by
     simp only[r6,jA7]at hp;have h2:=hp.2;rw[zDJ,hgj]at h2;cases hb:aF p l[j]with
     |none=>rw[hb]at h2;cases h2
     |some b=>exact⟨b,rfl⟩
    have hto:toN p l (j+1)=b.2:=by simp[toN,hqj,hb]
    have hst:zDJ p l (j+1)=aU s.typ b.2:=by rw[zDJ,hgd,hc];simp[hqj,hb]
    simp[hP,hd,zB,zJ,hs,hcs,j8,hi0];refine z7 (zDE s.typ (toN p l (j+1))) (by simp[zB]) (by simp) ?_;rw[hto];cases hsm:aU s.typ b.2
    .have hbad:zBR p l=false:=zHw h (by rw[hst,hsm]);simp[zB];exact zA 0 (by simp[zDt,zBu,hbad,zB,Typ.zero,Id.zero])
    .have hn1:¬((j:Int)+1=0):=by omega
     simp[hP,zB,zJ,hn1];refine zO (j+2) ⟨h,by rw[r6,hp,hst,hsm];rfl⟩ (by omega) (m_ [0,1,2] 0 (by rfl) (by simp[hP,zB,toN,hq,hc]) (by simp[show IntKind.i64.wrap ((j:Int)+1+1)=(j:Int)+2 from IntWalk.i64_in _ (by omega)]))
 .have hi':i=l.length:=by omega
  subst hi';have hpv:zBR p l=true:=hp;have hpos:((0:Int)<l.length)=(l≠[]):=by apply propext;rw[<-List.length_pos_iff];omega
  simp[hP,zB,hpos]
  first|exact fun _=>zA 0 (by simp[zDt,zBu,hpv,zB,List.length_pos_iff])|exact zA 0 (by simp[zDt,zBu,hpv,zB,List.length_pos_iff])
theorem zBV(p:Prg)(hL:p.defs.length<=1000000)(t:Typ)(v:Val):mv 91 [.agg (zP p),.agg (zB t),.agg (zF v)] [] (bl (bY p t v)) []:=by
 refine ml [] [.slot 6] func91 (by kernel_rfl) ?_
 (conv in kq _ _=>cbv)
 simp[zP,zB,zF];refine mq (vZ p hL t) (by simp[zP,zB]) ?_;cases hv:validT p t with
 |false =>
  simp;exact zA 0 (by simp[zJB hv])
 |true =>
 by_cases h0:t.k=0
 .have e:bY p t v=(decide (v.k=0)&&decide (v.kids.length=0)&&decide (-1099511627776<=v.n)&&decide (v.n<=1099511627776)):=by rw[eA,hv,if_pos h0,jBm]
  by_cases c1:v.k=0
  .by_cases c2:v.kids.length=0
   .by_cases c3 : -1099511627776<=v.n
    all_goals
     simp[hv,h0,c1,c2,c3];exact zA 0 (by rw[e];simp[c1,c2,c3])
   .simp[hv,h0,c1,c2];exact fun _=>zA 0 (by rw[e];simp[c1,c2])
  .simp[hv,h0,c1];exact zA 0 (by rw[e];simp[c1])
 by_cases h1:t.k=1
 .have e:bY p t v=(decide (v.k=1)&&decide (v.kids.length=0)&&(decide (v.n=0)||decide (v.n=1))):=by rw[eA,hv,if_neg h0,if_pos h1,jBm]
  by_cases c1:v.k=1
  .by_cases c2:v.kids.length=0
   .by_cases c3:v.n=0
    all_goals
     simp[hv,h1,c1,c2,c3];exact zA 0 (by rw[e];simp[c1,c2,c3])
   .simp[hv,h1,c1,c2];exact fun _=>zA 0 (by rw[e];simp[c1,c2])
  .simp[hv,h1,c1];exact zA 0 (by rw[e];simp[c1])
 by_cases h2:t.k=2
 .obtain⟨x,hx⟩:=zFV hv h2;have e:bY p t v=(decide (v.k=4)&&decide (v.n=0)&&v.kids.all (bY p x)):=by rw[eA,hv,if_neg h0,if_neg h1,if_pos h2,jBm,hx];rfl
  simp[hv,h2,hx];refine qK (S:=Nat) (fun i=>[(3,.ptr 0 0),(4,.ptr 1 0),(5,.ptr 2 0),(7,int i)])
   (fun i=>[.box (zP p),.box (zB t),.box (zF v)]) (fun i=>i<=v.kids.length/\v.kids.all (bY p x)=(v.kids.drop i).all (bY p x)) (fun i=>v.kids.length-i) 0 (by simp)
   (mu [0,1,2] 0 (by rfl) (by simp[zP,zB,zF,h2,hx])) ?_
  rintro i ⟨hi,ho⟩;by_cases hil:i<v.kids.length
  .have d1:v.kids.drop i=v.kids[i]::v.kids.drop (i+1):=jAo hil;simp[hil,qL hil,zP,zB,zF,hx,qI];intro hl;refine z7 (zBV p hL x v.kids[i]) (by simp[zP,zB,zF]) (by simp) ?_;cases hf:bY p x v.kids[i]with
   |true =>
    simp;exact zO (i+1) ⟨hil,by rw[ho,d1,List.all_cons,hf,jBm]⟩ (by omega) (mu [0,1,2] 0 (by rfl) (by simp[zP,zB,zF,hx,qI,z8 hil hl]))
   |false =>
    simp;exact zA 0 (by rw[e,ho,d1,List.all_cons,hf];simp)
  .have:i=v.kids.length:=by omega
   subst this;rw[jCf (jA v.kids.length)]at ho;by_cases c1:v.k=4
   all_goals
    simp[zP,zB,zF,c1];exact fun _=>zA 0 (by rw[e,ho];simp[c1])
 have e:=eA p t v;rw[hv,if_neg h0,if_neg h1,if_neg h2,jBm]at e;simp[hv,h0,h1,h2];refine mq (i4 p hL t.id) (by simp[zP,zK,bR]) ?_;have hD:(jK p.defs t.id).getD .zero=dfn p t.id:=rfl;generalize dfn p t.id=D at hD e;by_cases hk:D.kind=1
 .rw[if_pos hk]at e;by_cases c1:v.k=3
  .by_cases c2:0<=v.n
   .by_cases c3:v.n<D.slots.length
    .by_cases c4:v.kids.length=1
     .obtain⟨x,hx⟩:∃x,v.kids=[x]:=List.length_eq_one_iff.1 c4;obtain⟨i,hi⟩:∃i:Nat,v.n=i:=⟨v.n.toNat,by omega⟩;have hil:i<D.slots.length:=by omega
      have hil':¬D.slots.length<=i:=by omega
      have hi0:¬((i:Int)<0):=by omega
      simp[bR,hD,zJ,hk,c1,hi,hi0,hil,hil',hx,qZ hil,j8];intro _ _;refine z7 (zBV p hL D.slots[i].typ x) (by simp[zP,zB,zF]) (by simp) ?_;simp;exact zA 0 (by rw[e];simp[c1,hi,hil,hx,zJA])
     .have c4':¬(v.kids.length:Int)=1:=by omega
      have c3':¬(D.slots.length:Int)<=v.n:=by omega
      have c2':¬v.n<0:=by omega
      simp[bR,hD,zJ,hk,c1,c2',c3',c4']
      first|exact zA 0 (by rw[e];simp[c1,c2,c3,c4])|exact fun _=>zA 0 (by rw[e];simp[c1,c2,c3,c4])|exact fun _ _=>zA 0 (by rw[e];simp[c1,c2,c3,c4])
    .have c3':(D.slots.length:Int)<=v.n:=by omega
     have c2':¬v.n<0:=by omega
     simp[bR,hD,zJ,hk,c1,c2',c3']
     first|exact zA 0 (by rw[e];simp[c1,c2,c3])|exact fun _=>zA 0 (by rw[e];simp[c1,c2,c3])
   .have c2':v.n<0:=by omega
    simp[bR,hD,zJ,hk,c1,c2'];exact zA 0 (by rw[e];simp[c1,c2])
  .simp[bR,hD,zJ,hk,c1];exact zA 0 (by rw[e];simp[c1])
 rw[if_neg hk]at e;by_cases c1:v.k=2
 .by_cases c2:v.n=0
  .by_cases c3:v.kids.length=D.slots.length
   .simp[bR,hD,zJ,hk,c1,c2,c3];intro hl;refine qK (S:=Nat) (fun i=>[(3,.ptr 0 0),(5,.ptr 2 0),(8,.ptr 3 0),(10,int i)])
     (fun i=>[.box (zP p),.box (zB t),.box (zF v),.box (zJ D)]) (fun i=>i<=v.kids.length/\dU p (D.slots.map Slt.typ) v.kids=dU p ((D.slots.map Slt.typ).drop i) (v.kids.drop i)) (fun i=>v.kids.length-i) 0 (by simp)
     (mu [0,1,2,3] 0 (by rfl) (by simp[zP,zB,zF,zJ,hk,c1,c2,c3])) ?_
    rintro i ⟨hi,ho⟩;by_cases hil:i<v.kids.length
    .have hiD:i<D.slots.length:=by omega
     have d1:v.kids.drop i=v.kids[i]::v.kids.drop (i+1):=jAo hil;have d2:(D.slots.map Slt.typ).drop i=D.slots[i].typ::(D.slots.map Slt.typ).drop (i+1):=by rw[jAo (by simpa using hiD)];simp
     simp[hil,hiD,qL hil,qZ hiD,zP,zJ,j8,zF];intro _;refine z7 (zBV p hL D.slots[i].typ v.kids[i]) (by simp[zP,zB,zF]) (by simp) ?_;cases hf:bY p D.slots[i].typ v.kids[i]with
     |true =>
      simp;exact zO (i+1) ⟨hil,by rw[ho,d1,d2];simp[dU,hf]⟩ (by omega) (mu [0,1,2,3] 0 (by rfl) (by simp[zP,zB,zF,zJ,z8 hil (c3▸hl)]))
     |false =>
      simp;exact zA 0 (by rw[e,ho,d1,d2];simp[dU,hf])
    .have:i=v.kids.length:=by omega
     subst this;simp[zP,zF]
     first|exact zA 0 (by rw[e,ho,jCf (jA v.kids.length),zC7];simp[c1,c2,c3])|exact fun _=>zA 0 (by rw[e,ho,jCf (jA v.kids.length),zC7];simp[c1,c2,c3])
   .have c3':¬(v.kids.length:Int)=D.slots.length:=by omega
    simp[bR,hD,zJ,hk,c1,c2,c3']
    first|exact zA 0 (by rw[e];simp[c1,c2,c3])|exact fun _=>zA 0 (by rw[e];simp[c1,c2,c3])|exact fun _ _=>zA 0 (by rw[e];simp[c1,c2,c3])
  .simp[bR,hD,zJ,hk,c1,c2];exact zA 0 (by rw[e];simp[c1,c2])
 .simp[bR,hD,zJ,hk,c1];exact zA 0 (by rw[e];simp[c1])
termination_by qN v
decreasing_by
 .exact aW (jA0 _)
 .exact aW (by simp[hx])
 .exact aW (jA0 _)
def qGc:Nat->Option wD:=fun|5=>k_ [0,0,0,0,2,2,2002,0,0,0,0,0,1002,0,4,0] | 20=>k_ [0,0,2002,0,0,0,0,0,1002,0,4,0] | 23=>k_ [0,2002,0,0,0,0,0,1002,0,4,0]|_=>none
noncomputable def zEl:{k:K//zV prog f138 qGc []=k}:=⟨_,by conv=>lhs;cbv⟩
theorem zGi:kv f138 qGc zEl.1:=mw (by kernel_rfl)
variable{x:Operand}
@[simp]theorem qHL{d:wC}{n:Nat}{g:Bool}{env:Env}:c9 2002 (.ld d x n g) env=fW 2 (ev env x):=propext (x7 (by omega) (by omega))
@[simp]theorem qAo{d:wC}{l:List Operand}{env:Env}:c9 1002 (.call d x l) env=True:=rfl
@[simp]theorem zXm{c l o:Nat}:fW c (.ptr l o)=(c<=l):=rfl
abbrev opF:FuncId:=138
theorem zAZ{len:Nat}(hk:eL hs R c depth Q len)(hx:Cx hs R m){c':Int}(hl:Lim m (2*c+c'))(hc:0<=c)(hc':0<=c')(he:EnvOk hs R m.temp env)(h1:0<env.length)(h2:env.length<=len)
 (t u:Typ){r':Nat}(ht:TyOk hs r t)(hu:TyOk hs r' u)(hQ:Q r)(hQ':Q r') :
 ∃(a b:Exp) (m1 m2:Mk),mv bX [.ptr 0 0,.agg (zB t),.sl env.length (qC env),int depth] (mkS m) (.agg (zI a)) (mkS m1) /\
  mv bX [.ptr 0 0,.agg (zB u),.sl env.length (qC env),int depth] (mkS m1) (.agg (zI b)) (mkS m2) /\
  Adv m m2 (2*c)/\WT hs m.own env a t/\WT hs m.own env b u/\Seg m.temp m2.temp (tmps a++tmps b)/\a.num0/\b.num0/\Lim m2 c':=by
 obtain⟨a,m1,g1,g2,g3,g4,g5⟩:=hk m r t env hx (hl.mono (by omega)) ht hQ he h1 h2;have hl1:Lim m1 (c+c'):=Lim.adv (c:=c) (hl.mono (by omega)) g2;obtain⟨b,m2,k1,k2,k3,k4,k5⟩:=hk m1 r' u env (hx.adv g2) (hl1.mono (by omega)) hu hQ' (he.mono g2.temp1) h1 h2;rw[g2.own]at k3;exact⟨a,b,m1,m2,g1,k1,(g2.trans k2).mono (by omega),g3,k3,g4.append k4 g2.temp1 k2.temp1,g5,k5,Lim.adv hl1 k2⟩
variable{a:Exp}
theorem tW{b:Exp}{t0 t1:Int}{k n:Int}(h:Seg t0 t1 (tmps a++tmps b))(h1:t0<=t1):Seg t0 (t1+1) (tmps (.mk ⟨0,0,t1⟩ k n Id.zero Typ.zero [a,b] [])):=by simp only[tmps,yN,jBa];exact h.append (Seg.one _) h1 (by omega)
theorem oN{b:Exp}{c k n:Int}(h1:a.num0)(h2:b.num0):(Exp.mk ⟨0,0,c⟩ k n Id.zero Typ.zero [a,b] []).num0:=lN (by simp[h1,h2])
theorem zFp{c k n:Int}{r:Id}(h1:a.num0):(Exp.mk ⟨0,0,c⟩ k n r Typ.zero [a] []).num0:=lN (by simp[h1])
theorem zIE{t0 t1:Int}{k n:Int}{r:Id}(h:Seg t0 t1 (tmps a))(h1:t0<=t1):Seg t0 (t1+1) (tmps (.mk ⟨0,0,t1⟩ k n r Typ.zero [a] [])):=by simp only[tmps,yN,jBa];exact h.append (Seg.one _) h1 (by omega)
theorem zFa:mv 126 [.agg (zB jO)] [] (.agg (zB (yC jO))) []:=zUT jO
theorem zZH{len:Nat}(hc:0<=c)(hl2:Lim m (2*c+1))(x:Int)(hx0:0<=x)(hx1:x<=65536)
 (hk:eL hs R c (depth-1) (fun r=>r<=R) len)(hR:1<=R)(hx:Cx hs R m)(he:EnvOk hs R m.temp env)(h1:0<env.length)(h2:env.length<=len)(h3:env.length<=1000)(hd1 : -1000<=depth)(hd2:depth<=1000) :
 c6 hs m.own opF m [.ptr 0 0,.agg (zB jO),.sl env.length (qC env),int x,int depth] env jO (2*c+1):=by
 have e6:x.tmod 6=x % 6:=tmN hx0;have e5:x.tmod 5=x % 5:=tmN hx0;have wd:=zY (depth-1) (by omega);by_cases h6:x.tmod 6=5
 .obtain⟨a,m1,g1,k2,k3,k4,k5⟩:=hk m 1 (yC jO) env hx (hl2.mono (by omega)) (.list _ _ (.int _)) hR he h1 h2;obtain⟨l1,l2,l3,l4,l5,l6,l7,l8⟩:=Lim.adv (c:=c) (c':=1) (hl2.mono (by omega)) k2;refine⟨.mk ⟨0,0,m1.temp⟩ 4 11 Id.zero Typ.zero [a] [],{m1 with temp:=m1.temp+1,left:=m1.left-1},?_,(k2.trans (aL _)).mono (by omega),.len _ _ _ _ k3,zIE k4 k2.temp1,zFp k5⟩;refine zN func138 rfl zGi (rs:=[.cell 10 15 true]) (by kernel_rfl) ?_
  simp only[zEl]
  simp[mkS,mkB,zB,jO,h6];refine mq zFa (by simp[zB,jO]) ?_;simp[mkS,mkB,zB,wd];refine mn g1 [0,1] (by simp[mkS,mkB,zB,yC]) ?_;simp[mkS,mkB];refine mn (aZ m1 4 11 [a] l3 (by omega) (by omega) l6) [0,1] (by simp[mkS,mkB,zQ]) ?_;simp[mkS,mkB];exact mr [0,1] 0 (by rfl) (by simp[zI,zQ])
 .obtain⟨a,b,m1,m2,g1,g2,k2,k3,k3',k4,k5,k6,hln⟩:=zAZ (t:=jO) (u:=jO) (c':=1) hk hx hl2 hc (by omega) he h1 h2 (.int 0) (.int 0) (by omega) (by omega);obtain⟨l1,l2,l3,l4,l5,l6,l7,l8⟩:=hln;obtain⟨rest,hA⟩:∃rest,List.drop (x.tmod 5).toNat [A.lit (.int .i64 0),A.lit (.int .i64 1),A.lit (.int .i64 2),A.lit (.int .i64 3),A.lit (.int .i64 4)]=A.lit (.int .i64 (x.tmod 5))::rest:=by
   have:x.tmod 5=0\/x.tmod 5=1\/x.tmod 5=2\/x.tmod 5=3\/x.tmod 5=4:=by omega
   rcases this with e|e|e|e|e<;>rw[e]<;>exact⟨_,rfl⟩
  have a0:0<=x.tmod 5:=by omega
  have a1:(x.tmod 5).toNat<5:=by omega
  have a1':x.tmod 5<5:=by omega
  refine⟨.mk ⟨0,0,m2.temp⟩ 4 (x.tmod 5) Id.zero Typ.zero [a,b] [],{m2 with temp:=m2.temp+1,left:=m2.left-1},?_,k2.trans (aL _),.arith _ _ _ _ _ a0 (by omega) k3 k3',tW k4 k2.temp1,oN k5 k6⟩;refine zN func138 rfl zGi (rs:=[.cell 10 15 true]) (by kernel_rfl) ?_
  simp only[zEl]
  simp[mkS,mkB,zB,jO,h6,wd];refine mn g1 [0,1] (by simp[mkS,mkB,zB]) ?_;simp[mkS,mkB,zB,hA,a0,a1,a1',wd];refine aP g2 [0,1] (by decide) (by simp[mkS,mkB]) (by simp[zB]) (by decide) (by simp) (by simp[mkS]) ?_;simp[mkS,mkB];refine b6 (aZ m2 4 (x.tmod 5) [a,b] l3 (by omega) (by omega) l6) [0,1] (by decide) (by simp[mkS,mkB]) (by simp[zQ]) ?_;simp[mkS,mkB,zI,zQ];exact mr [0,1] 0 (by rfl) (by simp[zI,zQ])
theorem zVn{len:Nat}(hc:0<=c)(hl2:Lim m (2*c+1))(x:Int)(hx0:0<=x)(hx1:x<=65536)
 (hk:eL hs R c (depth-1) (fun r=>r<=R) len)(hR:1<=R)(hx:Cx hs R m)(he:EnvOk hs R m.temp env)(h1:0<env.length)(h2:env.length<=len)(h3:env.length<=1000)(hd1 : -1000<=depth)(hd2:depth<=1000) :
 c6 hs m.own opF m [.ptr 0 0,.agg (zB jX),.sl env.length (qC env),int x,int depth] env jX (2*c+1):=by
 have e6:x.tmod 6=x % 6:=tmN hx0;have d6:x.tdiv 6=x / 6:=tdN hx0;have wd:=zY (depth-1) (by omega);have w0:IntKind.i64.wrap 0=0:=IntWalk.i64_in _ (by omega);have w1:IntKind.i64.wrap 1=1:=IntWalk.i64_in _ (by omega);have:x.tmod 6=0\/x.tmod 6=1\/x.tmod 6=2\/x.tmod 6=3\/x.tmod 6=4\/x.tmod 6=5:=by omega
 rcases this with e|e|e|e|e|e
 .obtain⟨a,m1,g1,k2,k3,k4,k5⟩:=hk m 0 jX env hx (hl2.mono (by omega)) (.bool _) (by omega) he h1 h2;obtain⟨l1,l2,l3,l4,l5,l6,l7,l8⟩:=Lim.adv (c:=c) (c':=1) (hl2.mono (by omega)) k2;refine⟨.mk ⟨0,0,m1.temp⟩ 4 9 Id.zero Typ.zero [a] [],{m1 with temp:=m1.temp+1,left:=m1.left-1},?_,(k2.trans (aL _)).mono (by omega),.not _ _ _ k3,zIE k4 k2.temp1,zFp k5⟩;refine zN func138 rfl zGi (rs:=[.cell 10 15 true]) (by kernel_rfl) ?_
  simp only[zEl]
  simp[mkS,mkB,zB,jX,e,wd];refine mn g1 [0,1] (by simp[mkS,mkB,zB]) ?_;simp[mkS,mkB];refine mn (aZ m1 4 9 [a] l3 (by omega) (by omega) l6) [0,1] (by simp[mkS,mkB,zQ]) ?_;simp[mkS,mkB];exact mr [0,1] 0 (by rfl) (by simp[zI,zQ])
 .obtain⟨a,b,m1,m2,g1,g2,k2,k3,k3',k4,k5,k6,hln⟩:=zAZ (t:=jO) (u:=jO) (c':=1) hk hx hl2 hc (by omega) he h1 h2 (.int 0) (.int 0) (by omega) (by omega);obtain⟨l1,l2,l3,l4,l5,l6,l7,l8⟩:=hln;refine⟨.mk ⟨0,0,m2.temp⟩ 4 5 Id.zero Typ.zero [a,b] [],{m2 with temp:=m2.temp+1,left:=m2.left-1},?_,k2.trans (aL _),.less _ _ _ _ k3 k3',tW k4 k2.temp1,oN k5 k6⟩;refine zN func138 rfl zGi (rs:=[.cell 10 15 true]) (by kernel_rfl) ?_
  simp only[zEl]
  simp[mkS,mkB,zB,jX,e,wd];refine mn g1 [0,1] (by simp[mkS,mkB,zB]) ?_;simp[mkS,mkB,zB,wd];refine aP g2 [0,1] (by decide) (by simp[mkS,mkB]) (by simp[zB]) (by decide) (by simp) (by simp[mkS]) ?_;simp[mkS,mkB];refine b6 (aZ m2 4 5 [a,b] l3 (by omega) (by omega) l6) [0,1] (by decide) (by simp[mkS,mkB]) (by simp[zQ]) ?_;simp[mkS,mkB,zI,zQ];exact mr [0,1] 0 (by rfl) (by simp[zI,zQ])
 .obtain⟨a,b,m1,m2,g1,g2,k2,k3,k3',k4,k5,k6,hln⟩:=zAZ (t:=jO) (u:=jO) (c':=1) hk hx hl2 hc (by omega) he h1 h2 (.int 0) (.int 0) (by omega) (by omega);obtain⟨l1,l2,l3,l4,l5,l6,l7,l8⟩:=hln;refine⟨.mk ⟨0,0,m2.temp⟩ 4 6 Id.zero Typ.zero [a,b] [],{m2 with temp:=m2.temp+1,left:=m2.left-1},?_,k2.trans (aL _),.same _ _ _ _ jO k3 k3',tW k4 k2.temp1,oN k5 k6⟩;refine zN func138 rfl zGi (rs:=[.cell 10 15 true]) (by kernel_rfl) ?_
  simp only[zEl]
  simp[mkS,mkB,zB,jX,e,wd];refine mn g1 [0,1] (by simp[mkS,mkB,zB]) ?_;simp[mkS,mkB,zB,wd];refine aP g2 [0,1] (by decide) (by simp[mkS,mkB]) (by simp[zB]) (by decide) (by simp) (by simp[mkS]) ?_;simp[mkS,mkB];refine b6 (aZ m2 4 6 [a,b] l3 (by omega) (by omega) l6) [0,1] (by decide) (by simp[mkS,mkB]) (by simp[zQ]) ?_;simp[mkS,mkB,zI,zQ];exact mr [0,1] 0 (by rfl) (by simp[zI,zQ])
 .obtain⟨j,hj,e1⟩:∃j:Nat,j<env.length/\(x.tdiv 6).tmod (env.length:Int)=j:=by
   have q0:0<=x.tdiv 6:=by omega
   have q1:=jDb (x.tdiv 6) (b:=(env.length:Int)) (by omega);have q2:=jD1 (x.tdiv 6) (b:=(env.length:Int)) (by omega);exact⟨((x.tdiv 6) % env.length).toNat,by omega,by rw[tmN q0];omega⟩
  have hdr:=iV hj;have hdr4:List.drop (j*9+4) (qC env)=(c7 env[j]++qC (env.drop (j+1))).drop 4:=by rw[<-jBc,hdr]
  have hb4:j*9+4+5<=env.length*9:=by omega
  have hne:¬((env.length:Int)=0):=by omega
  have hnil:env≠[]:=fun e=>by rw[e]at h1;simp at h1
  have htu:=he.typs env[j] (jA0 hj);have w6:=zY (x.tdiv 6) (by omega);obtain⟨a,b,m1,m2,g1,g2,k2,k3,k3',k4,k5,k6,hln⟩:=zAZ (t:=env[j].typ) (u:=env[j].typ) (c':=1) hk hx hl2 hc (by omega) he h1 h2 htu htu (by omega) (by omega);obtain⟨l1,l2,l3,l4,l5,l6,l7,l8⟩:=hln;refine⟨.mk ⟨0,0,m2.temp⟩ 4 6 Id.zero Typ.zero [a,b] [],{m2 with temp:=m2.temp+1,left:=m2.left-1},?_,k2.trans (aL _),.same _ _ _ _ env[j].typ k3 k3',tW k4 k2.temp1,oN k5 k6⟩;refine zN func138 rfl zGi (rs:=[.cell 10 15 true]) (by kernel_rfl) ?_
  simp only[zEl]
  simp[mkS,mkB,zB,jX,e,wd,e1,hne,hnil,hj,hdr4,hb4,c7,w6];intro _;refine mn g1 [0,1] (by simp[mkS,mkB,zB]) ?_;simp[mkS,mkB,zB,wd];refine aP g2 [0,1] (by decide) (by simp[mkS,mkB]) (by simp[zB]) (by decide) (by simp) (by simp[mkS]) ?_;simp[mkS,mkB];refine b6 (aZ m2 4 6 [a,b] l3 (by omega) (by omega) l6) [0,1] (by decide) (by simp[mkS,mkB]) (by simp[zQ]) ?_;simp[mkS,mkB,zI,zQ];exact mr [0,1] 0 (by rfl) (by simp[zI,zQ])
 .obtain⟨a,b,m1,m2,g1,g2,k2,k3,k3',k4,k5,k6,hln⟩:=zAZ (t:=jX) (u:=jX) (c':=1) hk hx hl2 hc (by omega) he h1 h2 (.bool 0) (.bool 0) (by omega) (by omega);obtain⟨l1,l2,l3,l4,l5,l6,l7,l8⟩:=hln;refine⟨.mk ⟨0,0,m2.temp⟩ 4 7 Id.zero Typ.zero [a,b] [],{m2 with temp:=m2.temp+1,left:=m2.left-1},?_,k2.trans (aL _),.andor _ _ _ _ _ (.inl rfl) k3 k3',tW k4 k2.temp1,oN k5 k6⟩;refine zN func138 rfl zGi (rs:=[.cell 10 15 true]) (by kernel_rfl) ?_
  simp only[zEl]
  simp[mkS,mkB,zB,jX,e,wd,w0];refine mn g1 [0,1] (by simp[mkS,mkB,zB]) ?_;simp[mkS,mkB,zB,wd];refine aP g2 [0,1] (by decide) (by simp[mkS,mkB]) (by simp[zB]) (by decide) (by simp) (by simp[mkS]) ?_;simp[mkS,mkB];refine b6 (aZ m2 4 7 [a,b] l3 (by omega) (by omega) l6) [0,1] (by decide) (by simp[mkS,mkB]) (by simp[zQ]) ?_;simp[mkS,mkB,zI,zQ];exact mr [0,1] 0 (by rfl) (by simp[zI,zQ])
 .obtain⟨a,b,m1,m2,g1,g2,k2,k3,k3',k4,k5,k6,hln⟩:=zAZ (t:=jX) (u:=jX) (c':=1) hk hx hl2 hc (by omega) he h1 h2 (.bool 0) (.bool 0) (by omega) (by omega);obtain⟨l1,l2,l3,l4,l5,l6,l7,l8⟩:=hln;refine⟨.mk ⟨0,0,m2.temp⟩ 4 8 Id.zero Typ.zero [a,b] [],{m2 with temp:=m2.temp+1,left:=m2.left-1},?_,k2.trans (aL _),.andor _ _ _ _ _ (.inr rfl) k3 k3',tW k4 k2.temp1,oN k5 k6⟩;refine zN func138 rfl zGi (rs:=[.cell 10 15 true]) (by kernel_rfl) ?_
  simp only[zEl]
  simp[mkS,mkB,zB,jX,e,wd,w1];refine mn g1 [0,1] (by simp[mkS,mkB,zB]) ?_;simp[mkS,mkB,zB,wd];refine aP g2 [0,1] (by decide) (by simp[mkS,mkB]) (by simp[zB]) (by decide) (by simp) (by simp[mkS]) ?_;simp[mkS,mkB];refine b6 (aZ m2 4 8 [a,b] l3 (by omega) (by omega) l6) [0,1] (by decide) (by simp[mkS,mkB]) (by simp[zQ]) ?_;simp[mkS,mkB,zI,zQ];exact mr [0,1] 0 (by rfl) (by simp[zI,zQ])
theorem zVo{len:Nat}(hc:0<=c)(hl2:Lim m (2*c+1))(x:Int)(hx0:0<=x)(hx1:x<=65536)
 (hk:eL hs R c (depth-1) (fun r=>r<=R) len)(hR:1<=R)(hx:Cx hs R m)(he:EnvOk hs R m.temp env)(h1:0<env.length)(h2:env.length<=len)(h3:env.length<=1000)(hd1 : -1000<=depth)(hd2:depth<=1000)(t:Typ)(ht:TyOk hs R (yC t))(h5:x.tmod 2=0) :
 c6 hs m.own opF m [.ptr 0 0,.agg (zB (yC t)),.sl env.length (qC env),int x,int depth] env (yC t) (2*c+1):=by
 have wd:=zY (depth-1) (by omega);obtain⟨a,b,m1,m2,g1,g2,k2,k3,k3',k4,k5,k6,hln⟩:=zAZ (t:=(yC t)) (u:=(yC t)) (c':=1) hk hx hl2 hc (by omega) he h1 h2 ht ht (by omega) (by omega);obtain⟨l1,l2,l3,l4,l5,l6,l7,l8⟩:=hln;refine⟨.mk ⟨0,0,m2.temp⟩ 4 10 Id.zero Typ.zero [a,b] [],{m2 with temp:=m2.temp+1,left:=m2.left-1},?_,k2.trans (aL _),.join _ _ _ _ _ k3 k3',tW k4 k2.temp1,oN k5 k6⟩;refine zN func138 rfl zGi (rs:=[.cell 10 15 true]) (by kernel_rfl) ?_
 simp only[zEl]
 simp[mkS,mkB,zB,yC,h5,wd];refine mn g1 [0,1] (by simp[mkS,mkB,zB,yC]) ?_;simp[mkS,mkB,zB,wd];refine aP g2 [0,1] (by decide) (by simp[mkS,mkB]) (by simp[zB,yC]) (by decide) (by simp) (by simp[mkS]) ?_;simp[mkS,mkB];refine b6 (aZ m2 4 10 [a,b] l3 (by omega) (by omega) l6) [0,1] (by decide) (by simp[mkS,mkB]) (by simp[zQ]) ?_;simp[mkS,mkB,zI,zQ];exact mr [0,1] 0 (by rfl) (by simp[zI,zQ])
theorem zZI{len:Nat}(hc:0<=c)(hl2:Lim m (2*c+1))(x:Int)(hx0:0<=x)(hx1:x<=65536)
 (hk:eL hs R c (depth-1) (fun r=>r<=R) len)(hR:1<=R)(hx:Cx hs R m)(he:EnvOk hs R m.temp env)(h1:0<env.length)(h2:env.length<=len)(h3:env.length<=1000)(hd1 : -1000<=depth)(hd2:depth<=1000)(t:Typ)(ht:TyOk hs R t)(h4:t.k≠0)(h5:t.k≠1)(h6:t.k≠2\/x.tmod 2≠0)(hl:Lim m (6*c+1)) :
 c6 hs m.own opF m [.ptr 0 0,.agg (zB t),.sl env.length (qC env),int x,int depth] env t (6*c+1):=by
 have d2:x.tdiv 2=x / 2:=tdN hx0;have w2:=zY (x.tdiv 2) (by omega);obtain⟨e,m',g1,g2⟩:=zS6 hc hl (x.tdiv 2) (by omega) (by omega) t ht (fun r' h=>by omega) hk hx he h1 h2 hd1 hd2;refine⟨e,m',?_,g2⟩;refine zN func138 rfl zGi (rs:=[.cell 10 15 true]) (by kernel_rfl) ?_
 simp only[zEl]
 by_cases h2:t.k=2
 .have h7:x.tmod 2≠0:=h6.resolve_left (fun h=>h h2);simp[mkS,mkB,zB,h2,h7,w2];refine mn g1 [0,1] (by simp[mkS,mkB,zB,h2]) ?_;simp[mkS,mkB];exact mr [0,1] 0 (by rfl) (by simp[zI])
 .simp[mkS,mkB,zB,h2,h4,h5,w2];refine mn g1 [0,1] (by simp[mkS,mkB,zB]) ?_;simp[mkS,mkB];exact mr [0,1] 0 (by rfl) (by simp[zI])
theorem qHj{len:Nat}(hc:0<=c)(hl:Lim m (7*c+7))(x:Int)(hx0:0<=x)(hx1:x<=65536)
 (hk:eL hs R c (depth-1) (fun r=>r<=R) len)(hR:1<=R)(hx:Cx hs R m)(he:EnvOk hs R m.temp env)(h1:0<env.length)(h2:env.length<=len)(h3:env.length<=1000)(hd1 : -1000<=depth)(hd2:depth<=1000)(t:Typ)(ht:TyOk hs R t) :
 c6 hs m.own opF m [.ptr 0 0,.agg (zB t),.sl env.length (qC env),int x,int depth] env t (7*c+7):=by
 have hlit:=fun h4 h5 h6=>(zZI (hl:=hl.mono (by omega)) hc (hl.mono (by omega)) x hx0 hx1 hk hR hx he h1 h2 h3 hd1 hd2 t ht h4 h5 h6).mono (show 6*c+1<=7*c+7 by omega)
 cases ht with
 |int r=>exact(zZH hc (hl.mono (by omega)) x hx0 hx1 hk hR hx he h1 h2 h3 hd1 hd2).mono (by omega)
 |bool r=>exact(zVn hc (hl.mono (by omega)) x hx0 hx1 hk hR hx he h1 h2 h3 hd1 hd2).mono (by omega)
 |list r t h =>
  by_cases h5:x.tmod 2=0
  .exact(zVo hc (hl.mono (by omega)) x hx0 hx1 hk hR hx he h1 h2 h3 hd1 hd2 t (.list _ _ h) h5).mono (by omega)
  .exact hlit (by simp) (by simp) (.inr h5)
 |dfn r k h h1 h2 h3 h4=>exact hlit (by simp) (by simp) (.inl (by simp))
theorem zVE{n:Nat}(h:n<=1000000000):w64 (n:Int)=n:=IntWalk.i64_in _ (by omega)
theorem zDa:∀(v:Val),qN v<=100000000->sD v=qN v:=by
 intro v h;rw[zFL,lQ];have key:∀i,i<=v.kids.length->zFR (v.kids.take i)=((1+j5 (v.kids.take i):Nat):Int):=by
  intro i;induction i with
  |zero=>intro _;simp[zFR,j5]
  |succ i ih =>
   intro hi;have e1:=zDG (l:=v.kids) (i:=i) (by omega);have e2:=zCa v.kids (i+1);have e3:=lQ v;have hk:qN (v.kids[i]'(by omega))<qN v:=aW (jA0 _);rw[zDb (by omega),ih (by omega),zDa (v.kids[i]'(by omega)) (by omega),e1];rw[IntWalk.i64_in _ (by omega)];omega
 have:=key v.kids.length (jA _)
 rwa[jAt]at this
termination_by v=>qN v
theorem vA:∀(a b:wI),aQ (a++b)=max (aQ a) (aQ b)
 |[],b=>by simp[aQ]
 |x::a,b=>by simp only[jBj,aQ,vA a b];omega
mutual
theorem zGH:∀(v:Val),aD v<=qN v
 | .mk _ _ l=>by simp only[aD,qN];have:=zE7 l;omega
theorem zE7:∀(l:wI),aQ l<=j5 l
 |[]=>by simp[aQ]
 |v::l=>by simp only[aQ,j5];have:=zGH v;have:=zE7 l;omega
end
theorem zA2:∀(v:Val),qN v<=100000000->mF v=aD v:=by
 intro v h;rw[zCz,iX];have key:∀i,i<=v.kids.length->zFf (v.kids.take i)=((aQ (v.kids.take i):Nat):Int):=by
  intro i;induction i with
  |zero=>intro _;simp[zFf,aQ]
  |succ i ih =>
   intro hi;have hk:qN (v.kids[i]'(by omega))<qN v:=aW (jA0 _);rw[zCG (by omega),ih (by omega),zA2 (v.kids[i]'(by omega)) (by omega),jA6 (by omega),vA];simp only[aQ,zM7];split<;>omega
 have:=key v.kids.length (jA _);rw[jAt]at this;rw[this];have h1:=zGH v;have h2:=iX v;have:((aQ v.kids:Nat):Int)+1=((aQ v.kids+1:Nat):Int):=by omega
 rw[this,zVE (by omega)]
termination_by v=>qN v
theorem zPZ(p:Prg)(hL:p.defs.length<=1000000)(t:Typ)(v:Val)(h1:qN v<=256)(h2:aD v<=24) :
 mv 47 [.agg (zP p),.agg (zB t),.agg (zF v)] [] (bl (bY p t v)) []:=by
 refine ml [] [.slot 6] func47 (by kernel_rfl) ?_
 (conv in kq _ _=>cbv)
 have e1:(qN v:Int)<=256:=by omega
 have e2:(aD v:Int)<=24:=by omega
 simp[zP,zB,zF];refine mq (zAR v) (by simp[zF]) ?_;simp[zDa v (by omega),h1,e1];refine mq (vX v) (by simp[zF]) ?_;simp[zA2 v (by omega),h2,e2];refine mq (zBV p hL t v) (by simp[zP,zB,zF]) ?_;simp;exact zA 0 (by simp)
def qGb:Nat->Option wD:=fun|11=>k_ [0,0,0,0,0,0,0,0,0,0,0,0,0,0,0,0,0,4,0,0,0] | 12=>k_ [2,2002,0,1002,0,0,2,0]|_=>none
abbrev zM6:FuncId:=135
theorem zSI(m:Mk)(kind n:Int)(h0:0<=m.temp)(h1:m.temp<=1000000000000000)(h2 : -1000000000000000<=m.left)(h3:m.left<=1000000000000000) :
 mv 132 [.ptr 0 0,int kind,int n,.sl 0 []] (mkS m) (.agg [int 0,int 0,int m.temp,int kind,int n,int 0,int 0,int 0,int 0,int 0,int 0,int 0,.nil,.sl 0 [],.nil]) (mkS {m with temp:=m.temp+1,left:=m.left-1}):=by
 refine ml [] [.cell 8 15 true] func132 (by kernel_rfl) ?_
 (conv in kq _ _=>cbv)
 have w1:=zY (m.temp+1) (by omega);have w2:=zY m.temp (by omega);have w3:=zY (m.left-1) (by omega);simp[mkS,mkB,w1,w2,w3];exact mr [0,1] 0 (by rfl) (by simp)
def zNe(hd:Hd)(j:Nat):Typ:=match hd.slots[j]? with
 |some s=>s.typ
 |none=>jO
theorem zOw{hd:Hd}{j:Nat}(h:j<hd.slots.length):zNe hd j=hd.slots[j].typ:=by unfold zNe;rw[jA1 h]
theorem zV6{hd:Hd}(h:∀s∈hd.slots,TyOk hs R s.typ)(j:Nat):TyOk hs R (zNe hd j):=by
 unfold zNe;split
 .rename_i s hs;exact h s (jC3 hs)
 .exact .int _
theorem zKy{len:Nat}(hc:0<=c)(hl:Lim m (7*c+7))(x:Nat)(hx1:x<=65536)(hk:eL hs R c (depth-1) (fun r=>r<=R) len)(hk2:eL hs R c (depth-2) (fun r=>r<=R) len)
 (hx:Cx hs R m)(he:EnvOk hs R m.temp env)(h1:0<env.length)(h2:env.length+1<=len)(h3:env.length<=1000)(hd1 : -1000<=depth)(hd2:depth<=1000)(t:Typ)(ht:TyOk hs R t)
 (hop:c6 hs m.own opF m [.ptr 0 0,.agg (zB t),.sl env.length (qC env),int x,int depth] env t (7*c+7)) :
 c6 hs m.own zM6 m [.ptr 0 0,.agg (zB t),.sl env.length (qC env),int x,int depth] env t (7*c+7):=by
 have hdl:=hx.dlen;have hd100:=hx.len;have hd0:=hx.len0;have wd:=zY (depth-1) (by omega);have wd2:=zY (depth-2) (by omega);rcases zVk m 1 x with hof|⟨k,hkm,hof,hkind,hvis⟩
 .obtain⟨e,m',g1,g2⟩:=hop;refine⟨e,m',?_,g2⟩;refine mh qGb [83] [43] [] [.cell 10 15 true] func135 (by kernel_rfl) ?_
  (conv in kH _ _ _=>cbv)
  simp[mkS,mkB,zB];refine mn (zSP m 1 x (by omega) (by omega) (by omega) hx.mods) [0,1] (by simp[mkS,mkB]) ?_;simp[mkS,mkB,hof];refine mn g1 [0,1] (by simp[mkS,mkB,zB]) ?_;simp[mkS,mkB];exact mr [0,1] 0 (by rfl) (by simp[zI])
 .have hks:k<hs.length:=by omega
  have hget:=hx.get hkm;generalize hD:m.defs[k]=D at hget hkind;have eid:hs[k].id=D.id:=by rw[hget];rfl
  have eslots:hs[k].slots=D.slots:=by rw[hget];rfl
  have ekind:hs[k].kind=1:=by rw[hget];exact hkind
  obtain⟨hs6,hsT⟩:=hx.slots k hks;have hDl:D.slots.length<=6:=by rw[<-eslots];exact hs6
  obtain⟨a,m1,g1,g2,g3,g4,g5⟩:=hk2 m R (yI hs[k].id) env hx (hl.mono (by omega)) (hx.typs k hks (.inr ekind)) (jA _) he h1 (by omega);have hl1:Lim m1 (6*c+7):=Lim.adv (c:=c) (hl.mono (by omega)) g2;obtain⟨l1,l2,l3,l4,l5,l6,l7,l8⟩:=hl1;obtain⟨mA,hmA⟩:∃mA:Mk,mA={m1 with temp:=m1.temp+1,left:=m1.left-1}:=⟨_,rfl⟩;have aA:Adv m1 mA 1:=hmA▸aL m1;have tA:mA.temp=m1.temp+1:=by rw[hmA]
  have hlA:Lim mA (6*c+6):=Lim.adv (c:=1) ⟨l1,by omega,l3,by omega,by omega,l6,l7,by omega⟩ aA;have hsc:((D.slots.length:Int))*(c+1)<=6*(c+1):=jDa (by omega) (by omega);obtain⟨es,ns,ms,q0,q1,q2,q3,q4,q5⟩:=zSy hk hc (fun j=>env++[⟨⟨0,0,m1.temp⟩,j,zNe hs[k] j⟩]) t ht (jA R) mA ((hx.adv g2).adv aA)
   (fun j=>((he.mono g2.temp1).mono aA.temp1).snoc m1.temp j _ (zV6 hsT j) (fun b hb e=>by have hb':=he.new b hb (by rw[e]);rw[e]at hb';have:=g2.temp1;simp only at hb';omega) (by omega)) (fun j=>by simp) (fun j=>by simp;omega) D.slots.length (hlA.mono (by omega))
  have aE:=q3 D.slots.length (jA _);have eown:mA.own=m.own:=aA.own.trans g2.own;refine⟨.mk ⟨0,0,m1.temp⟩ 10 0 hs[k].id Typ.zero (a::es) ns,ms D.slots.length,?_,((g2.trans aA).trans aE).mono (by omega),?_,?_,lN ?_⟩
  rotate_left
  .refine .mtch _ _ k hks a es t ns (by omega) ekind (by rw[eslots,q0]) g3 fun j hj=>?_
   have:=(q5 j hj (by omega)).elim fun mm h=>h.2.2.1
   rw[eown,zOw (by rw[eslots];omega)]at this;exact this
  .simp only[tmps,yN];have s1:Seg m1.temp (m1.temp+1) [m1.temp]:=Seg.one _;have s2:=s1.append (b:=m1.temp+1) (tA▸q4) (by omega) (tA▸aE.temp1);have s3:=g4.append s2 g2.temp1 (by have:=aE.temp1;omega);refine s3.perm ?_;rw[jAu];exact jDj _ jDs
  .intro e' he';rcases jA3.1 he' with rfl|he'
   .exact g5
   .exact zBK rfl (fun j hj=>(q5 j hj (by omega)).elim fun mm h=>h.2.2.2) e' he'
  refine mh qGb [83] [43] [] [.cell 10 15 true] func135 (by kernel_rfl) ?_
  (conv in kH _ _ _=>cbv)
  have hdr:=yG hkm;rw[hD]at hdr;have hb31:k*31+31<=m.defs.length*31:=by omega
  have hnk:¬((k:Int)<0):=by omega
  simp[mkS,mkB,zB];refine mn (zSP m 1 x (by omega) (by omega) (by omega) hx.mods) [0,1] (by simp[mkS,mkB]) ?_;simp[mkS,mkB,hof,hnk,hkm,hdr,hb31,zJ];refine mq (zBN D.id) (by simp[zK]) ?_;simp[mkS,mkB,wd2];rw[eid]at g1;refine mn g1 [0,1] (by simp[mkS,mkB,zB,yI]) ?_;simp[mkS,mkB];refine mn (zSI m1 10 0 l3 (by omega) (by omega) l6) [0,1] (by simp[mkS,mkB]) ?_;simp[mkS,mkB,zJ];refine qK (S:=Nat) (fun i=>[(0,.ptr 0 0),(2,.sl env.length (qC env)),(4,int depth),(6,.ptr 2 0),(10,.ptr 3 0),(12,.ptr 4 0),(13,.row 5 (i+1)),(14,.ptr 6 0),(15,int i)])
   (fun i=>mkS (ms i)++[.box (zB t),.box (zI Exp.zero),.box (zJ D),.row false 39 15 (i+1) (zI a++qT (es.take i)),.box [int 0,int 0,int m1.temp,int 10,int 0,int D.id.a,int D.id.b,int D.id.c,int 0,int 0,int 0,int 0,.sl 0 [],.sl 0 [],.row 7 i],.row false 9 1 i (yR (ns.take i))]) (fun i=>i<=es.length) (fun i=>es.length-i) 0 (by simp)
   ((y7 (l:=6) (o:=14) rfl rfl 9 1).trans (mu [0,1,2,3,4,5,6,7] 0 (by rfl) (by simp[mkS,mkB,zB,q2,hmA,zI,Exp.zero,Id.zero,Typ.zero,zJ]))) ?_
  intro i hi;by_cases hi2:i<es.length
  .have hid:i<D.slots.length:=by omega
   have hin:i<ns.length:=by omega
   obtain⟨mm,g1',g2',_,_⟩:=q5 i hi2 hin;have hsty:zNe hs[k] i=D.slots[i].typ:=by rw[zOw (by rw[eslots];exact hid)];simp only[eslots]
   have hst:qT (es.take (i+1))=qT (es.take i)++zI es[i]:=bT hi2;have hsn:yR (ns.take (i+1))=yR (ns.take i)++zR9 ns[i]:=by unfold yR;rw[jA6 hin,jBr];simp
   have hw:=jZ i (by omega);have hdS:List.drop (i*11+4) (jS D.slots)=(j8 D.slots[i]++jS (D.slots.drop (i+1))).drop 4:=by rw[<-jBc,qZ hid]
   have hbS:i*11+4+5<=D.slots.length*11:=by omega
   simp[mkS,mkB,zJ,zB,hid,hdS,hbS,j8,wd];intro _;refine z7 (mQ env ⟨⟨0,0,m1.temp⟩,i,zNe hs[k] i⟩ (by omega)) (by simp[c7,hsty]) (by simp) ?_;simp[mkS,mkB,wd];refine b6 g1' [0,1] (by decide) (by simp[mkS,mkB]) (by simp[zB]) ?_;simp[mkS,mkB];refine⟨⟨by simp[maxLen];omega,by omega⟩,?_⟩;refine aP g2' [0,1] (by decide) (by simp[mkS,mkB]) (by simp) (by decide) (by simp) (by simp[mkS]) ?_;simp[mkS,mkB];refine⟨⟨by simp[maxLen];omega,by omega⟩,?_⟩;exact zO (i+1) hi2 (by omega) (mu [0,1,2,3,4,5,6,7] 0 (by rfl) (by simp[mkS,mkB,zB,zI,Exp.zero,Id.zero,Typ.zero,zJ,hst,hsn,zR9,hw]))
  .have hie:i=es.length:=by omega
   subst hie;have hid:¬es.length<D.slots.length:=by omega
   have hnl:List.take es.length ns=ns:=jA9 (by omega);simp[mkS,mkB,zJ,hid];intro _;refine⟨qV [(0,.ptr 0 0),(10,.ptr 3 0),(13,.sl (es.length+1) (qT (a::es))),(14,.ptr 4 0)],mkS (ms es.length)++[.box (zB t),.box (zI Exp.zero),.box [int 0,int 0,int m1.temp,int 10,int 0,int D.id.a,int D.id.b,int D.id.c,int 0,int 0,int 0,int 0,.sl 0 [],.sl 0 [],.sl es.length (yR ns)]],mu [0,1,2,3,6] 1 (by rfl) (by simp[mkS,mkB,zB,zI,Exp.zero,Id.zero,Typ.zero,hnl,zQ]),?_⟩;simp[mkS,mkB];exact mr [0,1] 0 (by rfl) (by simp[q0,zI,Id.zero,Typ.zero,eid,q1])
@[simp]theorem aY:∀(a b:wI),zR (a++b)=zR a++zR b
 |[],b=>by simp
 |x::a,b=>by simp[aY a b]
variable{l:wI}
theorem qD{k n:Int}:(Val.mk k n l).k=k:=rfl
theorem zX{k n:Int}:(Val.mk k n l).n=n:=rfl
theorem zL{k n:Int}:(Val.mk k n l).kids=l:=rfl
theorem zQd{c:Nat}(h:∀v∈l,qN v<=c):j5 l<=l.length*c:=by
 induction l with
 |nil=>simp[j5]
 |cons v l ih =>
  have h1:=h v (jAr ..);have h2:=ih fun x hx=>h x (jAh _ hx)
  simp only[j5,jAb,jB2,Nat.one_mul];omega
end Go.Proofs.YtdnelmeboihpkaaGreatDoor

/- value.fits and value.Valid. -/
import Derived.Test.YtdnelmeboihpkaaGreatDoorX12
set_option linter.unusedVariables false
set_option maxHeartbeats 8000000
set_option maxRecDepth 100000
set_option linter.unusedSimpArgs false
open Go.Proofs.Tryz
namespace Go.Proofs.YtdnelmeboihpkaaGreatDoor
open Go.Abs
def dfn(p:Prg)(id:Id):Dfn:=(qI p.defs id).getD .zero
def fSt(p:Prg)(t:Typ):St:=[.box (zT p),.box (zB t)]
def zFm(q:Val->Bool):List Val->Nat->Int
 |[],_=>-1
 |x::l,n=>if q x then n else zFm q l (n+1)
theorem zJa(q:Val->Bool):∀(l:wH) (n:Nat),(l.any q=true/\0<=zFm q l n)\/(l.any q=false/\zFm q l n = -1)
 |[],n=>.inr ⟨rfl,rfl⟩
 |x::l,n=>by
  simp only[zFm,List.any_cons];cases hx:q x with
  |true=>exact .inl ⟨by simp,by simp⟩
  |false=>simpa using zJa q l (n+1)
mutual
def eV(p:Prg):Typ->Val->Bool
 |t,.mk k n l=>validT p t&&(if t.k=0 then decide (k=0)&&decide (l.length=0)&&decide (-1099511627776<=n)&&decide (n<=1099511627776)else if t.k=1 then decide (k=1)&&decide (l.length=0)&&(decide (n=0)||decide (n=1))
  else if t.k=2 then decide (k=4)&&decide (n=0)&&zI4 p (t.kids.headD .zero) l
  else if (dfn p t.id).kind=1 then decide (k=3)&&decide (0<=n)&&decide (n<(dfn p t.id).slots.length)&&decide (l.length=1)&&zMA p ((dfn p t.id).slots.map Slt.typ)[n.toNat]? l
  else decide (k=2)&&decide (n=0)&&decide (l.length=(dfn p t.id).slots.length)&&gD p ((dfn p t.id).slots.map Slt.typ) l)
def zI4(p:Prg)(t:Typ):List Val->Bool
 |[]=>true
 |v::l=>eV p t v&&zI4 p t l
def zMA(p:Prg):Option Typ->List Val->Bool
 |some t,v::_=>eV p t v
 |_,_=>false
def gD(p:Prg):List Typ->List Val->Bool
 |t::ts,v::l=>eV p t v&&gD p ts l
 |_,_=>true
end
theorem zFG(p:Prg)(t:Typ):∀(l:wH),zI4 p t l=l.all (eV p t)
 |[]=>by rw[zI4];rfl
 |v::l=>by rw[zI4,zFG p t l];rfl
theorem iH(p:Prg)(t:Typ)(v:Val):eV p t v=(validT p t&&(if t.k=0 then decide (v.k=0)&&decide (v.kids.length=0)&&decide (-1099511627776<=v.n)&&decide (v.n<=1099511627776)else if t.k=1 then decide (v.k=1)&&decide (v.kids.length=0)&&(decide (v.n=0)||decide (v.n=1))
 else if t.k=2 then decide (v.k=4)&&decide (v.n=0)&&v.kids.all (eV p (t.kids.headD .zero))
 else if (dfn p t.id).kind=1 then decide (v.k=3)&&decide (0<=v.n)&&decide (v.n<(dfn p t.id).slots.length)&&decide (v.kids.length=1)&&zMA p ((dfn p t.id).slots.map Slt.typ)[v.n.toNat]? v.kids
 else decide (v.k=2)&&decide (v.n=0)&&decide (v.kids.length=(dfn p t.id).slots.length)&&gD p ((dfn p t.id).slots.map Slt.typ) v.kids)):=by
 cases v with
 |mk k n l=>rw[eV,zFG];rfl
theorem zQG(p:Prg)(t x:Typ)(hx:t.kids=[x])(v:Val)(b:Bool)(h:my 74 [.agg (zT p),.agg (zB x),.agg (zL v)] [] (bl b) []) :
 my 115 [.agg (zL v),.ptr 0 0,.ptr 1 0] (fSt p t) (bl (!b)) (fSt p t):=by
 refine mq [] [.slot 4] func115 (by kernel_rfl) ?_
 (conv in kq _ _=>cbv)
 simp[fSt,zT,zB,zL,hx];refine zZ h (by simp[zT,zB,zL,qW]) (by simp) ?_;simp;exact mv [0,1] 0 (by rfl) (by simp[zT,zB,hx])
theorem zTy(p:Prg)(t:Typ)(q:Val->Bool)(l:wH)(h:∀v∈l,my 115 [.agg (zL v),.ptr 0 0,.ptr 1 0] (fSt p t) (bl (q v)) (fSt p t)) :
 my 153 [.sl l.length (zS l),.clo 115 [] [.ptr 0 0,.ptr 1 0]] (fSt p t) (int (zFm q l 0)) (fSt p t):=by
 refine mq [] [.slot 4] func153 (by kernel_rfl) ?_
 (conv in kq _ _=>cbv)
 simp[fSt,zT,zB];intro hl;refine qM (S:=Nat) (fun i=>[(0,.sl l.length (zS l)),(1,.clo 115 [] [.ptr 0 0,.ptr 1 0]),(6,.sl l.length (zS l)),(7,int l.length),(8,int i)]) (fun i=>fSt p t) (fun i=>i<=l.length/\zFm q l 0=zFm q (l.drop i) i) (fun i=>l.length-i) 0 (by simp)
  (mw [0,1] 0 (by rfl) (by simp[fSt,zT,zB])) ?_
 rintro i ⟨hi,ho⟩;by_cases hil:i<l.length
 .have hd:l.drop i=l[i]::l.drop (i+1):=jB0 hil;simp[hil,jY hil,fSt,zT,zB];refine mr (h l[i] (jA3 hil)) [0,1] (by simp[fSt,zT,zB,zL]) ?_;cases hq:q l[i]with
  |true =>
   simp[fSt,zT,zB];exact ke [0,1] 0 (by rfl) (by simp[zT,zB]) (by rw[ho,hd];simp[zFm,hq])
  |false =>
   simp[fSt,zT,zB];exact zN (i+1) ⟨hil,by rw[ho,hd];simp[zFm,hq]⟩ (by omega) (mw [0,1] 0 (by rfl) (by simp[fSt,zT,zB,z6 hil hl]))
 .have:i=l.length:=by omega
  subst this;simp[fSt,zT,zB];exact ke [0,1] 0 (by rfl) (by simp[zT,zB]) (by rw[ho];simp[zFm])
theorem zSU(p:Prg)(t:Typ)(q:Val->Bool)(l:wH)(h:∀v∈l,my 115 [.agg (zL v),.ptr 0 0,.ptr 1 0] (fSt p t) (bl (q v)) (fSt p t)) :
 my 112 [.sl l.length (zS l),.clo 115 [] [.ptr 0 0,.ptr 1 0]] (fSt p t) (bl (l.any q)) (fSt p t):=by
 refine mq [] [.slot 4] func112 (by kernel_rfl) ?_
 (conv in kq _ _=>cbv)
 simp[fSt,zT,zB];refine mr (zTy p t q l h) [0,1] (by simp[fSt,zT,zB]) ?_;rcases zJa q l 0 with ⟨h1,h2⟩|⟨h1,h2⟩
 all_goals
  simp[fSt,zT,zB,h2];exact mv [0,1] 0 (by rfl) (by simp[zT,zB,h1])
abbrev zHm:FuncId:=131
variable{hs:wO}{R:Nat}{m:Mk}
theorem zVC(hx:Cx hs R m){k:Nat}(hk:k<hs.length)(h1:∀(j:Nat)(hj:j<k),hs[j].id≠hs[k].id):∃h:k<m.defs.length,vO m.defs hs[k].id=(m.defs[k],true)/\m.defs[k].hd=hs[k]:=by
 have hl:=hx.dlen;have h:k<m.defs.length:=by omega
 have hg:=hx.get h;refine⟨h,?_,hg.symm⟩;unfold vO;rw[zBD h (fun d hd=>?_) (by rw[hg];rfl)];rw[List.mem_take_iff_getElem]at hd;obtain⟨j,hj,rfl⟩:=hd;have hjl:j<m.defs.length:=by omega
 have:=h1 j (by omega);rw[hx.get hjl]at this;exact this
variable{env:wI}
theorem zT9{R:Nat}(hl:Lim m 1)(x depth:Int)(hx0:0<=x)(hx1:x<=65536):cH hs m.own zHm m [.ptr 0 0,.agg (zB q9),.sl env.length (zW env),int x,int depth] env q9 1:=by
 have e9:x.tmod 9=x % 9:=tmN hx0;have e29:x.tmod 29=x % 29:=tmN hx0;have e2:x.tmod 2=x % 2:=tmN hx0;have key:∀n,-1099511627776<=n->n<=1099511627776->(∀(K:Prop),K->K)->my zHm [.ptr 0 0,.agg (zB q9),.sl env.length (zW env),int x,int depth] (mkS m) (.agg (zH (.mk ⟨0,0,m.temp⟩ 0 n Id.zero Typ.zero [] []))) (mkS {m with temp:=m.temp+1,left:=m.left-1})->cH hs m.own zHm m [.ptr 0 0,.agg (zB q9),.sl env.length (zW env),int x,int depth] env q9 1:=fun n q1 q2 _ h =>
  ⟨_,_,h,y9 m,.int _ _ _ q1 q2,by simp only[tmps,yF,jBm];exact Seg.one _,vI⟩
 have w1:=qA (x.tmod 9-2) (by omega);have w2:=qA (1099511627776-x.tmod 2) (by omega);obtain⟨l1,l2,l3,l4,l5,l6,l7,l8⟩:=hl;by_cases h29:x.tmod 29=3
 .refine key (1099511627776-x.tmod 2) (by omega) (by omega) (fun _ h=>h) ?_;refine ml qEl [87,77,147] [] [] [.cell 10 15 true] func131 (by kernel_rfl) ?_
  (conv in kH _ _ _=>cbv)
  simp[mkS,mkB,zB,q9,w1,w2,h29];refine mr (aL m 0 (1099511627776-x.tmod 2) [] l3 (by omega) (by omega) l6) [0,1] (by simp[mkS,mkB]) ?_;simp[mkS,mkB];exact mv [0,1] 0 (by rfl) (by simp)
 .refine key (x.tmod 9-2) (by omega) (by omega) (fun _ h=>h) ?_;refine ml qEl [87,77,147] [] [] [.cell 10 15 true] func131 (by kernel_rfl) ?_
  (conv in kH _ _ _=>cbv)
  simp[mkS,mkB,zB,q9,w1,w2,h29];refine mr (aL m 0 (x.tmod 9-2) [] l3 (by omega) (by omega) l6) [0,1] (by simp[mkS,mkB]) ?_;simp[mkS,mkB];exact mv [0,1] 0 (by rfl) (by simp)
theorem zRp(hl:Lim m 1)(x depth:Int)(hx0:0<=x):cH hs m.own zHm m [.ptr 0 0,.agg (zB jO),.sl env.length (zW env),int x,int depth] env jO 1:=by
 have e2:x.tmod 2=x % 2:=tmN hx0;obtain⟨l1,l2,l3,l4,l5,l6,l7,l8⟩:=hl;refine⟨.mk ⟨0,0,m.temp⟩ 1 (x.tmod 2) Id.zero Typ.zero [] [],_,?_,y9 m,.bool _ _ _ (by omega),by simp only[tmps,yF,jBm];exact Seg.one _,vI⟩;refine ml qEl [87,77,147] [] [] [.cell 10 15 true] func131 (by kernel_rfl) ?_
 (conv in kH _ _ _=>cbv)
 simp[mkS,mkB,zB,jO];refine mr (aL m 1 (x.tmod 2) [] l3 (by omega) (by omega) l6) [0,1] (by simp[mkS,mkB]) ?_;simp[mkS,mkB];exact mv [0,1] 0 (by rfl) (by simp)
variable{c depth:Int}{Q:Nat->Prop}{r:Nat}
theorem zRr{len:Nat}(hc:0<=c)(hl:Lim m (2*c+1))(x:Int)(hx0:0<=x)(t:Typ)(hr:TyOk hs r t)(hQ:Q r)
 (hk:dN hs R c (depth-1) Q len)(hx:Cx hs R m)(he:EnvOk hs R m.temp env)(h1:0<env.length)(h2:env.length<=len)(hd1 : -1000<=depth)(hd2:depth<=1000) :
 cH hs m.own zHm m [.ptr 0 0,.agg (zB (j5 t)),.sl env.length (zW env),int x,int depth] env (j5 t) (2*c+1):=by
 have e3:x.tmod 3=x % 3:=tmN hx0;have wd:=qA (depth-1) (by omega);obtain⟨K,hK,hK2⟩:∃K:Nat,(K:Int)=(if 0<=depth then x.tmod 3 else 0)/\K<=2:=by
  by_cases h:0<=depth
  .exact⟨(x % 3).toNat,by rw[if_pos h,e3];omega,by omega⟩
  .exact⟨0,by rw[if_neg h];rfl,by omega⟩
 have hKc:(K:Int)*c<=2*c:=jDb (by omega) hc;obtain⟨es,ms,q0,q2,q3,q4,q6,q7,q5⟩:=zRj hk hc env h1 h2 t hr hQ m hx he K (hl.mono (by omega));have ha:=q3 es.length (jA _);have hec:(es.length:Int)*c<=2*c:=jDb (by omega) hc;have ha2:=ha.mono hec;have hln:=Lim.adv (c:=2*c) (c':=1) hl ha2;obtain⟨l1,l2,l3,l4,l5,l6,l7,l8⟩:=hln;refine⟨.mk ⟨0,0,(ms es.length).temp⟩ 11 0 Id.zero t es [],{ms es.length with temp:=(ms es.length).temp+1,left:=(ms es.length).left-1},?_,ha2.trans (y9 _),.list _ _ _ _ fun j hj=>(q5 j hj).2.1,
  by simp only[tmps];exact q4.append (Seg.one _) ha.temp1 (by omega),iM (zAS rfl fun j hj=>(q5 j hj).2.2)⟩
 refine ml qEl [87,77,147] [] [] [.cell 10 15 true] func131 (by kernel_rfl) ?_
 (conv in kH _ _ _=>cbv)
 simp[mkS,mkB,zB,j5];refine qM (S:=Nat) (fun i=>[(0,.ptr 0 0),(2,.sl env.length (zW env)),(3,int x),(4,int depth),(6,.ptr 2 0),(10,.ptr 3 0),(12,.row 4 i),(13,int i)])
  (fun i=>mkS (ms i)++[.box (zB (j5 t)),.box (zH Exp.zero),.row false 39 15 i (qL (es.take i))]) (fun i=>i<=es.length) (fun i=>es.length-i) 0 (by simp)
  ((jW (t:=12) (by simp) 39 15).trans (mw [0,1,2,3,4] 0 (by rfl) (by simp[mkS,mkB,zB,j5,q2,zH,Exp.zero,Id.zero,Typ.zero]))) ?_
 intro i hi;have hms:=q3 i hi;by_cases hi2:i<es.length
 .obtain⟨g1,_,_⟩:=q5 i hi2;have c2:0<=depth:=by
   by_cases h:0<=depth
   .exact h
   .rw[if_neg h]at hK;omega
  have c1:(i:Int)<x.tmod 3:=by rw[if_pos c2]at hK;omega
  have c3:=q6 i hi2;have hst:qL (es.take (i+1))=qL (es.take i)++zH es[i]:=bH hi2;have hw:=yK i (by omega);simp[mkS,mkB,zB,j5,c1,c2,c3,wd,qW];refine mr g1 [0,1] (by simp[mkS,mkB,zB]) ?_;simp[mkS,mkB];refine⟨⟨by simp[maxLen];omega,by omega⟩,?_⟩;exact zN (i+1) hi2 (by omega) (mw [0,1,2,3,4] 0 (by rfl) (by simp[mkS,mkB,zB,j5,zH,Exp.zero,Id.zero,Typ.zero,hst,hw]))
 .have hie:i=es.length:=by omega
  subst hie;have hexit:¬((es.length:Int)<x.tmod 3/\0<=depth/\0<(ms es.length).left):=fun hh=>by
   rcases q7 with q7|q7
   .rw[if_pos hh.2.1]at hK;omega
   .omega
  by_cases c1:(es.length:Int)<x.tmod 3
  .by_cases c2:0<=depth
   .have c3:¬0<(ms es.length).left:=fun h=>hexit ⟨c1,c2,h⟩
    simp[mkS,mkB,zB,j5,c1,c2,c3,qW];refine⟨qK [(0,.ptr 0 0),(6,.ptr 2 0),(10,.ptr 3 0),(12,.sl es.length (qL es))],mkS (ms es.length)++[.box (zB (j5 t)),.box (zH Exp.zero)],mw [0,1,2,3] 1 (by rfl) (by simp[mkS,mkB,zB,j5,zH,Exp.zero,Id.zero,Typ.zero,qW]),?_⟩;simp[mkS,mkB,zB,j5];refine mr (aL (ms es.length) 11 0 es l3 (by omega) (by omega) l6) [0,1] (by simp[mkS,mkB]) ?_;simp[mkS,mkB,zB,j5,zH,qW];exact mv [0,1] 0 (by rfl) (by simp[zH])
   .simp[mkS,mkB,zB,j5,c1,c2,qW];refine⟨qK [(0,.ptr 0 0),(6,.ptr 2 0),(10,.ptr 3 0),(12,.sl es.length (qL es))],mkS (ms es.length)++[.box (zB (j5 t)),.box (zH Exp.zero)],mw [0,1,2,3] 1 (by rfl) (by simp[mkS,mkB,zB,j5,zH,Exp.zero,Id.zero,Typ.zero,qW]),?_⟩;simp[mkS,mkB,zB,j5];refine mr (aL (ms es.length) 11 0 es l3 (by omega) (by omega) l6) [0,1] (by simp[mkS,mkB]) ?_;simp[mkS,mkB,zB,j5,zH,qW];exact mv [0,1] 0 (by rfl) (by simp[zH])
  .simp[mkS,mkB,zB,j5,c1,qW];refine⟨qK [(0,.ptr 0 0),(6,.ptr 2 0),(10,.ptr 3 0),(12,.sl es.length (qL es))],mkS (ms es.length)++[.box (zB (j5 t)),.box (zH Exp.zero)],mw [0,1,2,3] 1 (by rfl) (by simp[mkS,mkB,zB,j5,zH,Exp.zero,Id.zero,Typ.zero,qW]),?_⟩;simp[mkS,mkB,zB,j5];refine mr (aL (ms es.length) 11 0 es l3 (by omega) (by omega) l6) [0,1] (by simp[mkS,mkB]) ?_;simp[mkS,mkB,zB,j5,zH,qW];exact mv [0,1] 0 (by rfl) (by simp[zH])
variable{p:Prg}{t:Typ}
theorem zLV(h:validT p t=true)(h2:t.k=2):∃x,t.kids=[x]:=by
 cases t with
 |mk k id kids =>
  simp only[Typ.k_mk]at h2;subst h2;simp only[validT,y8,Typ.k_mk,Typ.id_mk,Typ.kids_mk,if_true]at h;split at h
  .exact⟨_,rfl⟩
  .cases h
theorem zNR{ts:wQ}:gD p ts []=true:=by cases ts<;>simp[gD]
theorem zQH{v:Val}(h:validT p t=false):eV p t v=false:=by rw[iH,h];rfl
theorem zCX(p:Prg)(t:Typ)(v:Val):my 74 [.agg (zT p),.agg (zB t),.agg (zL v)] [] (bl (eV p t v)) []:=by
 refine mq [] [.slot 6] func74 (by kernel_rfl) ?_
 (conv in kq _ _=>cbv)
 simp[zT,zB,zL];refine mu (zEQ p t) (by simp[zT,zB]) ?_;cases hv:validT p t with
 |false =>
  simp;exact zA 0 (by simp[zQH hv])
 |true =>
 by_cases h0:t.k=0
 .have e:eV p t v=(decide (v.k=0)&&decide (v.kids.length=0)&&decide (-1099511627776<=v.n)&&decide (v.n<=1099511627776)):=by rw[iH,hv,if_pos h0,jC4]
  by_cases c1:v.k=0
  .by_cases c2:v.kids.length=0
   .by_cases c3 : -1099511627776<=v.n
    all_goals
     simp[hv,h0,c1,c2,c3];exact zA 0 (by rw[e];simp[c1,c2,c3])
   .simp[hv,h0,c1,c2];exact fun _=>zA 0 (by rw[e];simp[c1,c2])
  .simp[hv,h0,c1];exact zA 0 (by rw[e];simp[c1])
 by_cases h1:t.k=1
 .have e:eV p t v=(decide (v.k=1)&&decide (v.kids.length=0)&&(decide (v.n=0)||decide (v.n=1))):=by rw[iH,hv,if_neg h0,if_pos h1,jC4]
  by_cases c1:v.k=1
  .by_cases c2:v.kids.length=0
   .by_cases c3:v.n=0
    all_goals
     simp[hv,h1,c1,c2,c3];exact zA 0 (by rw[e];simp[c1,c2,c3])
   .simp[hv,h1,c1,c2];exact fun _=>zA 0 (by rw[e];simp[c1,c2])
  .simp[hv,h1,c1];exact zA 0 (by rw[e];simp[c1])
 by_cases h2:t.k=2
 .obtain⟨x,hx⟩:=zLV hv h2;have e:eV p t v=(decide (v.k=4)&&decide (v.n=0)&&v.kids.all (eV p x)):=by rw[iH,hv,if_neg h0,if_neg h1,if_pos h2,jC4,hx];rfl
  by_cases c1:v.k=4
  .by_cases c2:v.n=0
   .simp[hv,h2,c1,c2];refine mr (zSU p t (fun y=>!eV p x y) v.kids (fun y hy=>zQG p t x hx y _ (zCX p x y))) [0,1] (by simp[fSt,zT,zB,h2]) ?_;simp[fSt,zT,zB];exact zA 0 (by rw[e];simp[c1,c2,List.all_eq_not_any_not])
   .simp[hv,h2,c1,c2];exact zA 0 (by rw[e];simp[c1,c2])
  .simp[hv,h2,c1];exact zA 0 (by rw[e];simp[c1])
 have e:=iH p t v;rw[hv,if_neg h0,if_neg h1,if_neg h2,jC4]at e;simp[hv,h0,h1,h2];refine mu (mY p t.id) (by simp[zT,zG,dL]) ?_;have hD:(qI p.defs t.id).getD .zero=dfn p t.id:=rfl;generalize dfn p t.id=D at hD e;by_cases hk:D.kind=1
 .rw[if_pos hk]at e;by_cases c1:v.k=3
  .by_cases c2:0<=v.n
   .by_cases c3:v.n<D.slots.length
    .by_cases c4:v.kids.length=1
     .obtain⟨x,hx⟩:∃x,v.kids=[x]:=List.length_eq_one_iff.1 c4;obtain⟨i,hi⟩:∃i:Nat,v.n=i:=⟨v.n.toNat,by omega⟩;have hil:i<D.slots.length:=by omega
      simp[dL,hD,zI,hk,c1,hi,hil,hx,jN hil,j4];refine zZ (zCX p D.slots[i].typ x) (by simp[zT,zB,zL]) (by simp) ?_;simp;exact zA 0 (by rw[e];simp[c1,hi,hil,hx,zMA])
     .have c4':¬(v.kids.length:Int)=1:=by omega
      simp[dL,hD,zI,hk,c1,c2,c3,c4']
      first|exact zA 0 (by rw[e];simp[c1,c2,c3,c4])|exact fun _=>zA 0 (by rw[e];simp[c1,c2,c3,c4])|exact fun _ _=>zA 0 (by rw[e];simp[c1,c2,c3,c4])
    .simp[dL,hD,zI,hk,c1,c2,c3];exact zA 0 (by rw[e];simp[c1,c2,c3])
   .simp[dL,hD,zI,hk,c1,c2];exact zA 0 (by rw[e];simp[c1,c2])
  .simp[dL,hD,zI,hk,c1];exact zA 0 (by rw[e];simp[c1])
 rw[if_neg hk]at e;by_cases c1:v.k=2
 .by_cases c2:v.n=0
  .by_cases c3:v.kids.length=D.slots.length
   .simp[dL,hD,zI,hk,c1,c2,c3];intro hl;refine qM (S:=Nat) (fun i=>[(3,.ptr 0 0),(7,.ptr 3 0),(141,.sl v.kids.length (zS v.kids)),(142,int v.kids.length),(143,int i)])
     (fun i=>[.box (zT p),.box (zB t),.box (zL v),.box (zI D)]) (fun i=>i<=v.kids.length/\gD p (D.slots.map Slt.typ) v.kids=gD p ((D.slots.map Slt.typ).drop i) (v.kids.drop i)) (fun i=>v.kids.length-i) 0 (by simp)
     (mw [0,1,2,3] 0 (by rfl) (by simp[zT,zB,zL,zI,hk,c1,c2,c3])) ?_
    rintro i ⟨hi,ho⟩;by_cases hil:i<v.kids.length
    .have hiD:i<D.slots.length:=by omega
     have d1:v.kids.drop i=v.kids[i]::v.kids.drop (i+1):=jB0 hil;have d2:(D.slots.map Slt.typ).drop i=D.slots[i].typ::(D.slots.map Slt.typ).drop (i+1):=by rw[jB0 (by simpa using hiD)];simp
     simp[hil,hiD,jY hil,jN hiD,zT,zI,j4];refine zZ (zCX p D.slots[i].typ v.kids[i]) (by simp[zT,zB,zL]) (by simp) ?_;cases hf:eV p D.slots[i].typ v.kids[i]with
     |true =>
      simp;exact zN (i+1) ⟨hil,by rw[ho,d1,d2];simp[gD,hf]⟩ (by omega) (mw [0,1,2,3] 0 (by rfl) (by simp[zT,zB,zL,zI,z6 hil (c3▸hl)]))
     |false =>
      simp;exact zA 0 (by rw[e,ho,d1,d2];simp[gD,hf])
    .have:i=v.kids.length:=by omega
     subst this;simp;exact zA 0 (by rw[e,ho,jD (jA v.kids.length),zNR];simp[c1,c2,c3])
   .have c3':¬(v.kids.length:Int)=D.slots.length:=by omega
    simp[dL,hD,zI,hk,c1,c2,c3']
    first|exact zA 0 (by rw[e];simp[c1,c2,c3])|exact fun _=>zA 0 (by rw[e];simp[c1,c2,c3])|exact fun _ _=>zA 0 (by rw[e];simp[c1,c2,c3])
  .simp[dL,hD,zI,hk,c1,c2];exact zA 0 (by rw[e];simp[c1,c2])
 .simp[dL,hD,zI,hk,c1];exact zA 0 (by rw[e];simp[c1])
termination_by qN v
decreasing_by
 .exact cL hy
 .exact cL (by simp[hx])
 .exact cL (jA3 _)
theorem zGB(p:Prg)(t:Typ)(v:Val)(h1:qN v<=256)(h2:bI v<=24) :
 my 30 [.agg (zT p),.agg (zB t),.agg (zL v)] [] (bl (eV p t v)) []:=by
 refine mq [] [.slot 6] func30 (by kernel_rfl) ?_
 (conv in kq _ _=>cbv)
 simp[zT,zB,zL];refine mu (zSd v h1 h2) (by simp[zL]) ?_;simp;refine mu (zCX p t v) (by simp[zT,zB,zL]) ?_;simp;exact zA 0 (by simp)
abbrev vz:Val:=.mk 0 0 []
def zB9(a b:Int):Int:=if b=0 then 0 else if a.tmod b≠0/\¬(a<0↔b<0)then a.tdiv b-1 else a.tdiv b
def zH2(a b:Int):Int:=if b=0 then 0 else a-b*zB9 a b
def zFq(n a b:Int):Int:=if n=0 then fE (a+b)else if n=1 then fE (a-b)else if n=2 then fE (a*b)else if n=3 then zB9 a b else zH2 a b
def opV(n:Int):List Val->Val
 |[a]=>if n=9 then fN (decide (a.n=0))else .mk 0 a.kids.length []
 |[a,b]=>if n<=4 then .mk 0 (zFq n a.n b.n) []else if n=5 then fN (decide (a.n<b.n))else if n=6 then fN (decide (gU a b=0))
  else if n=7 then fN (decide (a.n=1/\b.n=1))else if n=8 then fN (decide (a.n=1\/b.n=1))else .mk 4 0 (a.kids++b.kids)
 |_=>vz
structure XS where
 fuel:Int
 fail:Int
 ds:List Id
 ns:List Id
abbrev Evl:=Exp->List EVar->XS->Val×XS
def jP(ev:Evl)(env:wM):List Exp->XS->wH×XS
 |[],s=>([],s)
 |e::l,s=>((ev e env s).1::(jP ev env l (ev e env s).2).1,(jP ev env l (ev e env s).2).2)
theorem zBt(ev:Evl)(env:wM)(e:Exp):∀(l:wG) (s:XS),jP ev env (l++[e]) s=((jP ev env l s).1++[(ev e env (jP ev env l s).2).1],(ev e env (jP ev env l s).2).2)
 |[],s=>rfl
 |x::l,s=>by simp only[jBa,jP,zBt ev env e l]
theorem hU(ev:Evl)(env:wM):∀(l:wG) (s:XS),(jP ev env l s).1.length=l.length
 |[],s=>rfl
 |x::l,s=>by simp only[jP,jAb,hU ev env l]
def yR(ev:Evl)(env:wM)(i:Id)(b:Exp):List Val->Val×XS->Val×XS
 |[],r=>r
 |x::l,r=>yR ev env i b l (ev b (env++[⟨i,0,x⟩]++[⟨i,1,r.1⟩]) r.2)
theorem xW(ev:Evl)(env:wM)(i:Id)(b:Exp)(x:Val):∀(l:wH) (r:Val×XS),yR ev env i b (l++[x]) r=ev b (env++[⟨i,0,x⟩]++[⟨i,1,(yR ev env i b l r).1⟩]) (yR ev env i b l r).2
 |[],r=>rfl
 |y::l,r=>by simp only[jBa,yR,xW ev env i b x l]
def i5(ss:List Slt)(vs:wH):wM:=List.zipWith (fun s v=>⟨s.id,0,v⟩) ss vs
theorem zA5(ss:List Slt)(vs:wH)(h:vs.length=ss.length):(i5 ss vs).length=ss.length:=by simp[i5,h]
theorem zFC{ss:List Slt}{vs:wH}(h:vs.length=ss.length){i:Nat}(hi:i<ss.length):(i5 ss vs).take (i+1)=(i5 ss vs).take i++[⟨ss[i].id,0,vs[i]⟩]:=by rw[jA8 (by rw[zA5 ss vs h];exact hi)];simp[i5]
def eO(ev:Evl)(d:Dfn)(vs:wH)(s:XS):Val×XS:=if s.fail≠0 then (vz,s)else ev d.body (i5 d.slots vs) {s with ds:=s.ds++[d.id]}
def bD(ev:Evl)(e:Exp)(env:wM)(s:XS):Val×XS :=
 if (ev (e.kids.headD .zero) env s).2.fail≠0 then (vz,(ev (e.kids.headD .zero) env s).2)
 else if e.k=5 then ev (e.kids.getD (if (ev (e.kids.headD .zero) env s).1.n=1 then 1 else 2) .zero) env (ev (e.kids.headD .zero) env s).2
 else if e.k=6 then ev (e.kids.getD 1 .zero) (env++[⟨e.id,0,(ev (e.kids.headD .zero) env s).1⟩]) (ev (e.kids.headD .zero) env s).2
 else if e.k=8 then ((ev (e.kids.headD .zero) env s).1.kids.getD e.n.toNat vz,(ev (e.kids.headD .zero) env s).2)
 else if e.k=10 then ev (e.kids.getD (1+(ev (e.kids.headD .zero) env s).1.n).toNat .zero) (env++[⟨e.id,(ev (e.kids.headD .zero) env s).1.n,(ev (e.kids.headD .zero) env s).1.kids.headD vz⟩]) (ev (e.kids.headD .zero) env s).2
 else yR ev env e.id (e.kids.getD 2 .zero) (ev (e.kids.headD .zero) env s).1.kids (ev (e.kids.getD 1 .zero) env (ev (e.kids.headD .zero) env s).2)
def zf(c:Bool)(s:XS)(v:Val):Val:=if c=true/\s.fail≠0 then vz else v
def jI(p:Prg)(fl:Nat)(ev:Evl)(e:Exp)(env:wM)(s:XS):Val×XS :=
 if e.k=0 then (.mk 0 e.n [],s)
 else if e.k=1 then (.mk 1 e.n [],s)
 else if e.k=2 then (o8 env e.ref e.n,s)
 else if e.k=5\/e.k=6\/e.k=8\/e.k=10\/e.k=12 then bD ev e env s
 else if e.k=3 then eO ev (dfn p e.ref) (jP ev env e.kids s).1 (jP ev env e.kids s).2
 else if e.k=4 then (zf true (jP ev env e.kids s).2 (opV e.n (jP ev env e.kids s).1),(jP ev env e.kids s).2)
 else if e.k=7 then (zf (fl==1) (jP ev env e.kids s).2 (.mk 2 0 (jP ev env e.kids s).1),(jP ev env e.kids s).2)
 else if e.k=9 then (zf (fl==1) (jP ev env e.kids s).2 (.mk 3 e.n (jP ev env e.kids s).1),(jP ev env e.kids s).2)
 else (zf (fl==1) (jP ev env e.kids s).2 (.mk 4 0 (jP ev env e.kids s).1),(jP ev env e.kids s).2)
def zCL(v:Val):Prop:=256<uV v\/24<mZ v
instance (v:Val):Decidable (zCL v):=by unfold zCL;infer_instance
abbrev tP:Int:=18
abbrev zGQ:Int:=4
def mG(r:Val×XS):XS:=if r.2.fail=0/\zCL r.1 then {r.2 with fail:=zGQ} else r.2
def zIy(fl:Nat)(r:Val×XS):Val×XS:=(zf (fl==2) (mG r) r.1,mG r)
def oI(e:Exp)(s:XS):XS:={s with fuel:=s.fuel-1,ns:=s.ns++[e.id]}
def bG(p:Prg)(fl:Nat):Nat->Evl
 | 0,_,_,s=>if s.fail≠0 then (vz,s)else (vz,{s with fail:=tP})
 |m+1,e,env,s =>
  if s.fail≠0 then (vz,s)else if s.fuel<=0 then (vz,{s with fail:=tP})
  else zIy fl (jI p fl (bG p fl m) e env (oI e s))
theorem zEy{U τ:St}(hk:cS U τ){j:Nat}{o:AObj}(h : U[j]?=some o)(hn:o≠AObj.rsv):qS τ [j] [o] = τ:=by
 have h1:=hk j o h hn;have hlt:j < τ.length:=by
  by_cases hl:j < τ.length
  .exact hl
  .rw[jB7 (by omega)]at h1;cases h1
 rw[jA0 hlt]at h1;simp only[qS];injection h1 with h1
 rw[<-h1,jB8];exact List.set_getElem_self hlt
theorem cH.mono{own:Int}{f:FuncId}{args:wE}{c':Int}(h:cH hs own f m args env t c)(hc:c<=c'):cH hs own f m args env t c':=by obtain⟨e,m',h1,h2,h3,h4,h5⟩:=h;exact⟨e,m',h1,h2.mono hc,h3,h4,h5⟩
theorem zRk{len:Nat}(hk:dN hs R c depth Q len)(hc:0<=c)(envs:Nat->wI)(t:Typ)(hr:TyOk hs r t)(hQ:Q r)
 (m:Mk)(hx:Cx hs R m)(he:∀j,EnvOk hs R m.temp (envs j))(h1:∀j,0<(envs j).length)(h2:∀j,(envs j).length<=len):∀(k:Nat),Lim m (k*(c+1)) ->
  ∃(es:wG) (ns:List ByteArray) (ms:Nat->Mk),es.length=k/\ns.length=k/\ms 0=m/\(∀j≤k,Adv m (ms j) (j*(c+1)))/\Seg m.temp (ms k).temp (yF es) /\
   ∀(j:Nat) (hj:j<es.length) (hj':j<ns.length),∃mm:Mk,my bL [.ptr 0 0,.agg (zB t),.sl (envs j).length (zW (envs j)),int depth] (mkS (ms j)) (.agg (zH es[j])) (mkS mm) /\
    my 133 [.ptr 0 0] (mkS mm) (.lit (.string ns[j])) (mkS (ms (j+1)))/\WT hs m.own (envs j) es[j] t/\es[j].num0:=by
 intro k;induction k with
 |zero =>
  intro hl;refine⟨[],[],fun _=>m,rfl,rfl,rfl,fun j hj=>?_,Seg.nil,fun j hj=>by simp at hj⟩;have:j=0:=by simpa using hj
  subst this;exact(Adv.zero m).mono (by simp)
 |succ k ih =>
  intro hl;have e1:(((k+1:Nat):Int))*(c+1)=k*(c+1)+(c+1):=by rw[jDa,Int.add_mul];simp
  rw[e1]at hl;obtain⟨es,ns,ms,q0,q1,q2,q3,q4,q5⟩:=ih (hl.mono (by omega));have a1:=q3 k (jA _);have hl1:=Lim.adv (c:=k*(c+1)) (c':=c+1) hl a1;obtain⟨e,mm,g1,g2,g3,g4,g5⟩:=hk (ms k) r t (envs k) (hx.adv a1) (hl1.mono (by omega)) hr hQ ((he k).mono a1.temp1) (h1 k) (h2 k);have hl2:=Lim.adv (c:=c) (c':=1) hl1 g2;obtain⟨s,hs⟩:=zDa mm hl2.name1 (by have:=hl2.name2;omega);have a2:=g2.trans (zAr mm);refine⟨es++[e],ns++[s],fun j=>if j<=k then ms j else {mm with name:=mm.name+1},by simp[q0],by simp[q1],by simp[q2],fun j hj=>?_,?_,fun j hj hj'=>?_⟩
  .by_cases hle:j<=k
   .simp only[hle,if_true];exact q3 j hle
   .have:j=k+1:=by omega
    subst this;simp only[show ¬(k+1<=k) by omega,if_false];rw[e1];exact a1.trans a2
  .rw[nN];simp only[show ¬(k+1<=k) by omega,if_false];exact q4.append g4 a1.temp1 g2.temp1
  .simp only[jA5,jAx,q0]at hj;by_cases hlt:j<k
   .have hjes:j<es.length:=by omega
    have hjns:j<ns.length:=by omega
    rw[jBn hjes,jBn hjns];simp only[show j<=k by omega,if_true,show j+1<=k by omega];exact q5 j hjes hjns
   .have:j=k:=by omega
    subst this;rw[jC1 (by omega),jC1 (by omega)];simp only[jA,if_true,show ¬(j+1<=j) by omega,if_false,jBx,q0,q1,jCl];rw[a1.own]at g3;exact⟨mm,g1,hs,g3,g5⟩
theorem zRq{len:Nat}(hc:0<=c)(hl:Lim m (c+1))(x:Int)(hx0:0<=x)(hx1:x<=65536)(k:Nat)(h:k<hs.length)(h1:∀(j:Nat)(hj:j<k),hs[j].id≠hs[k].id)
 (h2:hs[k].kind=1)(h3:0<hs[k].slots.length)(h3':hs[k].slots.length<=6)(h4:∀s∈hs[k].slots,TyOk hs r s.typ)(hQ:Q r)
 (hk:dN hs R c (depth-1) Q len)(hx:Cx hs R m)(he:EnvOk hs R m.temp env)(h5:0<env.length)(h6:env.length<=len)(hd1 : -1000<=depth)(hd2:depth<=1000) :
 cH hs m.own zHm m [.ptr 0 0,.agg (zB (yB hs[k].id)),.sl env.length (zW env),int x,int depth] env (yB hs[k].id) (c+1):=by
 obtain⟨hm,hdv,hhd⟩:=zVC hx h h1;generalize hD:m.defs[k]=D at hdv hhd;have eid:D.id=hs[k].id:=by rw[<-hhd];rfl
 have eslots:D.slots=hs[k].slots:=by rw[<-hhd];rfl
 have ekind:D.kind=1:=by rw[<-h2,<-hhd];rfl
 have hdl:=hx.dlen;have hd100:=hx.len;have wd:=qA (depth-1) (by omega);obtain⟨j,hj,hj1⟩:∃j:Nat,j<D.slots.length/\(j:Int)=if depth<0 then 0 else x.tmod D.slots.length:=by
  rw[eslots];by_cases hd:depth<0
  .exact⟨0,h3,by rw[if_pos hd];rfl⟩
  .refine⟨(x % hs[k].slots.length).toNat,?_,?_⟩
   .have:=jDc x (b:=(hs[k].slots.length:Int)) (by omega);have:=jD2 x (b:=(hs[k].slots.length:Int)) (by omega);omega
   .rw[if_neg hd,tmN hx0];have:=jD2 x (b:=(hs[k].slots.length:Int)) (by omega);omega
 have hjs:j<hs[k].slots.length:=by rw[<-eslots];exact hj
 have hty:D.slots[j].typ=hs[k].slots[j].typ:=by simp only[eslots]
 obtain⟨e,m',g1,g2,g3,g4,g5⟩:=hk m r D.slots[j].typ env hx (hl.mono (by omega)) (by rw[hty];exact h4 _ (jA3 hjs)) hQ he h5 h6;have hln:=Lim.adv (c:=c) (c':=1) hl g2;obtain⟨l1,l2,l3,l4,l5,l6,l7,l8⟩:=hln;refine⟨.mk ⟨0,0,m'.temp⟩ 9 j hs[k].id Typ.zero [e] [],{m' with temp:=m'.temp+1,left:=m'.left-1},?_,g2.trans (y9 _),.case _ _ k h j hjs e h2 (hty▸g3),by simp only[tmps,yF,jB8];exact g4.append (Seg.one _) g2.temp1 (by omega),iM (by simpa using g5)⟩;refine ml qEl [87,77,147] [] [] [.cell 10 15 true] func131 (by kernel_rfl) ?_
 (conv in kH _ _ _=>cbv)
 simp[mkS,mkB,zB];refine⟨_,_,aG 1,?_⟩;simp[mkS,mkB,zB,List.replicate];refine zM0 (zJB m.mods m.defs hs[k].id (by omega)) [1] (by decide) (by simp[zFs]) (by simp[zFs]) (by simp[zG]) (fun τ hτ=>by
  have:=zEy hτ (j:=1) (o:=.row false 41 31 m.defs.length (z7 m.defs)) (by simp) (by simp)
  simpa[zFs]using this) ?_
 rw[hdv];have hnil:D.slots≠[]:=fun e=>by rw[e]at hj;simp at hj
 have hdS:List.drop (j*11+4) (jF D.slots)=(j4 D.slots[j]++jF (D.slots.drop (j+1))).drop 4:=by rw[<-jBb,jN hj]
 have hbS:j*11+4+5<=D.slots.length*11:=by omega
 by_cases hd:depth<0
 .have hj0:j=0:=by rw[if_pos hd]at hj1;omega
  subst hj0;simp only[Nat.zero_mul,jAz]at hdS hbS;simp[mkS,mkB,zI,ekind,hnil,hd,hj,hdS,hbS,j4,wd];intro _;refine mr g1 [0,1] (by simp[mkS,mkB,zB]) ?_;simp[mkS,mkB];refine mr (aL m' 9 0 [e] l3 (by omega) (by omega) l6) [0,1] (by simp[mkS,mkB,zM]) ?_;simp[mkS,mkB,zH];exact mv [0,1] 0 (by rfl) (by simp[zH,zM,eid])
 .rw[if_neg hd]at hj1;simp[mkS,mkB,zI,ekind,hnil,hd,<-hj1,hj,hdS,hbS,j4,wd];intro _;refine mr g1 [0,1] (by simp[mkS,mkB,zB]) ?_;simp[mkS,mkB];refine mr (aL m' 9 j [e] l3 (by omega) (by omega) l6) [0,1] (by simp[mkS,mkB,zM]) ?_;simp[mkS,mkB,zH];exact mv [0,1] 0 (by rfl) (by simp[zH,zM,eid])
theorem zTA{len:Nat}(hc:0<=c)(hl:Lim m (6*c+1))(x:Int)(k:Nat)(h:k<hs.length)(h1:∀(j:Nat)(hj:j<k),hs[j].id≠hs[k].id)
 (h2:hs[k].kind=0)(h3':hs[k].slots.length<=6)(h4:∀s∈hs[k].slots,TyOk hs r s.typ)(hQ:Q r)
 (hk:dN hs R c (depth-1) Q len)(hx:Cx hs R m)(he:EnvOk hs R m.temp env)(h5:0<env.length)(h6:env.length<=len)(hd1 : -1000<=depth)(hd2:depth<=1000) :
 cH hs m.own zHm m [.ptr 0 0,.agg (zB (yB hs[k].id)),.sl env.length (zW env),int x,int depth] env (yB hs[k].id) (6*c+1):=by
 obtain⟨hm,hdv,hhd⟩:=zVC hx h h1;generalize hD:m.defs[k]=D at hdv hhd;have eid:D.id=hs[k].id:=by rw[<-hhd];rfl
 have eslots:D.slots=hs[k].slots:=by rw[<-hhd];rfl
 have ekind:D.kind=0:=by rw[<-h2,<-hhd];rfl
 have hdl:=hx.dlen;have hd100:=hx.len;have wd:=qA (depth-1) (by omega);have hS6:D.slots.length<=6:=by rw[eslots];exact h3'
 have hsc:((D.slots.length:Int))*c<=6*c:=jDb (by omega) hc;obtain⟨es,ms,q1,q2,q3,q4,q5⟩:=zMN hk hc env h5 h6 (D.slots.map (·.typ)) m hx (hl.mono (by rw[jAd];omega)) (fun t ht=>by obtain⟨s,hs',rfl⟩:=jAk.1 ht;exact⟨r,h4 s (eslots▸hs'),hQ⟩) he
 rw[jAd]at q1 q3 q4;have ha:=(q3 D.slots.length (jA _)).mono hsc;obtain⟨l1,l2,l3,l4,l5,l6,l7,l8⟩:=Lim.adv (c:=6*c) (c':=1) hl ha;refine⟨.mk ⟨0,0,(ms es.length).temp⟩ 7 0 hs[k].id Typ.zero es [],{ms es.length with temp:=(ms es.length).temp+1,left:=(ms es.length).left-1},?_,q1▸ha.trans (y9 _),.record _ _ k h es h2 (by rw[<-eslots,q1]) fun j hj=>?_,
  by simp only[tmps];rw[q1];exact q4.append (Seg.one _) ha.temp1 (by omega),iM (zAS rfl fun j hj=>(q5 j hj (by rw[jAd];omega)).2.2)⟩
 .rw[<-eid]at hdv ⊢;refine ml qEl [87,77,147] [] [] [.cell 10 15 true] func131 (by kernel_rfl) ?_
  (conv in kH _ _ _=>cbv)
  simp[mkS,mkB,zB];refine⟨_,_,aG 1,?_⟩;simp[mkS,mkB,zB,List.replicate];refine zM0 (zJB m.mods m.defs D.id (by omega)) [1] (by decide) (by simp[zFs]) (by simp[zFs]) (by simp[zG]) (fun τ hτ=>by
   have:=zEy hτ (j:=1) (o:=.row false 41 31 m.defs.length (z7 m.defs)) (by simp) (by simp)
   simpa[zFs]using this) ?_
  rw[hdv];simp[mkS,mkB,zI,ekind];refine qM (S:=Nat) (fun i=>[(0,.ptr 0 0),(2,.sl env.length (zW env)),(4,int depth),(6,.ptr 2 0),(10,.ptr 3 0),(15,.ptr 4 0),(20,.row 5 i),(21,int i)])
   (fun i=>mkS (ms i)++[.box (zB (yB D.id)),.box (zH Exp.zero),.box (zI D),.row false 39 15 i (qL (es.take i))]) (fun i=>i<=es.length) (fun i=>es.length-i) 0 (by simp)
   ((jW (t:=20) (by simp) 39 15).trans (mw [0,1,2,3,4,5] 0 (by rfl) (by simp[mkS,mkB,zB,yB,q2,zH,Exp.zero,Id.zero,Typ.zero,zI,ekind]))) ?_
  intro i hi;have hms:=q3 i (by omega);by_cases hi2:i<es.length
  .have hid:i<D.slots.length:=by omega
   obtain⟨g1,_,_⟩:=q5 i hi2 (by rw[jAd];omega);rw[jAy]at g1;have hst:qL (es.take (i+1))=qL (es.take i)++zH es[i]:=bH hi2;have hw:=yK i (by omega);have hdS:List.drop (i*11+4) (jF D.slots)=(j4 D.slots[i]++jF (D.slots.drop (i+1))).drop 4:=by rw[<-jBb,jN hid]
   have hbS:i*11+4+5<=D.slots.length*11:=by omega
   simp[mkS,mkB,zI,hid,hdS,hbS,j4,wd];intro _;refine mr g1 [0,1] (by simp[mkS,mkB,zB]) ?_;simp[mkS,mkB];refine⟨⟨by simp[maxLen];omega,by omega⟩,?_⟩;exact zN (i+1) hi2 (by omega) (mw [0,1,2,3,4,5] 0 (by rfl) (by simp[mkS,mkB,zB,yB,zH,Exp.zero,Id.zero,Typ.zero,hst,zI,hw]))
  .have hie:i=es.length:=by omega
   subst hie;have hid:¬es.length<D.slots.length:=by omega
   rw[<-q1]at l3 l4 l5 l6;simp[mkS,mkB,zI,hid];intro _;refine⟨qK [(0,.ptr 0 0),(10,.ptr 3 0),(15,.ptr 4 0),(20,.sl es.length (qL es))],mkS (ms es.length)++[.box (zB (yB D.id)),.box (zH Exp.zero),.box (zI D)],mw [0,1,2,3,4] 1 (by rfl) (by simp[mkS,mkB,zB,yB,zH,Exp.zero,Id.zero,Typ.zero,zI]),?_⟩;simp[mkS,mkB];refine mr (aL (ms es.length) 7 0 es l3 (by omega) (by omega) l6) [0,1] (by simp[mkS,mkB]) ?_;simp[mkS,mkB,zH,zI];exact mv [0,1] 0 (by rfl) (by simp[zH])
 .have:=(q5 j hj (by rw[jAd];omega)).2.1;rw[jAy]at this
  simpa only[eslots]using this
theorem zRs{len:Nat}(hc:0<=c)(hl:Lim m (6*c+1))(x:Int)(hx0:0<=x)(hx1:x<=65536)(t:Typ)(hr:TyOk hs r t)(hQ:∀r'<r,Q r')
 (hk:dN hs R c (depth-1) Q len)(hx:Cx hs R m)(he:EnvOk hs R m.temp env)(h5:0<env.length)(h6:env.length<=len)(hd1 : -1000<=depth)(hd2:depth<=1000) :
 cH hs m.own zHm m [.ptr 0 0,.agg (zB t),.sl env.length (zW env),int x,int depth] env t (6*c+1):=by
 cases hr with
 |int r=>exact(zT9 (R:=R) (hl.mono (by omega)) x depth hx0 hx1).mono (by omega)
 |bool r=>exact(zRp (hl.mono (by omega)) x depth hx0).mono (by omega)
 |list r t h=>exact(zRr hc (hl.mono (by omega)) x hx0 t h (hQ r (by omega)) hk hx he h5 h6 hd1 hd2).mono (by omega)
 |dfn r k h h1 h2 h3 h4 =>
  rcases h2 with h2|⟨h2,h2'⟩
  .exact zTA hc hl x k h h1 h2 h3 h4 (hQ r (by omega)) hk hx he h5 h6 hd1 hd2
  .exact(zRq hc (hl.mono (by omega)) x hx0 hx1 k h h1 h2 h2' h3 h4 (hQ r (by omega)) hk hx he h5 h6 hd1 hd2).mono (by omega)
def zVF:Nat->Option wD:=fun|2=>k_ [0,0,0,0,0,0,0,0,2,2,2,0,0,0,0]|_=>none
def tN(d:Dfn):Bool:=decide (d.kind=5)&&decide (d.slots.length=1)
def zIq(p:Prg)(id:Id):A:=.tup [.agg (zI ((qI p.defs id).getD .zero)),bl ((qI p.defs id).isSome&&tN ((qI p.defs id).getD .zero))]
theorem zA2(p:Prg)(id:Id):my 56 [.agg (zT p),.agg (zG id)] [] (zIq p id) []:=by
 have hP:=eP p;have hdf:=mY p id;unfold zIq;unfold dL at hdf;generalize (qI p.defs id).getD .zero=d at *
 generalize (qI p.defs id).isSome=b at *
 refine ml zVF [14] [] [] [.cell 4 31 true,.slot 5] func56 (by kernel_rfl) ?_
 (conv in kH _ _ _=>cbv)
 simp[hP,zG];refine mu hdf (by simp[zT,zG]) ?_;simp[zI];refine⟨_,_,zK (l:=[(4,.ptr 0 0),(6,.rptr (zI d)),(7,bl b)]) (U':=[.box (kz0.map qZ)]) [2] 1 (by simp) (by simp) (by simp) (by simp[zI]),?_⟩;cases b
 .simp[zI];exact zA 0 (by simp[zI])
 .by_cases h0:d.kind=5
  .by_cases h1:d.slots.length=1
   .have h1':(d.slots.length:Int)=1:=by omega
    simp[zI,h0,h1']
    first|exact fun _=>zA 0 (by simp[zI,h0,tN,h1])|exact zA 0 (by simp[zI,h0,tN,h1])
   .have h1':¬(d.slots.length:Int)=1:=by omega
    simp[zI,h0,h1']
    first|exact fun _=>zA 0 (by simp[zI,h0,tN,h1])|exact zA 0 (by simp[zI,h0,tN,h1])
  .simp[zI,h0];exact zA 0 (by simp[zI,h0,tN])
theorem zKA{id:Id}:((qI p.defs id).isSome&&tN ((qI p.defs id).getD .zero))=(yJ p id).isSome:=by
 unfold yJ tN;cases qI p.defs id with
 |none=>rfl
 |some d =>
  simp only[Option.isSome_some,jBf,jC4];by_cases h:d.kind=5
  .rw[if_pos h]
   match hs:d.slots with
   |[]=>simp
   |[s]=>simp[h]
   |s::s'::l=>simp
  .rw[if_neg h];simp[h]
theorem x7{id:Id}{a:Typ×Typ}(h:yJ p id=some a):∃d s,qI p.defs id=some d/\d.kind=5/\d.slots=[s]/\a=(s.typ,d.res):=by
 unfold yJ at h;cases hd:qI p.defs id with
 |none=>rw[hd]at h;cases h
 |some d =>
  rw[hd]at h;simp only at h;split at h
  .rename_i hk;split at h
   .rename_i s hs;cases h;exact⟨d,s,rfl,hk,hs,rfl⟩
   .cases h
  .cases h
def zVG:Nat->Option wD:=fun|11=>k_ [0,2002,0,2,0,1002,0,0]|_=>none
def zQK(p:Prg)(l:wF):Typ:=((yJ p (l.getD 0 .zero)).getD (.zero,.zero)).1
def toN(p:Prg)(l:wF):Nat->Typ
 | 0=>.zero
 |n+1=>((yJ p (l.getD n .zero)).getD (.zero,.zero)).2
def zA4(p:Prg)(l:wF):Typ×Typ×Bool:=if zAX p l=true then (if l=[]then .zero else zQK p l,toN p l l.length,decide (l≠[]))else (.zero,.zero,false)
def zCs(p:Prg)(l:wF):A:=.tup [.agg (zB (zA4 p l).1),.agg (zB (zA4 p l).2.1),bl (zA4 p l).2.2]
theorem zTa(p:Prg)(l:wF)(hl:l.length<=1000000):my 44 [.agg (zT p),.sl l.length (zP l)] [] (zCs p l) []:=by
 have hP:=eP p;refine mn zVG [] [.cell 4 5 true,.cell 5 5 true,.slot 6] func44 (by kernel_rfl) ?_
 (conv in zY _ _ _ _=>cbv)
 simp[hP];intro hlm;refine qM (S:=Nat) (fun i=>[(1,.sl l.length (zP l)),(2,.ptr 0 0),(4,.ptr 1 0),(5,.ptr 2 0),(11,.sl l.length (zP l)),(12,int l.length),(13,int i)]) (fun i=>[.box (zT p),.box (zB (if i=0 then .zero else zQK p l)),.box (zB (toN p l i))])
  (fun i=>i<=l.length/\pN p l i=true) (fun i=>l.length-i) 0 (by simp[pN])
  (mw [0,1,2] 0 (by rfl) (by simp[hP,zB,toN,Typ.zero,Id.zero])) ?_
 rintro i ⟨hi,hp⟩;by_cases h:i<l.length
 .have hgd:l.getD i .zero=l[i]:=by rw[jBe,jA0 h,jBf]
  have hq:l[i]?=some l[i]:=jA0 h;have hw:=yK i (by omega);simp[hP,h,yC h];refine mu (zA2 p l[i]) (by simp[hP,zG,zIq]) ?_;rw[zIq,zKA];cases hc:yJ p l[i]with
  |none =>
   have hbad:zAX p l=false:=zGo h (by rw[zCI,hgd,hc]);simp[zB];exact zA 0 (by simp[zCs,zA4,hbad,zB,Typ.zero,Id.zero])
  |some a =>
   obtain⟨d,s,hd,hk,hs,rfl⟩:=x7 hc;have hcs:jF [s]=j4 s:=by simp[jF]
   have hfro:l.getD 0 .zero=l[0]:=by rw[jBe,jA0 (by omega),jBf]
   by_cases h0:i=0
   .subst h0;simp[hP,hd,zB,zI,hs,hcs,j4];refine zN 1 ⟨h,by simp[pN,zCI,hq,hc]⟩ (by omega) (mw [0,1,2] 0 (by rfl) (by simp[hP,zB,toN,zQK,hq,hc,show IntKind.i64.wrap 1=1 from by decide]))
   .have hi0:(0:Int)<i:=by omega
    obtain⟨j,rfl⟩:∃j,i=j+1:=⟨i-1,by omega⟩;have hqj:l[j]?=some l[j]:=jA0 (by omega);have hgj:l.getD j .zero=l[j]:=by rw[jBe,jA0 (by omega),jBf]
    obtain⟨b,hb⟩:∃b,yJ p l[j]=some b:=by
     simp only[pN,jA6]at hp;have h2:=hp.2;rw[zCI,hgj]at h2;cases hb:yJ p l[j]with
     |none=>rw[hb]at h2;cases h2
     |some b=>exact⟨b,rfl⟩
    have hto:toN p l (j+1)=b.2:=by simp[toN,hqj,hb]
    have hst:zCI p l (j+1)=aF s.typ b.2:=by rw[zCI,hgd,hc];simp[hqj,hb]
    simp[hP,hd,zB,zI,hs,hcs,j4,hi0];refine zZ (zCE s.typ (toN p l (j+1))) (by simp[zB]) (by simp) ?_;rw[hto];cases hsm:aF s.typ b.2
    .have hbad:zAX p l=false:=zGo h (by rw[hst,hsm]);simp[zB];exact zA 0 (by simp[zCs,zA4,hbad,zB,Typ.zero,Id.zero])
    .have hn1:¬((j:Int)+1=0):=by omega
     simp[hP,zB,zI,hn1];refine zN (j+2) ⟨h,by rw[pN,hp,hst,hsm];rfl⟩ (by omega) (kf [0,1,2] 0 (by rfl) (by simp[hP,zB,toN,hq,hc]) (by simp[show IntKind.i64.wrap ((j:Int)+1+1)=(j:Int)+2 from IntWalk.i64_in _ (by omega)]))
 .have hi':i=l.length:=by omega
  subst hi';have hpv:zAX p l=true:=hp;have hpos:((0:Int)<l.length)=(l≠[]):=by apply propext;rw[<-List.length_pos_iff];omega
  simp[hP,zB,hpos]
  first|exact fun _=>zA 0 (by simp[zCs,zA4,hpv,zB,List.length_pos_iff])|exact zA 0 (by simp[zCs,zA4,hpv,zB,List.length_pos_iff])
def qEn:Nat->Option wD:=fun|5=>k_ [0,0,0,0,2,2,2002,0,0,0,0,0,1002,0,4,0] | 20=>k_ [0,0,2002,0,0,0,0,0,1002,0,4,0] | 23=>k_ [0,2002,0,0,0,0,0,1002,0,4,0]|_=>none
variable{x:Operand}
@[simp]theorem qFU{d:wC}{n:Nat}{g:Bool}{env:Env}:dI 2002 (.ld d x n g) env=eX 2 (ev env x):=propext (vM (by omega) (by omega))
@[simp]theorem zYM{d:wC}{l:List Operand}{env:Env}:dI 1002 (.call d x l) env=True:=rfl
@[simp]theorem zVM{c l o:Nat}:eX c (.ptr l o)=(c<=l):=rfl
abbrev opF:FuncId:=138
theorem zAj{len:Nat}(hk:dN hs R c depth Q len)(hx:Cx hs R m){c':Int}(hl:Lim m (2*c+c'))(hc:0<=c)(hc':0<=c')(he:EnvOk hs R m.temp env)(h1:0<env.length)(h2:env.length<=len)
 (t u:Typ){r':Nat}(ht:TyOk hs r t)(hu:TyOk hs r' u)(hQ:Q r)(hQ':Q r') :
 ∃(a b:Exp) (m1 m2:Mk),my bL [.ptr 0 0,.agg (zB t),.sl env.length (zW env),int depth] (mkS m) (.agg (zH a)) (mkS m1) /\
  my bL [.ptr 0 0,.agg (zB u),.sl env.length (zW env),int depth] (mkS m1) (.agg (zH b)) (mkS m2) /\
  Adv m m2 (2*c)/\WT hs m.own env a t/\WT hs m.own env b u/\Seg m.temp m2.temp (tmps a++tmps b)/\a.num0/\b.num0/\Lim m2 c':=by
 obtain⟨a,m1,g1,g2,g3,g4,g5⟩:=hk m r t env hx (hl.mono (by omega)) ht hQ he h1 h2;have hl1:Lim m1 (c+c'):=Lim.adv (c:=c) (hl.mono (by omega)) g2;obtain⟨b,m2,k1,k2,k3,k4,k5⟩:=hk m1 r' u env (hx.adv g2) (hl1.mono (by omega)) hu hQ' (he.mono g2.temp1) h1 h2;rw[g2.own]at k3;exact⟨a,b,m1,m2,g1,k1,(g2.trans k2).mono (by omega),g3,k3,g4.append k4 g2.temp1 k2.temp1,g5,k5,Lim.adv hl1 k2⟩
variable{a:Exp}
theorem sH{b:Exp}{t0 t1:Int}{k n:Int}(h:Seg t0 t1 (tmps a++tmps b))(h1:t0<=t1):Seg t0 (t1+1) (tmps (.mk ⟨0,0,t1⟩ k n Id.zero Typ.zero [a,b] [])):=by simp only[tmps,yF,jB8];exact h.append (Seg.one _) h1 (by omega)
theorem nG{b:Exp}{c k n:Int}(h1:a.num0)(h2:b.num0):(Exp.mk ⟨0,0,c⟩ k n Id.zero Typ.zero [a,b] []).num0:=iM (by simp[h1,h2])
theorem zEi{c k n:Int}{r:Id}(h1:a.num0):(Exp.mk ⟨0,0,c⟩ k n r Typ.zero [a] []).num0:=iM (by simp[h1])
theorem zH7{t0 t1:Int}{k n:Int}{r:Id}(h:Seg t0 t1 (tmps a))(h1:t0<=t1):Seg t0 (t1+1) (tmps (.mk ⟨0,0,t1⟩ k n r Typ.zero [a] [])):=by simp only[tmps,yF,jB8];exact h.append (Seg.one _) h1 (by omega)
theorem zDX:my 126 [.agg (zB q9)] [] (.agg (zB (j5 q9))) []:=zT8 q9
theorem zYp{len:Nat}(hc:0<=c)(hl2:Lim m (2*c+1))(x:Int)(hx0:0<=x)(hx1:x<=65536)
 (hk:dN hs R c (depth-1) (fun r=>r<=R) len)(hR:1<=R)(hx:Cx hs R m)(he:EnvOk hs R m.temp env)(h1:0<env.length)(h2:env.length<=len)(h3:env.length<=1000)(hd1 : -1000<=depth)(hd2:depth<=1000) :
 cH hs m.own opF m [.ptr 0 0,.agg (zB q9),.sl env.length (zW env),int x,int depth] env q9 (2*c+1):=by
 have e6:x.tmod 6=x % 6:=tmN hx0;have e5:x.tmod 5=x % 5:=tmN hx0;have wd:=qA (depth-1) (by omega);by_cases h6:x.tmod 6=5
 .obtain⟨a,m1,g1,k2,k3,k4,k5⟩:=hk m 1 (j5 q9) env hx (hl2.mono (by omega)) (.list _ _ (.int _)) hR he h1 h2;obtain⟨l1,l2,l3,l4,l5,l6,l7,l8⟩:=Lim.adv (c:=c) (c':=1) (hl2.mono (by omega)) k2;refine⟨.mk ⟨0,0,m1.temp⟩ 4 11 Id.zero Typ.zero [a] [],{m1 with temp:=m1.temp+1,left:=m1.left-1},?_,(k2.trans (y9 _)).mono (by omega),.len _ _ _ _ k3,zH7 k4 k2.temp1,zEi k5⟩;refine mn qEn [] [.cell 10 15 true] func138 (by kernel_rfl) ?_
  (conv in zY _ _ _ _=>cbv)
  simp[mkS,mkB,zB,q9,h6];refine mu zDX (by simp[zB,q9]) ?_;simp[mkS,mkB,zB,wd];refine mr g1 [0,1] (by simp[mkS,mkB,zB,j5]) ?_;simp[mkS,mkB];refine mr (aL m1 4 11 [a] l3 (by omega) (by omega) l6) [0,1] (by simp[mkS,mkB,zM]) ?_;simp[mkS,mkB];exact mv [0,1] 0 (by rfl) (by simp[zH,zM])
 .obtain⟨a,b,m1,m2,g1,g2,k2,k3,k3',k4,k5,k6,hln⟩:=zAj (t:=q9) (u:=q9) (c':=1) hk hx hl2 hc (by omega) he h1 h2 (.int 0) (.int 0) (by omega) (by omega);obtain⟨l1,l2,l3,l4,l5,l6,l7,l8⟩:=hln;obtain⟨rest,hA⟩:∃rest,List.drop (x.tmod 5).toNat [A.lit (.int .i64 0),A.lit (.int .i64 1),A.lit (.int .i64 2),A.lit (.int .i64 3),A.lit (.int .i64 4)]=A.lit (.int .i64 (x.tmod 5))::rest:=by
   have:x.tmod 5=0\/x.tmod 5=1\/x.tmod 5=2\/x.tmod 5=3\/x.tmod 5=4:=by omega
   rcases this with e|e|e|e|e<;>rw[e]<;>exact⟨_,rfl⟩
  have a0:0<=x.tmod 5:=by omega
  have a1:(x.tmod 5).toNat<5:=by omega
  have a1':x.tmod 5<5:=by omega
  refine⟨.mk ⟨0,0,m2.temp⟩ 4 (x.tmod 5) Id.zero Typ.zero [a,b] [],{m2 with temp:=m2.temp+1,left:=m2.left-1},?_,k2.trans (y9 _),.arith _ _ _ _ _ a0 (by omega) k3 k3',sH k4 k2.temp1,nG k5 k6⟩;refine mn qEn [] [.cell 10 15 true] func138 (by kernel_rfl) ?_
  (conv in zY _ _ _ _=>cbv)
  simp[mkS,mkB,zB,q9,h6,wd];refine mr g1 [0,1] (by simp[mkS,mkB,zB]) ?_;simp[mkS,mkB,zB,hA,a0,a1,a1',wd];refine aK g2 [0,1] (by decide) (by simp[mkS,mkB]) (by simp[zB]) (by decide) (by simp) (by simp[mkS]) ?_;simp[mkS,mkB];refine cE (aL m2 4 (x.tmod 5) [a,b] l3 (by omega) (by omega) l6) [0,1] (by decide) (by simp[mkS,mkB]) (by simp[zM]) ?_;simp[mkS,mkB,zH,zM];exact mv [0,1] 0 (by rfl) (by simp[zH,zM])
theorem zTS{len:Nat}(hc:0<=c)(hl2:Lim m (2*c+1))(x:Int)(hx0:0<=x)(hx1:x<=65536)
 (hk:dN hs R c (depth-1) (fun r=>r<=R) len)(hR:1<=R)(hx:Cx hs R m)(he:EnvOk hs R m.temp env)(h1:0<env.length)(h2:env.length<=len)(h3:env.length<=1000)(hd1 : -1000<=depth)(hd2:depth<=1000) :
 cH hs m.own opF m [.ptr 0 0,.agg (zB jO),.sl env.length (zW env),int x,int depth] env jO (2*c+1):=by
 have e6:x.tmod 6=x % 6:=tmN hx0;have d6:x.tdiv 6=x / 6:=tdN hx0;have wd:=qA (depth-1) (by omega);have w0:IntKind.i64.wrap 0=0:=IntWalk.i64_in _ (by omega);have w1:IntKind.i64.wrap 1=1:=IntWalk.i64_in _ (by omega);have:x.tmod 6=0\/x.tmod 6=1\/x.tmod 6=2\/x.tmod 6=3\/x.tmod 6=4\/x.tmod 6=5:=by omega
 rcases this with e|e|e|e|e|e
 .obtain⟨a,m1,g1,k2,k3,k4,k5⟩:=hk m 0 jO env hx (hl2.mono (by omega)) (.bool _) (by omega) he h1 h2;obtain⟨l1,l2,l3,l4,l5,l6,l7,l8⟩:=Lim.adv (c:=c) (c':=1) (hl2.mono (by omega)) k2;refine⟨.mk ⟨0,0,m1.temp⟩ 4 9 Id.zero Typ.zero [a] [],{m1 with temp:=m1.temp+1,left:=m1.left-1},?_,(k2.trans (y9 _)).mono (by omega),.not _ _ _ k3,zH7 k4 k2.temp1,zEi k5⟩;refine mn qEn [] [.cell 10 15 true] func138 (by kernel_rfl) ?_
  (conv in zY _ _ _ _=>cbv)
  simp[mkS,mkB,zB,jO,e,wd];refine mr g1 [0,1] (by simp[mkS,mkB,zB]) ?_;simp[mkS,mkB];refine mr (aL m1 4 9 [a] l3 (by omega) (by omega) l6) [0,1] (by simp[mkS,mkB,zM]) ?_;simp[mkS,mkB];exact mv [0,1] 0 (by rfl) (by simp[zH,zM])
 .obtain⟨a,b,m1,m2,g1,g2,k2,k3,k3',k4,k5,k6,hln⟩:=zAj (t:=q9) (u:=q9) (c':=1) hk hx hl2 hc (by omega) he h1 h2 (.int 0) (.int 0) (by omega) (by omega);obtain⟨l1,l2,l3,l4,l5,l6,l7,l8⟩:=hln;refine⟨.mk ⟨0,0,m2.temp⟩ 4 5 Id.zero Typ.zero [a,b] [],{m2 with temp:=m2.temp+1,left:=m2.left-1},?_,k2.trans (y9 _),.less _ _ _ _ k3 k3',sH k4 k2.temp1,nG k5 k6⟩;refine mn qEn [] [.cell 10 15 true] func138 (by kernel_rfl) ?_
  (conv in zY _ _ _ _=>cbv)
  simp[mkS,mkB,zB,jO,e,wd];refine mr g1 [0,1] (by simp[mkS,mkB,zB]) ?_;simp[mkS,mkB,zB,wd];refine aK g2 [0,1] (by decide) (by simp[mkS,mkB]) (by simp[zB]) (by decide) (by simp) (by simp[mkS]) ?_;simp[mkS,mkB];refine cE (aL m2 4 5 [a,b] l3 (by omega) (by omega) l6) [0,1] (by decide) (by simp[mkS,mkB]) (by simp[zM]) ?_;simp[mkS,mkB,zH,zM];exact mv [0,1] 0 (by rfl) (by simp[zH,zM])
 .obtain⟨a,b,m1,m2,g1,g2,k2,k3,k3',k4,k5,k6,hln⟩:=zAj (t:=q9) (u:=q9) (c':=1) hk hx hl2 hc (by omega) he h1 h2 (.int 0) (.int 0) (by omega) (by omega);obtain⟨l1,l2,l3,l4,l5,l6,l7,l8⟩:=hln;refine⟨.mk ⟨0,0,m2.temp⟩ 4 6 Id.zero Typ.zero [a,b] [],{m2 with temp:=m2.temp+1,left:=m2.left-1},?_,k2.trans (y9 _),.same _ _ _ _ q9 k3 k3',sH k4 k2.temp1,nG k5 k6⟩;refine mn qEn [] [.cell 10 15 true] func138 (by kernel_rfl) ?_
  (conv in zY _ _ _ _=>cbv)
  simp[mkS,mkB,zB,jO,e,wd];refine mr g1 [0,1] (by simp[mkS,mkB,zB]) ?_;simp[mkS,mkB,zB,wd];refine aK g2 [0,1] (by decide) (by simp[mkS,mkB]) (by simp[zB]) (by decide) (by simp) (by simp[mkS]) ?_;simp[mkS,mkB];refine cE (aL m2 4 6 [a,b] l3 (by omega) (by omega) l6) [0,1] (by decide) (by simp[mkS,mkB]) (by simp[zM]) ?_;simp[mkS,mkB,zH,zM];exact mv [0,1] 0 (by rfl) (by simp[zH,zM])
 .obtain⟨j,hj,e1⟩:∃j:Nat,j<env.length/\(x.tdiv 6).tmod (env.length:Int)=j:=by
   have q0:0<=x.tdiv 6:=by omega
   have q1:=jDc (x.tdiv 6) (b:=(env.length:Int)) (by omega);have q2:=jD2 (x.tdiv 6) (b:=(env.length:Int)) (by omega);exact⟨((x.tdiv 6) % env.length).toNat,by omega,by rw[tmN q0];omega⟩
  have hdr:=gO hj;have hdr4:List.drop (j*9+4) (zW env)=(cI env[j]++zW (env.drop (j+1))).drop 4:=by rw[<-jBb,hdr]
  have hb4:j*9+4+5<=env.length*9:=by omega
  have hne:¬((env.length:Int)=0):=by omega
  have hnil:env≠[]:=fun e=>by rw[e]at h1;simp at h1
  have htu:=he.typs env[j] (jA3 hj);have w6:=qA (x.tdiv 6) (by omega);obtain⟨a,b,m1,m2,g1,g2,k2,k3,k3',k4,k5,k6,hln⟩:=zAj (t:=env[j].typ) (u:=env[j].typ) (c':=1) hk hx hl2 hc (by omega) he h1 h2 htu htu (by omega) (by omega);obtain⟨l1,l2,l3,l4,l5,l6,l7,l8⟩:=hln;refine⟨.mk ⟨0,0,m2.temp⟩ 4 6 Id.zero Typ.zero [a,b] [],{m2 with temp:=m2.temp+1,left:=m2.left-1},?_,k2.trans (y9 _),.same _ _ _ _ env[j].typ k3 k3',sH k4 k2.temp1,nG k5 k6⟩;refine mn qEn [] [.cell 10 15 true] func138 (by kernel_rfl) ?_
  (conv in zY _ _ _ _=>cbv)
  simp[mkS,mkB,zB,jO,e,wd,e1,hne,hnil,hj,hdr4,hb4,cI,w6];intro _;refine mr g1 [0,1] (by simp[mkS,mkB,zB]) ?_;simp[mkS,mkB,zB,wd];refine aK g2 [0,1] (by decide) (by simp[mkS,mkB]) (by simp[zB]) (by decide) (by simp) (by simp[mkS]) ?_;simp[mkS,mkB];refine cE (aL m2 4 6 [a,b] l3 (by omega) (by omega) l6) [0,1] (by decide) (by simp[mkS,mkB]) (by simp[zM]) ?_;simp[mkS,mkB,zH,zM];exact mv [0,1] 0 (by rfl) (by simp[zH,zM])
 .obtain⟨a,b,m1,m2,g1,g2,k2,k3,k3',k4,k5,k6,hln⟩:=zAj (t:=jO) (u:=jO) (c':=1) hk hx hl2 hc (by omega) he h1 h2 (.bool 0) (.bool 0) (by omega) (by omega);obtain⟨l1,l2,l3,l4,l5,l6,l7,l8⟩:=hln;refine⟨.mk ⟨0,0,m2.temp⟩ 4 7 Id.zero Typ.zero [a,b] [],{m2 with temp:=m2.temp+1,left:=m2.left-1},?_,k2.trans (y9 _),.andor _ _ _ _ _ (.inl rfl) k3 k3',sH k4 k2.temp1,nG k5 k6⟩;refine mn qEn [] [.cell 10 15 true] func138 (by kernel_rfl) ?_
  (conv in zY _ _ _ _=>cbv)
  simp[mkS,mkB,zB,jO,e,wd,w0];refine mr g1 [0,1] (by simp[mkS,mkB,zB]) ?_;simp[mkS,mkB,zB,wd];refine aK g2 [0,1] (by decide) (by simp[mkS,mkB]) (by simp[zB]) (by decide) (by simp) (by simp[mkS]) ?_;simp[mkS,mkB];refine cE (aL m2 4 7 [a,b] l3 (by omega) (by omega) l6) [0,1] (by decide) (by simp[mkS,mkB]) (by simp[zM]) ?_;simp[mkS,mkB,zH,zM];exact mv [0,1] 0 (by rfl) (by simp[zH,zM])
 .obtain⟨a,b,m1,m2,g1,g2,k2,k3,k3',k4,k5,k6,hln⟩:=zAj (t:=jO) (u:=jO) (c':=1) hk hx hl2 hc (by omega) he h1 h2 (.bool 0) (.bool 0) (by omega) (by omega);obtain⟨l1,l2,l3,l4,l5,l6,l7,l8⟩:=hln;refine⟨.mk ⟨0,0,m2.temp⟩ 4 8 Id.zero Typ.zero [a,b] [],{m2 with temp:=m2.temp+1,left:=m2.left-1},?_,k2.trans (y9 _),.andor _ _ _ _ _ (.inr rfl) k3 k3',sH k4 k2.temp1,nG k5 k6⟩;refine mn qEn [] [.cell 10 15 true] func138 (by kernel_rfl) ?_
  (conv in zY _ _ _ _=>cbv)
  simp[mkS,mkB,zB,jO,e,wd,w1];refine mr g1 [0,1] (by simp[mkS,mkB,zB]) ?_;simp[mkS,mkB,zB,wd];refine aK g2 [0,1] (by decide) (by simp[mkS,mkB]) (by simp[zB]) (by decide) (by simp) (by simp[mkS]) ?_;simp[mkS,mkB];refine cE (aL m2 4 8 [a,b] l3 (by omega) (by omega) l6) [0,1] (by decide) (by simp[mkS,mkB]) (by simp[zM]) ?_;simp[mkS,mkB,zH,zM];exact mv [0,1] 0 (by rfl) (by simp[zH,zM])
theorem zTT{len:Nat}(hc:0<=c)(hl2:Lim m (2*c+1))(x:Int)(hx0:0<=x)(hx1:x<=65536)
 (hk:dN hs R c (depth-1) (fun r=>r<=R) len)(hR:1<=R)(hx:Cx hs R m)(he:EnvOk hs R m.temp env)(h1:0<env.length)(h2:env.length<=len)(h3:env.length<=1000)(hd1 : -1000<=depth)(hd2:depth<=1000)(t:Typ)(ht:TyOk hs R (j5 t))(h5:x.tmod 2=0) :
 cH hs m.own opF m [.ptr 0 0,.agg (zB (j5 t)),.sl env.length (zW env),int x,int depth] env (j5 t) (2*c+1):=by
 have wd:=qA (depth-1) (by omega);obtain⟨a,b,m1,m2,g1,g2,k2,k3,k3',k4,k5,k6,hln⟩:=zAj (t:=(j5 t)) (u:=(j5 t)) (c':=1) hk hx hl2 hc (by omega) he h1 h2 ht ht (by omega) (by omega);obtain⟨l1,l2,l3,l4,l5,l6,l7,l8⟩:=hln;refine⟨.mk ⟨0,0,m2.temp⟩ 4 10 Id.zero Typ.zero [a,b] [],{m2 with temp:=m2.temp+1,left:=m2.left-1},?_,k2.trans (y9 _),.join _ _ _ _ _ k3 k3',sH k4 k2.temp1,nG k5 k6⟩;refine mn qEn [] [.cell 10 15 true] func138 (by kernel_rfl) ?_
 (conv in zY _ _ _ _=>cbv)
 simp[mkS,mkB,zB,j5,h5,wd];refine mr g1 [0,1] (by simp[mkS,mkB,zB,j5]) ?_;simp[mkS,mkB,zB,wd];refine aK g2 [0,1] (by decide) (by simp[mkS,mkB]) (by simp[zB,j5]) (by decide) (by simp) (by simp[mkS]) ?_;simp[mkS,mkB];refine cE (aL m2 4 10 [a,b] l3 (by omega) (by omega) l6) [0,1] (by decide) (by simp[mkS,mkB]) (by simp[zM]) ?_;simp[mkS,mkB,zH,zM];exact mv [0,1] 0 (by rfl) (by simp[zH,zM])
theorem zYq{len:Nat}(hc:0<=c)(hl2:Lim m (2*c+1))(x:Int)(hx0:0<=x)(hx1:x<=65536)
 (hk:dN hs R c (depth-1) (fun r=>r<=R) len)(hR:1<=R)(hx:Cx hs R m)(he:EnvOk hs R m.temp env)(h1:0<env.length)(h2:env.length<=len)(h3:env.length<=1000)(hd1 : -1000<=depth)(hd2:depth<=1000)(t:Typ)(ht:TyOk hs R t)(h4:t.k≠0)(h5:t.k≠1)(h6:t.k≠2\/x.tmod 2≠0)(hl:Lim m (6*c+1)) :
 cH hs m.own opF m [.ptr 0 0,.agg (zB t),.sl env.length (zW env),int x,int depth] env t (6*c+1):=by
 have d2:x.tdiv 2=x / 2:=tdN hx0;have w2:=qA (x.tdiv 2) (by omega);obtain⟨e,m',g1,g2⟩:=zRs hc hl (x.tdiv 2) (by omega) (by omega) t ht (fun r' h=>by omega) hk hx he h1 h2 hd1 hd2;refine⟨e,m',?_,g2⟩;refine mn qEn [] [.cell 10 15 true] func138 (by kernel_rfl) ?_
 (conv in zY _ _ _ _=>cbv)
 by_cases h2:t.k=2
 .have h7:x.tmod 2≠0:=h6.resolve_left (fun h=>h h2);simp[mkS,mkB,zB,h2,h7,w2];refine mr g1 [0,1] (by simp[mkS,mkB,zB,h2]) ?_;simp[mkS,mkB];exact mv [0,1] 0 (by rfl) (by simp[zH])
 .simp[mkS,mkB,zB,h2,h4,h5,w2];refine mr g1 [0,1] (by simp[mkS,mkB,zB]) ?_;simp[mkS,mkB];exact mv [0,1] 0 (by rfl) (by simp[zH])
theorem qFs{len:Nat}(hc:0<=c)(hl:Lim m (7*c+7))(x:Int)(hx0:0<=x)(hx1:x<=65536)
 (hk:dN hs R c (depth-1) (fun r=>r<=R) len)(hR:1<=R)(hx:Cx hs R m)(he:EnvOk hs R m.temp env)(h1:0<env.length)(h2:env.length<=len)(h3:env.length<=1000)(hd1 : -1000<=depth)(hd2:depth<=1000)(t:Typ)(ht:TyOk hs R t) :
 cH hs m.own opF m [.ptr 0 0,.agg (zB t),.sl env.length (zW env),int x,int depth] env t (7*c+7):=by
 have hlit:=fun h4 h5 h6=>(zYq (hl:=hl.mono (by omega)) hc (hl.mono (by omega)) x hx0 hx1 hk hR hx he h1 h2 h3 hd1 hd2 t ht h4 h5 h6).mono (show 6*c+1<=7*c+7 by omega)
 cases ht with
 |int r=>exact(zYp hc (hl.mono (by omega)) x hx0 hx1 hk hR hx he h1 h2 h3 hd1 hd2).mono (by omega)
 |bool r=>exact(zTS hc (hl.mono (by omega)) x hx0 hx1 hk hR hx he h1 h2 h3 hd1 hd2).mono (by omega)
 |list r t h =>
  by_cases h5:x.tmod 2=0
  .exact(zTT hc (hl.mono (by omega)) x hx0 hx1 hk hR hx he h1 h2 h3 hd1 hd2 t (.list _ _ h) h5).mono (by omega)
  .exact hlit (by simp) (by simp) (.inr h5)
 |dfn r k h h1 h2 h3 h4=>exact hlit (by simp) (by simp) (.inl (by simp))
theorem zUq{n:Nat}(h:n<=1000000000):w64 (n:Int)=n:=IntWalk.i64_in _ (by omega)
theorem zG3:∀(v:Val),qN v<=100000000->uV v=qN v:=by
 intro v h;rw[zJR,iP];have key:∀i,i<=v.kids.length->zHE (v.kids.take i)=((1+jT (v.kids.take i):Nat):Int):=by
  intro i;induction i with
  |zero=>intro _;simp[zHE,jT]
  |succ i ih =>
   intro hi;have e1:=zCG (l:=v.kids) (i:=i) (by omega);have e2:=zBh v.kids (i+1);have e3:=iP v;have hk:qN (v.kids[i]'(by omega))<qN v:=cL (jA3 _);rw[zG6 (by omega),ih (by omega),zG3 (v.kids[i]'(by omega)) (by omega),e1];rw[IntWalk.i64_in _ (by omega)];omega
 have:=key v.kids.length (jA _)
 rwa[jAr]at this
termination_by v=>qN v
theorem tO:∀(a b:wH),aC (a++b)=max (aC a) (aC b)
 |[],b=>by simp[aC]
 |x::a,b=>by simp only[jBa,aC,tO a b];omega
mutual
theorem zF6:∀(v:Val),bI v<=qN v
 | .mk _ _ l=>by simp only[bI,qN];have:=zD1 l;omega
theorem zD1:∀(l:wH),aC l<=jT l
 |[]=>by simp[aC]
 |v::l=>by simp only[aC,jT];have:=zF6 v;have:=zD1 l;omega
end
theorem zD0:∀(v:Val),qN v<=100000000->mZ v=bI v:=by
 intro v h;rw[zF7,gQ];have key:∀i,i<=v.kids.length->zHo (v.kids.take i)=((aC (v.kids.take i):Nat):Int):=by
  intro i;induction i with
  |zero=>intro _;simp[zHo,aC]
  |succ i ih =>
   intro hi;have hk:qN (v.kids[i]'(by omega))<qN v:=cL (jA3 _);rw[zGg (by omega),ih (by omega),zD0 (v.kids[i]'(by omega)) (by omega),jA8 (by omega),tO];simp only[aC,zO9];split<;>omega
 have:=key v.kids.length (jA _);rw[jAr]at this;rw[this];have h1:=zF6 v;have h2:=gQ v;have:((aC v.kids:Nat):Int)+1=((aC v.kids+1:Nat):Int):=by omega
 rw[this,zUq (by omega)]
termination_by v=>qN v
def qEm:Nat->Option wD:=fun|11=>k_ [0,0,0,0,0,0,0,0,0,0,0,0,0,0,0,0,0,4,0,0,0] | 12=>k_ [2,2002,0,1002,0,0,2,0]|_=>none
abbrev zLr:FuncId:=135
theorem zR5(m:Mk)(kind n:Int)(h0:0<=m.temp)(h1:m.temp<=1000000000000000)(h2 : -1000000000000000<=m.left)(h3:m.left<=1000000000000000) :
 my 132 [.ptr 0 0,int kind,int n,.sl 0 []] (mkS m) (.agg [int 0,int 0,int m.temp,int kind,int n,int 0,int 0,int 0,int 0,int 0,int 0,int 0,.nil,.sl 0 [],.nil]) (mkS {m with temp:=m.temp+1,left:=m.left-1}):=by
 refine mq [] [.cell 8 15 true] func132 (by kernel_rfl) ?_
 (conv in kq _ _=>cbv)
 have w1:=qA (m.temp+1) (by omega);have w2:=qA m.temp (by omega);have w3:=qA (m.left-1) (by omega);simp[mkS,mkB,w1,w2,w3];exact mv [0,1] 0 (by rfl) (by simp)
def zLR(hd:Hd)(j:Nat):Typ:=match hd.slots[j]? with
 |some s=>s.typ
 |none=>q9
theorem zNo{hd:Hd}{j:Nat}(h:j<hd.slots.length):zLR hd j=hd.slots[j].typ:=by unfold zLR;rw[jA0 h]
theorem zUk{hd:Hd}(h:∀s∈hd.slots,TyOk hs R s.typ)(j:Nat):TyOk hs R (zLR hd j):=by
 unfold zLR;split
 .rename_i s hs;exact h s (jC2 hs)
 .exact .int _
theorem zJq{len:Nat}(hc:0<=c)(hl:Lim m (7*c+7))(x:Nat)(hx1:x<=65536)(hk:dN hs R c (depth-1) (fun r=>r<=R) len)(hk2:dN hs R c (depth-2) (fun r=>r<=R) len)
 (hx:Cx hs R m)(he:EnvOk hs R m.temp env)(h1:0<env.length)(h2:env.length+1<=len)(h3:env.length<=1000)(hd1 : -1000<=depth)(hd2:depth<=1000)(t:Typ)(ht:TyOk hs R t)
 (hop:cH hs m.own opF m [.ptr 0 0,.agg (zB t),.sl env.length (zW env),int x,int depth] env t (7*c+7)) :
 cH hs m.own zLr m [.ptr 0 0,.agg (zB t),.sl env.length (zW env),int x,int depth] env t (7*c+7):=by
 have hdl:=hx.dlen;have hd100:=hx.len;have hd0:=hx.len0;have wd:=qA (depth-1) (by omega);have wd2:=qA (depth-2) (by omega);rcases zTP m 1 x with hof|⟨k,hkm,hof,hkind,hvis⟩
 .obtain⟨e,m',g1,g2⟩:=hop;refine⟨e,m',?_,g2⟩;refine ml qEm [83] [43] [] [.cell 10 15 true] func135 (by kernel_rfl) ?_
  (conv in kH _ _ _=>cbv)
  simp[mkS,mkB,zB];refine mr (zRC m 1 x (by omega) (by omega) (by omega) hx.mods) [0,1] (by simp[mkS,mkB]) ?_;simp[mkS,mkB,hof];refine mr g1 [0,1] (by simp[mkS,mkB,zB]) ?_;simp[mkS,mkB];exact mv [0,1] 0 (by rfl) (by simp[zH])
 .have hks:k<hs.length:=by omega
  have hget:=hx.get hkm;generalize hD:m.defs[k]=D at hget hkind;have eid:hs[k].id=D.id:=by rw[hget];rfl
  have eslots:hs[k].slots=D.slots:=by rw[hget];rfl
  have ekind:hs[k].kind=1:=by rw[hget];exact hkind
  obtain⟨hs6,hsT⟩:=hx.slots k hks;have hDl:D.slots.length<=6:=by rw[<-eslots];exact hs6
  obtain⟨a,m1,g1,g2,g3,g4,g5⟩:=hk2 m R (yB hs[k].id) env hx (hl.mono (by omega)) (hx.typs k hks (.inr ekind)) (jA _) he h1 (by omega);have hl1:Lim m1 (6*c+7):=Lim.adv (c:=c) (hl.mono (by omega)) g2;obtain⟨l1,l2,l3,l4,l5,l6,l7,l8⟩:=hl1;obtain⟨mA,hmA⟩:∃mA:Mk,mA={m1 with temp:=m1.temp+1,left:=m1.left-1}:=⟨_,rfl⟩;have aA:Adv m1 mA 1:=hmA▸y9 m1;have tA:mA.temp=m1.temp+1:=by rw[hmA]
  have hlA:Lim mA (6*c+6):=Lim.adv (c:=1) ⟨l1,by omega,l3,by omega,by omega,l6,l7,by omega⟩ aA;have hsc:((D.slots.length:Int))*(c+1)<=6*(c+1):=jDb (by omega) (by omega);obtain⟨es,ns,ms,q0,q1,q2,q3,q4,q5⟩:=zRk hk hc (fun j=>env++[⟨⟨0,0,m1.temp⟩,j,zLR hs[k] j⟩]) t ht (jA R) mA ((hx.adv g2).adv aA)
   (fun j=>((he.mono g2.temp1).mono aA.temp1).snoc m1.temp j _ (zUk hsT j) (fun b hb e=>by have hb':=he.new b hb (by rw[e]);rw[e]at hb';have:=g2.temp1;simp only at hb';omega) (by omega)) (fun j=>by simp) (fun j=>by simp;omega) D.slots.length (hlA.mono (by omega))
  have aE:=q3 D.slots.length (jA _);have eown:mA.own=m.own:=aA.own.trans g2.own;refine⟨.mk ⟨0,0,m1.temp⟩ 10 0 hs[k].id Typ.zero (a::es) ns,ms D.slots.length,?_,((g2.trans aA).trans aE).mono (by omega),?_,?_,iM ?_⟩
  rotate_left
  .refine .mtch _ _ k hks a es t ns (by omega) ekind (by rw[eslots,q0]) g3 fun j hj=>?_
   have:=(q5 j hj (by omega)).elim fun mm h=>h.2.2.1
   rw[eown,zNo (by rw[eslots];omega)]at this;exact this
  .simp only[tmps,yF];have s1:Seg m1.temp (m1.temp+1) [m1.temp]:=Seg.one _;have s2:=s1.append (b:=m1.temp+1) (tA▸q4) (by omega) (tA▸aE.temp1);have s3:=g4.append s2 g2.temp1 (by have:=aE.temp1;omega);refine s3.perm ?_;rw[jAp];exact jDk _ jDs
  .intro e' he';rcases jA1.1 he' with rfl|he'
   .exact g5
   .exact zAS rfl (fun j hj=>(q5 j hj (by omega)).elim fun mm h=>h.2.2.2) e' he'
  refine ml qEm [83] [43] [] [.cell 10 15 true] func135 (by kernel_rfl) ?_
  (conv in kH _ _ _=>cbv)
  have hdr:=j6 hkm;rw[hD]at hdr;have hb31:k*31+31<=m.defs.length*31:=by omega
  have hnk:¬((k:Int)<0):=by omega
  simp[mkS,mkB,zB];refine mr (zRC m 1 x (by omega) (by omega) (by omega) hx.mods) [0,1] (by simp[mkS,mkB]) ?_;simp[mkS,mkB,hof,hnk,hkm,hdr,hb31,zI];refine mu (zC7 D.id) (by simp[zG]) ?_;simp[mkS,mkB,wd2];rw[eid]at g1;refine mr g1 [0,1] (by simp[mkS,mkB,zB,yB]) ?_;simp[mkS,mkB];refine mr (zR5 m1 10 0 l3 (by omega) (by omega) l6) [0,1] (by simp[mkS,mkB]) ?_;simp[mkS,mkB,zI];refine qM (S:=Nat) (fun i=>[(0,.ptr 0 0),(2,.sl env.length (zW env)),(4,int depth),(6,.ptr 2 0),(10,.ptr 3 0),(12,.ptr 4 0),(13,.row 5 (i+1)),(14,.ptr 6 0),(15,int i)])
   (fun i=>mkS (ms i)++[.box (zB t),.box (zH Exp.zero),.box (zI D),.row false 39 15 (i+1) (zH a++qL (es.take i)),.box [int 0,int 0,int m1.temp,int 10,int 0,int D.id.a,int D.id.b,int D.id.c,int 0,int 0,int 0,int 0,.sl 0 [],.sl 0 [],.row 7 i],.row false 9 1 i (yI (ns.take i))]) (fun i=>i<=es.length) (fun i=>es.length-i) 0 (by simp)
   ((yU (l:=6) (o:=14) rfl rfl 9 1).trans (mw [0,1,2,3,4,5,6,7] 0 (by rfl) (by simp[mkS,mkB,zB,q2,hmA,zH,Exp.zero,Id.zero,Typ.zero,zI]))) ?_
  intro i hi;by_cases hi2:i<es.length
  .have hid:i<D.slots.length:=by omega
   have hin:i<ns.length:=by omega
   obtain⟨mm,g1',g2',_,_⟩:=q5 i hi2 hin;have hsty:zLR hs[k] i=D.slots[i].typ:=by rw[zNo (by rw[eslots];exact hid)];simp only[eslots]
   have hst:qL (es.take (i+1))=qL (es.take i)++zH es[i]:=bH hi2;have hsn:yI (ns.take (i+1))=yI (ns.take i)++zQu ns[i]:=by unfold yI;rw[jA8 hin,jBw];simp
   have hw:=yK i (by omega);have hdS:List.drop (i*11+4) (jF D.slots)=(j4 D.slots[i]++jF (D.slots.drop (i+1))).drop 4:=by rw[<-jBb,jN hid]
   have hbS:i*11+4+5<=D.slots.length*11:=by omega
   simp[mkS,mkB,zI,zB,hid,hdS,hbS,j4,wd];intro _;refine zZ (lJ env ⟨⟨0,0,m1.temp⟩,i,zLR hs[k] i⟩ (by omega)) (by simp[cI,hsty]) (by simp) ?_;simp[mkS,mkB,wd];refine cE g1' [0,1] (by decide) (by simp[mkS,mkB]) (by simp[zB]) ?_;simp[mkS,mkB];refine⟨⟨by simp[maxLen];omega,by omega⟩,?_⟩;refine aK g2' [0,1] (by decide) (by simp[mkS,mkB]) (by simp) (by decide) (by simp) (by simp[mkS]) ?_;simp[mkS,mkB];refine⟨⟨by simp[maxLen];omega,by omega⟩,?_⟩;exact zN (i+1) hi2 (by omega) (mw [0,1,2,3,4,5,6,7] 0 (by rfl) (by simp[mkS,mkB,zB,zH,Exp.zero,Id.zero,Typ.zero,zI,hst,hsn,zQu,hw]))
  .have hie:i=es.length:=by omega
   subst hie;have hid:¬es.length<D.slots.length:=by omega
   have hnl:List.take es.length ns=ns:=jAc (by omega);simp[mkS,mkB,zI,hid];intro _;refine⟨qK [(0,.ptr 0 0),(10,.ptr 3 0),(13,.sl (es.length+1) (qL (a::es))),(14,.ptr 4 0)],mkS (ms es.length)++[.box (zB t),.box (zH Exp.zero),.box [int 0,int 0,int m1.temp,int 10,int 0,int D.id.a,int D.id.b,int D.id.c,int 0,int 0,int 0,int 0,.sl 0 [],.sl 0 [],.sl es.length (yI ns)]],mw [0,1,2,3,6] 1 (by rfl) (by simp[mkS,mkB,zB,zH,Exp.zero,Id.zero,Typ.zero,hnl,zM]),?_⟩;simp[mkS,mkB];exact mv [0,1] 0 (by rfl) (by simp[q0,zH,Id.zero,Typ.zero,eid,q1])
@[simp]theorem cU:∀(a b:wH),zS (a++b)=zS a++zS b
 |[],b=>by simp
 |x::a,b=>by simp[cU a b]
variable{l:wH}
theorem j3{k n:Int}:(Val.mk k n l).k=k:=rfl
theorem jE{k n:Int}:(Val.mk k n l).n=n:=rfl
theorem qE{k n:Int}:(Val.mk k n l).kids=l:=rfl
theorem zOY{c:Nat}(h:∀v∈l,qN v<=c):jT l<=l.length*c:=by
 induction l with
 |nil=>simp[jT]
 |cons v l ih =>
  have h1:=h v (jAs ..);have h2:=ih fun x hx=>h x (jAo _ hx)
  simp only[jT,jAb,jB1,Nat.one_mul];omega
end Go.Proofs.YtdnelmeboihpkaaGreatDoor

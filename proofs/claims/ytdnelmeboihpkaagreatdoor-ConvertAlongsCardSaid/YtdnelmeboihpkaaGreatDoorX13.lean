/- value.small at all values; value.Valid and the reference's Valid. -/
import Derived.Test.YtdnelmeboihpkaaGreatDoorX12
set_option linter.unusedVariables false
set_option maxHeartbeats 8000000
set_option maxRecDepth 100000
set_option linter.unusedSimpArgs false
open Go.Proofs.Tryz
namespace Go.Proofs.YtdnelmeboihpkaaGreatDoor
open Go.Abs
mutual
def lT:Val->Int->Int->Bool×Int
 | .mk _ _ l,L,d=>if 0<=L-1/\d<=24 then nB l (L-1) (d+1)else (false,L-1)
def nB:List Val->Int->Int->Bool×Int
 |[],L,_=>(true,L)
 |v::l,L,d=>if (lT v L d).1=true then nB l (lT v L d).2 d else (false,(lT v L d).2)
end
theorem zI1(v:Val)(L d:Int):lT v L d=if 0<=L-1/\d<=24 then nB v.kids (L-1) (d+1)else (false,L-1):=by cases v;rw[lT];rfl
mutual
theorem zOf:∀(v:Val) (L d:Int),0<=L->((lT v L d).1=true↔(zZ v:Int)<=L/\j6 v+d<=25)/\((lT v L d).1=true->(lT v L d).2=L-zZ v)
 | .mk k n l,L,d,hL=>by
  rw[zI1,aR,gA];simp only[Val.kids];by_cases h:0<=L-1/\d<=24
  .rw[if_pos h];have h1:=zOe l (L-1) (d+1) (by omega) (by omega);refine⟨h1.1.trans ⟨fun h=>by omega,fun h=>by omega⟩,fun h=>?_⟩;have:=h1.2 h;omega
  .rw[if_neg h];exact⟨⟨fun h=>(by cases h),fun h=>by omega⟩,fun h=>by cases h⟩
theorem zOe:∀(l:wI) (L d:Int),0<=L->d<=25->((nB l L d).1=true↔(qK l:Int)<=L/\yI l+d<=25)/\((nB l L d).1=true->(nB l L d).2=L-qK l)
 |[],L,d,hL,hd=>by simp only[nB,qK,yI];exact⟨⟨fun _=>by omega,fun _=>trivial⟩,fun _=>by omega⟩
 |v::l,L,d,hL,hd=>by
  have h1:=zOf v L d hL;simp only[nB,qK,yI];by_cases h:(lT v L d).1=true
  .rw[if_pos h];have h2:=h1.1.1 h;have h3:=h1.2 h;have h4:=zOe l (lT v L d).2 d (by omega) hd;refine⟨h4.1.trans ⟨fun h=>by omega,fun h=>by omega⟩,fun h=>?_⟩;have:=h4.2 h;omega
  .rw[if_neg h];have h2:=fun hh=>h (h1.1.2 hh)
   exact⟨⟨fun h=>(by cases h),fun hh=>(h2 (by omega)).elim⟩,fun h=>by cases h⟩
end
mutual
theorem zKR:∀(v:Val) (L d:Int),L-zZ v<=(lT v L d).2/\(lT v L d).2<=L
 | .mk k n l,L,d=>by
  rw[zI1,aR];simp only[Val.kids];have h1:=zKQ l (L-1) (d+1);split
  .omega
  .simp only;omega
theorem zKQ:∀(l:wI) (L d:Int),L-qK l<=(nB l L d).2/\(nB l L d).2<=L
 |[],L,d=>by simp[nB,qK]
 |v::l,L,d=>by
  have h1:=zKR v L d;have h2:=zKQ l (lT v L d).2 d;simp only[nB,qK];split
  .omega
  .simp only;omega
end
theorem zPU(l:wI)(L d:Int){i:Nat}(h:i<l.length):nB (l.drop i) L d=if (lT l[i] L d).1=true then nB (l.drop (i+1)) (lT l[i] L d).2 d else (false,(lT l[i] L d).2):=by rw[jAp h,nB]
def vSt(L:Int):St:=[.box [int L],.box [yS]]
def pU(L:Int)(d:Int):St:=[.box [int L],.box [yS],.box [int d]]
def zNd(v:Val)(d:Int):Prop:=∀L:Int,-1000000<=L-zZ v->L<=256->my 111 [.agg (zC v),int d,.ptr 0 0,.ptr 1 0] (vSt L) (bl (lT v L d).1) (vSt (lT v L d).2)
theorem zVs(v:Val)(d:Int)(hd:0<=d/\d<=100)(h:zNd v (d+1))(L:Int)(hL : -1000000<=L-zZ v)(hL2:L<=256) :
 my 113 [.agg (zC v),.ptr 1 0,.ptr 2 0] (pU L d) (bl (!(lT v L (d+1)).1)) (pU (lT v L (d+1)).2 d):=by
 refine mq [] [.slot 4] func113 (by kernel_rfl) ?_
 (conv in kq _ _=>cbv)
 have hw:=z8 (d+1) (by omega);simp[pU,yS,hw,zC];refine mr (h L hL hL2) [0,1] (by simp[vSt,yS,zC]) ?_;simp[vSt,yS];exact mv [0,1,2] 0 (by rfl) (by simp[yS])
def zF8:List Val->Int->Int->Nat->Int
 |[],_,_,_=>-1
 |v::l,L,d,n=>if (lT v L d).1=true then zF8 l (lT v L d).2 d (n+1)else n
theorem zKP:∀(l:wI) (L d:Int) (n:Nat),((nB l L d).1=true/\zF8 l L d n = -1)\/((nB l L d).1=false/\0<=zF8 l L d n)
 |[],L,d,n=>.inl ⟨rfl,rfl⟩
 |v::l,L,d,n=>by
  simp only[nB,zF8];split
  .exact zKP l _ d (n+1)
  .exact .inr ⟨rfl,by omega⟩
theorem zPT(l:wI)(L d:Int)(n:Nat){i:Nat}(h:i<l.length):zF8 (l.drop i) L d n=if (lT l[i] L d).1=true then zF8 (l.drop (i+1)) (lT l[i] L d).2 d (n+1)else n:=by rw[jAp h,zF8]
theorem zUy(l:wI)(d:Int)(hd:0<=d/\d<=100)(h:∀x∈l,zNd x (d+1))(L:Int)(hL : -1000000<=L-qK l)(hL2:L<=256) :
 my 153 [.sl l.length (zR l),.clo 113 [] [.ptr 1 0,.ptr 2 0]] (pU L d) (int (zF8 l L (d+1) 0)) (pU (nB l L (d+1)).2 d):=by
 refine mq [] [.slot 4] func153 (by kernel_rfl) ?_
 (conv in kq _ _=>cbv)
 simp[pU,yS];intro hl;refine qO (S:=Nat×Int) (fun s=>[(0,.sl l.length (zR l)),(1,.clo 113 [] [.ptr 1 0,.ptr 2 0]),(6,.sl l.length (zR l)),(7,int l.length),(8,int s.1)]) (fun s=>pU s.2 d)
  (fun s=>s.1<=l.length/\L-qK (l.take s.1)<=s.2/\s.2<=256/\zF8 l L (d+1) 0=zF8 (l.drop s.1) s.2 (d+1) s.1/\nB l L (d+1)=nB (l.drop s.1) s.2 (d+1)) (fun s=>l.length-s.1) (0,L) ⟨by simp,by simp[qK],by simp only;omega,by simp,by simp⟩
  (mw [0,1,2] 0 (by rfl) (by simp[pU,yS])) ?_
 rintro⟨i,M⟩ ⟨hi,hM,hM2,hI,hV⟩;simp only at hi hM hM2 hI hV;by_cases hil:i<l.length
 .have e1:=o9 hil;have e2:=i5 l (i+1);have c:=zVs l[i] d hd (h _ (jA0 hil)) M (by omega) (by omega);have lo:=zKR l[i] M (d+1);rw[zPT l M (d+1) i hil]at hI;rw[zPU l M (d+1) hil]at hV;simp[hil,qT hil,pU,yS];refine mr c [0,1,2] (by simp[pU,yS,zC]) ?_;cases hc:(lT l[i] M (d+1)).1
  .rw[hc,if_neg (by decide)]at hI hV;simp[pU,yS,hc];exact mv [0,1,2] 0 (by rfl) (by simp[yS,hV,hI])
  .rw[hc,if_pos rfl]at hI hV;simp[pU,yS,hc];exact zS (i+1,(lT l[i] M (d+1)).2) ⟨hil,by simp only;omega,by simp only;omega,hI,hV⟩ (by simp only;omega) (mw [0,1,2] 0 (by rfl) (by simp[pU,yS,qF hil hl]))
 .have:i=l.length:=by omega
  subst this;rw[List.drop_length]at hI hV;simp[pU,yS];exact mv [0,1,2] 0 (by rfl) (by simp[yS,hV,nB,hI,zF8])
theorem zTR(l:wI)(d:Int)(hd:0<=d/\d<=100)(h:∀x∈l,zNd x (d+1))(L:Int)(hL : -1000000<=L-qK l)(hL2:L<=256) :
 my 112 [.sl l.length (zR l),.clo 113 [] [.ptr 1 0,.ptr 2 0]] (pU L d) (bl (!(nB l L (d+1)).1)) (pU (nB l L (d+1)).2 d):=by
 refine mq [] [.slot 4] func112 (by kernel_rfl) ?_
 (conv in kq _ _=>cbv)
 simp[pU,yS];refine mr (zUy l d hd h L hL hL2) [0,1,2] (by simp[pU,yS]) ?_;rcases zKP l L (d+1) 0 with ⟨h1,h2⟩|⟨h1,h2⟩
 all_goals
  simp[pU,yS,h2];exact mv [0,1,2] 0 (by rfl) (by simp[yS,h1])
theorem zKO(v:Val)(d:Int)(hd:1<=d/\d<=25):zNd v d:=by
 intro L hL hL2;refine mq [] [.slot 6] func111 (by kernel_rfl) ?_
 (conv in kq _ _=>cbv)
 have e1:=aR v;have hw:=z8 (L-1) (by omega);rw[zI1];by_cases h1:1<=L
 .by_cases h2:d<=24
  .rw[if_pos ⟨by omega,h2⟩];simp[vSt,yS,hw,h1,h2,zC];refine mr (zTR v.kids d (by omega) (fun x hx=>zKO x (d+1) (by omega)) (L-1) (by omega) (by omega)) [0,1,3] (by simp[pU,yS]) ?_;simp[pU,yS];exact mv [0,1] 0 (by rfl) (by simp[yS])
  .rw[if_neg (by omega)];simp[vSt,yS,hw,h1,h2,zC];exact mv [0,1] 0 (by rfl) (by simp[yS])
 .rw[if_neg (by omega)];simp[vSt,yS,hw,h1,zC];exact mv [0,1] 0 (by rfl) (by simp[yS])
termination_by zZ v
decreasing_by exact y4 hx
def i8(v:Val):Bool:=decide (zZ v<=256/\j6 v<=24)
theorem zPS(v:Val):(lT v 256 1).1=i8 v:=by rw[Bool.eq_iff_iff,(zOf v 256 1 (by omega)).1,i8,decide_eq_true_eq];omega
theorem zPE(v:Val)(h:zZ v<=100000):my 73 [.agg (zC v)] [] (bl (i8 v)) []:=by
 refine mq [] [.slot 2] func73 (by kernel_rfl) ?_
 (conv in kq _ _=>cbv)
 simp[zC];refine mr (zKO v 1 (by omega) 256 (by omega) (by omega)) [1,2] (by simp[vSt,yS,zC]) ?_;simp[vSt,yS];exact zA 0 (by simp[zPS])
theorem zPO(p:Prg)(t:Typ)(v:Val)(h:zZ v<=100000) :
 my 30 [.agg (zN p),.agg (zB t),.agg (zC v)] [] (bl (i8 v&&aO p t v)) []:=by
 refine mq [] [.slot 6] func30 (by kernel_rfl) ?_
 (conv in kq _ _=>cbv)
 simp[zN,zB,zC];refine mu (zPE v h) (by simp[zC]) ?_;cases i8 v
 .simp;exact zA 0 (by simp)
 .simp;refine mu (zBp p t v) (by simp[zN,zB,zC]) ?_;simp;exact zA 0 (by simp)
theorem zM9(p:Prg)(hL:p.defs.length<=1000000)(t:Typ)(v:Val)(h:zZ v<=100000) :
 my 47 [.agg (zN p),.agg (zB t),.agg (zC v)] [] (bl (i8 v&&aO p t v)) []:=by
 refine mq [] [.slot 6] func47 (by kernel_rfl) ?_
 (conv in kq _ _=>cbv)
 have s1:=nL v (by omega);have s2:=nP v (by omega);by_cases h1:zZ v<=256
 .by_cases h2:j6 v<=24
  .have e1:(zZ v:Int)<=256:=by omega
   have e2:(j6 v:Int)<=24:=by omega
   have hb:i8 v=true:=decide_eq_true ⟨h1,h2⟩;simp[zN,zB,zC];refine mu (fT v) (by simp[zC]) ?_;simp[s1,h1,e1];refine mu (iH v) (by simp[zC]) ?_;simp[s2,h2,e2];refine mu (vP p hL t v) (by simp[zN,zB,zC]) ?_;simp;exact zA 0 (by simp[hb])
  .have e1:(zZ v:Int)<=256:=by omega
   have e2:¬(j6 v:Int)<=24:=by omega
   have hb:i8 v=false:=decide_eq_false (by omega);simp[zN,zB,zC];refine mu (fT v) (by simp[zC]) ?_;simp[s1,h1,e1];refine mu (iH v) (by simp[zC]) ?_;simp[s2,h2,e2];exact zA 0 (by simp[hb])
 .have e1:¬(zZ v:Int)<=256:=by omega
  have hb:i8 v=false:=decide_eq_false (by omega);simp[zN,zB,zC];refine mu (fT v) (by simp[zC]) ?_;simp[s1,h1,e1];exact zA 0 (by simp[hb])
@[simp]theorem bS:∀(a b:wI),zR (a++b)=zR a++zR b
 |[],b=>by simp
 |x::a,b=>by simp[bS a b]
variable{l:wI}
theorem zX{k n:Int}:(Val.mk k n l).k=k:=rfl
theorem zQ{k n:Int}:(Val.mk k n l).n=n:=rfl
theorem zH{k n:Int}:(Val.mk k n l).kids=l:=rfl
def Wz(p:Prg):Nat->Typ->Prop
 | 0,_=>False
 |f+1,t=>validT p t=true/\(t.k=0\/t.k=1\/t.k=2\/(t.k=3/\((dfn p t.id).kind=0\/(dfn p t.id).kind=1)/\1<=(dfn p t.id).slots.length/\(dfn p t.id).slots.length<=3/\∀s∈(dfn p t.id).slots,Wz p f s.typ))
def b9(p:Prg):Nat->Typ->Val
 | 0,_=>.mk 0 0 []
 |f+1,t=>if t.k=0 then .mk 0 0 []else if t.k=1 then .mk 1 0 []else if t.k=2 then .mk 4 0 []
  else if (dfn p t.id).kind=1 then .mk 3 0 (((dfn p t.id).slots.map fun s=>b9 p f s.typ).take 1)else .mk 2 0 ((dfn p t.id).slots.map fun s=>b9 p f s.typ)
def zcN:Nat->Nat
 | 0=>0
 |f+1=>1+3*zcN f
theorem xP{c:Nat}(h:∀v∈l,zZ v<=c):qK l<=l.length*c:=by
 induction l with
 |nil=>simp[qK]
 |cons v l ih =>
  have h1:=h v (jAr ..);have h2:=ih fun x hx=>h x (jAm _ hx)
  simp only[qK,jA9,jB,Nat.one_mul];omega
theorem xS(p:Prg):∀(f:Nat) (t:Typ),Wz p f t->zZ (b9 p f t)<=zcN f
 | 0,t,h=>h.elim
 |f+1,t,h=>by
  unfold Wz at h;unfold b9 zcN;obtain⟨_,h⟩:=h;by_cases h0:t.k=0
  .rw[if_pos h0];simp[zZ,qK]
  by_cases h1:t.k=1
  .rw[if_neg h0,if_pos h1];simp[zZ,qK]
  by_cases h2:t.k=2
  .rw[if_neg h0,if_neg h1,if_pos h2];simp[zZ,qK]
  rw[if_neg h0,if_neg h1,if_neg h2];obtain⟨_,_,_,g3,g4⟩:=h.resolve_left h0|>.resolve_left h1|>.resolve_left h2;have hm:∀v∈(dfn p t.id).slots.map fun s=>b9 p f s.typ,zZ v<=zcN f:=fun v hv=>by obtain⟨s,hs,rfl⟩:=jAg.1 hv;exact xS p f s.typ (g4 s hs)
  have hl:((dfn p t.id).slots.map fun s=>b9 p f s.typ).length<=3:=by simpa using g3
  generalize ((dfn p t.id).slots.map fun s=>b9 p f s.typ)=L at hm hl;split
  .have:=xP (l:=L.take 1) fun v hv=>hm v (jBw hv)
   have e:(L.take 1).length*zcN f<=3*zcN f:=jB8 _ (by simp;omega);simp only[zZ];omega
  .have:=xP hm;have e:L.length*zcN f<=3*zcN f:=jB8 _ hl;simp only[zZ];omega
theorem zOi(p:Prg)(hL:p.defs.length<=1000000):∀(f:Nat) (t:Typ) (d:Int) (u:Nat),Wz p f t->1<=d->d+f<=25->u+zcN f<=256 ->
 my 89 [.agg (zN p),.agg (zB t),int d,int u] [] (.tup [.agg (zC (b9 p f t)),int (u+zZ (b9 p f t):Nat),int 0]) []
 | 0,t,d,u,h,_,_,_=>h.elim
 |f+1,t,d,u,h,hd,hdf,hu=>by
  have hz:=xS p (f+1) t h;unfold Wz at h;obtain⟨hv,h⟩:=h;simp only[zcN]at hu hz;refine mq [(23,[0,1,2,4,5,6,10])] [.cell 8 3 true,.slot 9,.slot 10] func89 (by kernel_rfl) ?_
  (conv in kq _ _=>cbv)
  have hwu:=jY u (by omega);have hu1:¬(256:Int)<(u:Int)+1:=by omega
  have hd1:¬24<d:=by omega
  simp[zN,zB];refine mu (zDn p hL t) (by simp[zN,zB]) ?_;by_cases h0:t.k=0
  .have e:b9 p (f+1) t=.mk 0 0 []:=by rw[b9,if_pos h0]
   rw[e];simp[hv,hwu,hu1,hd1,h0];exact zA 0 (by simp[zC,zX,zQ,zH,zZ,qK])
  by_cases h1:t.k=1
  .have e:b9 p (f+1) t=.mk 1 0 []:=by rw[b9,if_neg h0,if_pos h1]
   rw[e];simp[hv,hwu,hu1,hd1,h1];exact zA 0 (by simp[zC,zX,zQ,zH,zZ,qK])
  by_cases h2:t.k=2
  .have e:b9 p (f+1) t=.mk 4 0 []:=by rw[b9,if_neg h0,if_neg h1,if_pos h2]
   rw[e];simp[hv,hwu,hu1,hd1,h2];exact zA 0 (by simp[zC,zX,zQ,zH,zZ,qK])
  obtain⟨_,gk,g1,g3,g4⟩:=h.resolve_left h0|>.resolve_left h1|>.resolve_left h2;simp[hv,hwu,hu1,hd1,h0,h1,h2];refine mu (lP p hL t.id) (by simp[zN,zL,bL]) ?_;have hD:(jH p.defs t.id).getD .zero=dfn p t.id:=rfl;have hzl:∀s∈(dfn p t.id).slots,zZ (b9 p f s.typ)<=zcN f:=fun s hs=>xS p f s.typ (g4 s hs)
  have hLl:((dfn p t.id).slots.map fun s=>b9 p f s.typ).length=(dfn p t.id).slots.length:=by simp
  have hLg:∀i (h:i<(dfn p t.id).slots.length),((dfn p t.id).slots.map fun s=>b9 p f s.typ)[i]?=some (b9 p f (dfn p t.id).slots[i].typ):=fun i h=>by simp[h]
  have e:∃(Q:Nat) (K:Int),b9 p (f+1) t=.mk K 0 (((dfn p t.id).slots.map fun s=>b9 p f s.typ).take Q)/\Q<=(dfn p t.id).slots.length/\(((dfn p t.id).kind=1/\Q=1/\K=3)\/((dfn p t.id).kind=0/\Q=(dfn p t.id).slots.length/\K=2)):=by
   rcases gk with gk|gk
   .exact⟨_,2,by rw[b9,if_neg h0,if_neg h1,if_neg h2,if_neg (by omega),jAe (by simp)],jA _,.inr ⟨gk,rfl,rfl⟩⟩
   .exact⟨1,3,by rw[b9,if_neg h0,if_neg h1,if_neg h2,if_pos gk],g1,.inl ⟨gk,rfl,rfl⟩⟩
  obtain⟨Q,K,e,hQ,hQK⟩:=e;rw[e]at hz ⊢;clear e gk;generalize ((dfn p t.id).slots.map fun s=>b9 p f s.typ)=L at hLl hLg hz;generalize dfn p t.id=D at hD g1 g3 g4 hzl hLl hLg hQ hQK;have hs0:∀i,i<=D.slots.length->qK (L.take i)<=i*zcN f:=fun i hi=>by
   have:=xP (l:=L.take i) (c:=zcN f) fun v hv=>by obtain⟨j,hj,rfl⟩:=List.mem_iff_getElem.1 (jBw hv);have:=hLg j (by omega);rw[jA1 hj]at this;rw[jB0 this];exact hzl _ (jA0 _)
   simpa[jAv (show i<=L.length by omega)]using this
  rcases hQK with ⟨hk,hQ1,hK⟩|⟨hk,hQ1,hK⟩
  case' inl =>
   have hn0:¬D.slots=[]:=fun e=>by rw[e]at g1;simp at g1
   simp[bL,hD,zK,hk,hn0];intro _
  case' inr =>
   simp[bL,hD,zK,hk];intro _
  all_goals
   refine qO (S:=Nat) (fun i=>[(2,int d),(3,int ((u+1+qK (L.take i):Nat):Int)),(4,.ptr 0 0),(8,.ptr 2 0),(11,.ptr 3 0),(13,.ptr 4 0),(14,int Q),(15,int i)])
    (fun i=>[.box (zN p),.box (zB t),.box [int 0,int 0,.nil],.box (zK D),.box [int K,int 0,.row 5 i],.row false 46 3 i (zR (L.take i))]) (fun i=>i<=Q) (fun i=>Q-i) 0 (by simp)
    ((yJ (l:=4) (o:=2) rfl rfl 46 3).trans (mw [0,1,2,3,4,5] 0 (by rfl) (by simp[zN,zB,zK,hk,hK,qK,hQ1]))) ?_
   intro i hi;by_cases hiQ:i<Q
   .have hiD:i<D.slots.length:=by omega
    have hiL:i<L.length:=by omega
    have hLi:=hLg i hiD;rw[jA1 hiL]at hLi;have hLi:=jB0 hLi;have htL:zR (L.take (i+1))=zR (L.take i)++zC (b9 p f D.slots[i].typ):=by rw[jA8 hiL,hLi];simp[zC]
    have hsz:=o9 hiL;rw[hLi]at hsz;have b1:=hs0 i (by omega);have b2:i*zcN f<=2*zcN f:=jB8 _ (by omega);have hwd:=z8 (d+1) (by omega);have hwi:=jY i (by omega);simp[hiQ,hiD,qW hiD,zN,zK,j4,hwd];refine j3 (zOi p hL f D.slots[i].typ (d+1) (u+1+qK (L.take i)) (g4 _ (jA0 hiD)) (by omega) (by omega) (by omega)) (by simp[zN,zB]) (by simp[zC]) ?_;simp[oL,zC];refine⟨⟨by simp[maxLen];omega,by omega⟩,?_⟩;exact zS (i+1) hiQ (by omega) (kf [0,1,2,3,4,5] 0 (by rfl) (by simp[zN,zB,zK,htL,zC]) (by simp[hwi,hsz];omega))
   .have hiQ:i=Q:=by omega
    subst hiQ;have hlt:(L.take i).length=i:=by simp;omega
    simp;exact zA 1 (by simp[zC,hlt,zX,zQ,zH,zZ,jBk];omega)
theorem qA1{f:Nat}(h:f<=5):zcN f<=121:=by
 have:f=0\/f=1\/f=2\/f=3\/f=4\/f=5:=by omega
 rcases this with rfl|rfl|rfl|rfl|rfl|rfl<;>decide
theorem zKU(p:Prg)(hL:p.defs.length<=1000000)(f:Nat)(hf:f<=5)(t:Typ)(h:Wz p f t):my 43 [.agg (zN p),.agg (zB t)] [] (.tup [.agg (zC (b9 p f t)),int 0]) []:=by
 refine mq [] [.cell 4 3 true,.slot 5] func43 (by kernel_rfl) ?_
 (conv in kq _ _=>cbv)
 have hz:=qA1 hf;simp[zN,zB];refine mu (zOi p hL f t 1 0 h (by omega) (by omega) (by omega)) (by simp[zN,zB,zC]) ?_;simp[zC];exact zA 0 (by simp)
abbrev zR6:FuncId:=136
theorem zND{p:Nat->Bool}:∀{n:Nat},(∃i,i<n/\p i=true)->∃i,i<n/\p i=true/\∀j<i,p j=false
 | 0,⟨i,hi,_⟩=>by omega
 |n+1,⟨i,hi,hp⟩=>by
  by_cases h:∃i,i<n/\p i=true
  .obtain⟨j,h1,h2,h3⟩:=zND h;exact⟨j,by omega,h2,h3⟩
  .have hin:i=n:=by
    by_cases e:i=n
    .exact e
    .exact(h ⟨i,by omega,hp⟩).elim
   subst hin;refine⟨i,by omega,hp,fun j hj=>?_⟩;cases hpj:p j
   .rfl
   .exact(h ⟨j,hj,hpj⟩).elim
def zRA(m:Mk)(t:Typ)(k:Nat):Bool:=match m.defs[k]? with
 |some d=>decide (d.kind=0)&&(zAN m k&&d.slots.any fun s=>y7 s.typ t)
 |none=>false
variable{m:Mk}{env:wJ}{depth:Int}
theorem zR7{hs:wP}{R:Nat}{c:Int}{len:Nat}(hc:0<=c)(hl:Lim m (7*c+7))(x:Nat)(hx1:x<=65536)(hk:dV hs R c (depth-1) (fun r=>r<=R) len)
 (hx:Cx hs R m)(he:EnvOk hs R m.temp env)(h1:0<env.length)(h2:env.length<=len)(h3:env.length<=1000)(hd1 : -1000<=depth)(hd2:depth<=1000)(t:Typ)(ht:TyOk hs R t)
 (hop:cN hs m.own opF m [.ptr 0 0,.agg (zB t),.sl env.length (qC env),int x,int depth] env t (7*c+7)) :
 cN hs m.own zR6 m [.ptr 0 0,.agg (zB t),.sl env.length (qC env),int x,int depth] env t (7*c+7):=by
 have hdl:=hx.dlen;have hd100:=hx.len;have hd0:=hx.len0;have hN:0<m.defs.length:=by omega
 have wd:=z8 (depth-1) (by omega);obtain⟨i0,e,m',hi0,hlow,hfull,hhit,hA,hW,hS,hZ⟩:∃(i0:Nat) (e:Exp) (m':Mk),i0<=m.defs.length/\(∀i<i0,zRA m t ((x+i) % m.defs.length)=false) /\
  (i0=m.defs.length->my opF [.ptr 0 0,.agg (zB t),.sl env.length (qC env),int x,int depth] (mkS m) (.agg (zJ e)) (mkS m')) /\
  (∀(hlt:i0<m.defs.length) (D:Dfn),m.defs[(x+i0) % m.defs.length]?=some D->D.kind=0/\zAN m ((x+i0) % m.defs.length)=true/\∃(j0:Nat) (hj0:j0<D.slots.length) (a:Exp) (m1:Mk),y7 D.slots[j0].typ t=true/\(∀(j:Nat) (hj:j<j0),y7 D.slots[j].typ t=false) /\
   my bR [.ptr 0 0,.agg (zB (yO D.id)),.sl env.length (qC env),int (depth-1)] (mkS m) (.agg (zJ a)) (mkS m1)/\Lim m1 1 /\
   e=.mk ⟨0,0,m1.temp⟩ 8 j0 D.id Typ.zero [a] []/\m'={m1 with temp:=m1.temp+1,left:=m1.left-1}) /\
  Adv m m' (7*c+7)/\WT hs m.own env e t/\Seg m.temp m'.temp (tmps e)/\e.num0:=by
  by_cases hex:∃i,i<m.defs.length/\zRA m t ((x+i) % m.defs.length)=true
  .obtain⟨i0,hi0,hp,hlow⟩:=zND hex;have hkm:=Nat.mod_lt (x+i0) hN;generalize hkk:(x+i0) % m.defs.length=k at hkm hp;have hks:k<hs.length:=by omega
   have hget:=hx.get hkm;unfold zRA at hp;rw[jA1 hkm]at hp;simp only[jA6,decide_eq_true_eq]at hp;generalize hD:m.defs[k]=D at hget hp;obtain⟨hkind,hvis,hany⟩:=hp;have eid:hs[k].id=D.id:=by rw[hget];rfl
   have eslots:hs[k].slots=D.slots:=by rw[hget];rfl
   have ekind:hs[k].kind=0:=by rw[hget];exact hkind
   obtain⟨j0,hj0,hpj,hlj⟩:=zND (p:=fun j=>match D.slots[j]? with|some s=>y7 s.typ t|none=>false) (n:=D.slots.length) (by
    rw[List.any_eq_true]at hany;obtain⟨s,hs1,hs2⟩:=hany;obtain⟨j,hj,rfl⟩:=jAn hs1;exact⟨j,hj,by simp only[jA1 hj];exact hs2⟩)
   simp only[jA1 hj0]at hpj;obtain⟨a,m1,g1,g2,g3,g4,g5⟩:=hk m R (yO hs[k].id) env hx (hl.mono (by omega)) (hx.typs k hks (.inl ekind)) (jA _) he h1 h2;refine⟨i0,.mk ⟨0,0,m1.temp⟩ 8 j0 D.id Typ.zero [a] [],{m1 with temp:=m1.temp+1,left:=m1.left-1},by omega,hlow,fun h=>by omega,fun hlt D' hD'=>?_,(g2.trans (aH _)).mono (by omega),?_,zIp g4 g2.temp1,zEP g5⟩
   .rw[hkk,jA1 hkm,hD]at hD';injection hD' with hD'
    subst hD';rw[hkk];refine⟨hkind,hvis,j0,hj0,a,m1,hpj,fun j hj=>?_,by rw[<-eid];exact g1,Lim.adv (c:=c) (hl.mono (by omega)) g2,rfl,rfl⟩;have:=hlj j hj;simp only[jA1 (show j<D.slots.length by omega)]at this;exact this
   .have hjs:j0<hs[k].slots.length:=by rw[eslots];exact hj0
    have:=WT.field (own:=m.own) env ⟨0,0,m1.temp⟩ k hks j0 hjs a ekind g3;rw[eid]at this;have e2:hs[k].slots[j0].typ=t:=by rw[<-(rR _ _).1 hpj];simp only[eslots]
    rw[e2]at this;exact this
  .obtain⟨e,m',g1,g2,g3,g4,g5⟩:=hop;refine⟨m.defs.length,e,m',jA _,fun i hi=>?_,fun _=>g1,fun h=>by omega,g2,g3,g4,g5⟩;cases hp:zRA m t ((x+i) % m.defs.length)
   .rfl
   .exact(hex ⟨i,hi,hp⟩).elim
 refine⟨e,m',?_,hA,hW,hS,hZ⟩;refine mq [] [.cell 10 15 true] func136 (by kernel_rfl) ?_
 (conv in kq _ _=>cbv)
 simp[mkS,mkB,zB];refine qO (S:=Nat) (fun i=>[(0,.ptr 0 0),(2,.sl env.length (qC env)),(3,int x),(4,int depth),(6,.ptr 2 0),(10,.ptr 3 0),(11,int i)])
  (fun _=>mkS m++[.box (zB t),.box (zJ Exp.zero)]) (fun i=>i<=i0) (fun i=>i0-i) 0 (by simp)
  (mw [0,1,2,3] 0 (by rfl) (by simp[mkS,mkB,zB,zJ,Exp.zero,Id.zero,Typ.zero])) ?_
 intro i hi;by_cases h:i<m.defs.length
 .have hkm:=Nat.mod_lt (x+i) hN;have w1:=z8 ((x:Int)+i) (by omega);have w2:=jY i (by omega);have e1:Int.tmod ((x:Int)+i) (m.defs.length:Int)=(((x+i) % m.defs.length:Nat):Int):=by rw[tmN (by omega)];simp
  have hnil:m.defs≠[]:=fun e=>by rw[e]at hN;simp at hN
  have hne:¬((m.defs.length:Int)=0):=by omega
  have hlow':=fun hlt:i<i0=>hlow i hlt
  have hhit':i=i0->_:=fun e=>hhit (by omega) m.defs[(x+i) % m.defs.length] (by rw[<-e,jA1 hkm])
  unfold zRA at hlow';rw[jA1 hkm]at hlow';have hsl:m.defs[(x+i) % m.defs.length].slots.length<=6:=by have:=(hx.slots ((x+i) % m.defs.length) (by omega)).1;rw[hx.get hkm]at this;exact this
  generalize hkk:(x+i) % m.defs.length=k at hkm e1 hlow' hhit' hsl;generalize hD:m.defs[k]=D at hlow' hhit' hsl;have hdr:=yD hkm;rw[hD]at hdr;have hb31:k*31+31<=m.defs.length*31:=by omega
  simp[mkS,mkB,h,w1,e1,hne,hkm,hdr,hb31,zK,hnil];by_cases hlt:i<i0
  .have hno:=hlow' hlt;refine qO (S:=Nat) (fun j=>[(0,.ptr 0 0),(2,.sl env.length (qC env)),(3,int x),(4,int depth),(6,.ptr 2 0),(10,.ptr 3 0),(11,int i),(12,int k),(13,.ptr 4 0),(14,int j)])
    (fun _=>mkS m++[.box (zB t),.box (zJ Exp.zero),.box (zK D)]) (fun j=>j<=D.slots.length) (fun j=>D.slots.length-j) 0 (by simp)
    (mw [0,1,2,3,4] 0 (by rfl) (by simp[mkS,mkB,zB,zJ,Exp.zero,Id.zero,Typ.zero,zK])) ?_
   intro j hj;by_cases hjl:j<D.slots.length
   .have hdS:List.drop (j*11+4) (jN D.slots)=(j4 D.slots[j]++jN (D.slots.drop (j+1))).drop 4:=by rw[<-jBc,qW hjl]
    have hbS:j*11+4+5<=D.slots.length*11:=by omega
    by_cases hkd:D.kind=0
    .simp[mkS,mkB,zK,zB,hjl,hkd];intro _;refine mr (zF7 m k hkm hx.mods) [0,1] (by simp[mkS,mkB]) ?_;cases hv:zAN m k
     .simp[mkS,mkB];exact zS (i+1) (by omega) (by omega) (mw [0,1,2,3] 0 (by rfl) (by simp[mkS,mkB,zB,zJ,Exp.zero,Id.zero,Typ.zero,w2]))
     .have hsf:y7 D.slots[j].typ t=false:=by
       simp only[hkd,hv,decide_true,jBi]at hno;rw[List.any_eq_false]at hno
       simpa using hno D.slots[j] (jA0 hjl)
      have hw:=jY j (by omega);simp[mkS,mkB,zK,zB,hjl,hdS,hbS,j4];refine qA (iI D.slots[j].typ t) (by simp[zB]) (by simp) ?_;rw[hsf];simp[mkS,mkB];exact zS (j+1) hjl (by omega) (mw [0,1,2,3,4] 0 (by rfl) (by simp[mkS,mkB,zB,zJ,Exp.zero,Id.zero,Typ.zero,zK,hkd,hw]))
    .simp[mkS,mkB,zK,zB,hjl,hkd];intro _;exact zS (i+1) (by omega) (by omega) (mw [0,1,2,3] 0 (by rfl) (by simp[mkS,mkB,zB,zJ,Exp.zero,Id.zero,Typ.zero,w2]))
   .simp[mkS,mkB,zK,zB,hjl];intro _;exact zS (i+1) (by omega) (by omega) (mw [0,1,2,3] 0 (by rfl) (by simp[mkS,mkB,zB,zJ,Exp.zero,Id.zero,Typ.zero,w2]))
  .have hie:i=i0:=by omega
   subst hie;obtain⟨hkd,hv,j0,hj0,a,m1,hj1,hj2,g1,hln,he1,he2⟩:=hhit' rfl;rw[hkk]at hv;obtain⟨l1,l2,l3,l4,l5,l6,l7,l8⟩:=hln;subst he1 he2;refine qO (S:=Nat) (fun j=>[(0,.ptr 0 0),(2,.sl env.length (qC env)),(3,int x),(4,int depth),(6,.ptr 2 0),(10,.ptr 3 0),(11,int i),(12,int k),(13,.ptr 4 0),(14,int j)])
    (fun _=>mkS m++[.box (zB t),.box (zJ Exp.zero),.box (zK D)]) (fun j=>j<=j0) (fun j=>j0-j) 0 (by simp)
    (mw [0,1,2,3,4] 0 (by rfl) (by simp[mkS,mkB,zB,zJ,Exp.zero,Id.zero,Typ.zero,zK])) ?_
   intro j hj;have hjl:j<D.slots.length:=by omega
   have hdS:List.drop (j*11+4) (jN D.slots)=(j4 D.slots[j]++jN (D.slots.drop (j+1))).drop 4:=by rw[<-jBc,qW hjl]
   have hbS:j*11+4+5<=D.slots.length*11:=by omega
   have hw:=jY j (by omega);simp[mkS,mkB,zK,zB,hjl,hkd];intro _;refine mr (zF7 m k hkm hx.mods) [0,1] (by simp[mkS,mkB]) ?_;rw[hv];simp[mkS,mkB,zK,zB,hjl,hdS,hbS,j4];refine qA (iI D.slots[j].typ t) (by simp[zB]) (by simp) ?_;by_cases hjj:j<j0
   .rw[hj2 j hjj];simp[mkS,mkB];exact zS (j+1) hjj (by omega) (mw [0,1,2,3,4] 0 (by rfl) (by simp[mkS,mkB,zB,zJ,Exp.zero,Id.zero,Typ.zero,zK,hkd,hw]))
   .have hje:j=j0:=by omega
    subst hje;rw[hj1];simp[mkS,mkB];refine mu (zDl D.id) (by simp[zL]) ?_;simp[mkS,mkB,wd];refine mr g1 [0,1] (by simp[mkS,mkB,zB,yO]) ?_;simp[mkS,mkB];refine mr (aT m1 8 j [a] l3 (by omega) (by omega) l6) [0,1] (by simp[mkS,mkB,zO]) ?_;simp[mkS,mkB,zJ];exact mv [0,1] 0 (by rfl) (by simp[zJ,zO])
 .have hii:i=m.defs.length:=by omega
  have hi0':i0=m.defs.length:=by omega
  subst hii;simp[mkS,mkB,zB];refine mr (hfull hi0') [0,1] (by simp[mkS,mkB,zB]) ?_;simp[mkS,mkB];exact mv [0,1] 0 (by rfl) (by simp[zJ])
def Wf(p:Prg):Nat->Typ->Prop
 | 0,_=>False
 |f+1,t=>validT p t=true/\(t.k=0\/t.k=1\/(t.k=2/\∃x,t.kids=[x]/\Wf p f x)\/(t.k=3/\((dfn p t.id).kind=0\/(dfn p t.id).kind=1)/\1<=(dfn p t.id).slots.length/\(dfn p t.id).slots.length<=3/\∀s∈(dfn p t.id).slots,Wf p f s.typ))
def dH(g:Typ->Int->Val×Int):List Typ->Int->wI×Int
 |[],a=>([],a)
 |t::l,a=>((g t a).1::(dH g l (g t a).2).1,(dH g l (g t a).2).2)
theorem zCG(g:Typ->Int->Val×Int):∀(l:wS) (t:Typ) (a:Int),dH g (l++[t]) a=((dH g l a).1++[(g t (dH g l a).2).1],(g t (dH g l a).2).2)
 |[],t,a=>rfl
 |x::l,t,a=>by simp only[jB6,dH,zCG g l t]
theorem zFn(g:Typ->Int->Val×Int):∀(l:wS) (a:Int),(dH g l a).1.length=l.length
 |[],a=>rfl
 |x::l,a=>by simp only[dH,jA9,zFn g l]
def zSo(x:Int):Int:=if x.tmod 16=0 then w64 (1099511627776-(x.tdiv 16).tmod 3)else if x.tmod 16=1 then w64 (-1099511627776+(x.tdiv 16).tmod 3)else w64 ((x.tdiv 16).tmod 9-4)
def y6(p:Prg)(l:wB):Nat->Typ->Int->Int->Val×Int
 | 0,_,a,_=>(.mk 0 0 [],a)
 |f+1,t,a,d =>
  if t.k=0 then (.mk 0 (zSo (atV l a 1048576)) [],w64 (a+1))else if t.k=1 then (.mk 1 ((atV l a 1048576).tmod 2) [],w64 (a+1))else
  if t.k=2 then (.mk 4 0 (dH (fun t b=>y6 p l f t b (w64 (d+1))) (List.replicate (if 3<d then 0 else ((atV l a 1048576).tmod 3).toNat) (t.kids.headD Typ.zero)) (w64 (a+1))).1,
   (dH (fun t b=>y6 p l f t b (w64 (d+1))) (List.replicate (if 3<d then 0 else ((atV l a 1048576).tmod 3).toNat) (t.kids.headD Typ.zero)) (w64 (a+1))).2)
  else if (dfn p t.id).kind=1 then
   (.mk 3 ((atV l a 1048576).tmod (dfn p t.id).slots.length) [(y6 p l f ((((dfn p t.id).slots.map Slt.typ).getD ((atV l a 1048576).tmod (dfn p t.id).slots.length).toNat Typ.zero)) (w64 (a+1)) (w64 (d+1))).1],
    (y6 p l f ((((dfn p t.id).slots.map Slt.typ).getD ((atV l a 1048576).tmod (dfn p t.id).slots.length).toNat Typ.zero)) (w64 (a+1)) (w64 (d+1))).2)
  else (.mk 2 0 (dH (fun t b=>y6 p l f t b (w64 (d+1))) ((dfn p t.id).slots.map Slt.typ) (w64 (a+1))).1,(dH (fun t b=>y6 p l f t b (w64 (d+1))) ((dfn p t.id).slots.map Slt.typ) (w64 (a+1))).2)
theorem zDE(p:Prg)(hL:p.defs.length<=1000000)(l:wB)(hl:∀x∈l,w64 x=x):∀(f:Nat) (t:Typ) (a d:Int),Wf p f t ->
 my 40 [.agg (zN p),.agg (zB t),.sl l.length (yC l),int a,int d] [] (.tup [.agg (zC (y6 p l f t a d).1),int (y6 p l f t a d).2]) []
 | 0,t,a,d,h=>h.elim
 |f+1,t,a,d,h=>by
  unfold Wf at h;obtain⟨hv,h⟩:=h;refine mq [(19,[0,1,2,3,4,9]),(27,[0,1,2,3,4,5,6,7,12]),(34,[0,1,2,4,5,6,11])] [.cell 10 3 true,.slot 11] func40 (by kernel_rfl) ?_
  (conv in kq _ _=>cbv)
  have hx:=jT (i:=a) hl (show (0:Int)<1048576 by omega);simp[zN,zB];refine mu (dK l a 1048576 (by decide)) (by simp) ?_;by_cases h0:t.k=0
  .have e:y6 p l (f+1) t a d=(.mk 0 (zSo (atV l a 1048576)) [],w64 (a+1)):=by rw[y6,if_pos h0]
   rw[e];generalize atV l a 1048576=x at hx;have hw16:IntKind.i64.wrap (x.tdiv 16)=x.tdiv 16:=by rw[Int.tdiv_eq_ediv_of_nonneg hx.1];exact IntWalk.i64_in _ (by omega)
   by_cases h16:x.tmod 16=0
   .simp[h0,h16,hw16];exact zA 0 (by simp[zC,zX,zQ,zH,zSo,h16,w64])
   by_cases h17:x.tmod 16=1
   .simp[h0,h17,hw16];exact zA 0 (by simp[zC,zX,zQ,zH,zSo,h17,w64])
   .simp[h0,h16,h17,hw16];exact zA 0 (by simp[zC,zX,zQ,zH,zSo,h16,h17,w64])
  by_cases h1:t.k=1
  .have e:y6 p l (f+1) t a d=(.mk 1 ((atV l a 1048576).tmod 2) [],w64 (a+1)):=by rw[y6,if_neg h0,if_pos h1]
   rw[e];generalize atV l a 1048576=x at hx;simp[h1];exact zA 0 (by simp[zC,zX,zQ,zH,w64])
  by_cases h2:t.k=2
  .obtain⟨_,y,hy,hwf⟩:=h.resolve_left h0|>.resolve_left h1|>.resolve_right (fun e=>by omega);have e:y6 p l (f+1) t a d=(.mk 4 0 (dH (fun t b=>y6 p l f t b (w64 (d+1))) (List.replicate (if 3<d then 0 else ((atV l a 1048576).tmod 3).toNat) y) (w64 (a+1))).1,
    (dH (fun t b=>y6 p l f t b (w64 (d+1))) (List.replicate (if 3<d then 0 else ((atV l a 1048576).tmod 3).toNat) y) (w64 (a+1))).2):=by rw[y6,if_neg h0,if_neg h1,if_pos h2,hy];rfl
   rw[e];clear e;have hih:∀b,my 40 [.agg (zN p),.agg (zB y),.sl l.length (yC l),int b,int (w64 (d+1))] [] (.tup [.agg (zC (y6 p l f y b (w64 (d+1))).1),int (y6 p l f y b (w64 (d+1))).2]) []:=fun b=>zDE p hL l hl f y b _ hwf
   have hx3:0<=(atV l a 1048576).tmod 3/\(atV l a 1048576).tmod 3<3:=by rw[jD1 hx.1];omega
   generalize atV l a 1048576=x at hx hx3;generalize hg:(fun t b=>y6 p l f t b (w64 (d+1)))=g;have hih:∀b,my 40 [.agg (zN p),.agg (zB y),.sl l.length (yC l),int b,int (w64 (d+1))] [] (.tup [.agg (zC (g y b).1),int (g y b).2]) []:=by subst hg;exact hih
   clear hg;obtain⟨Q,hQ,hQ2⟩:∃Q:Nat,(if 3<d then 0 else (x.tmod 3).toNat)=Q/\Q<=2:=⟨_,rfl,by split<;>omega⟩;rw[hQ];have hsn:∀i,dH g (List.replicate (i+1) y) (w64 (a+1))=((dH g (List.replicate i y) (w64 (a+1))).1++[(g y (dH g (List.replicate i y) (w64 (a+1))).2).1],(g y (dH g (List.replicate i y) (w64 (a+1))).2).2):=fun i=>by rw[List.replicate_succ',zCG]
   have hln:∀i,(dH g (List.replicate i y) (w64 (a+1))).1.length=i:=fun i=>by rw[zFn,List.length_replicate]
   have hd3:3<d\/¬3<d:=by omega
   rcases hd3 with hd3|hd3
   case' inl =>
    have hQ':(0:Int)=Q:=by rw[if_pos hd3]at hQ;omega
    simp[h2,hd3]
   case' inr =>
    have hQ':x.tmod 3=Q:=by rw[if_neg hd3]at hQ;omega
    simp[h2,hd3]
   all_goals
    refine qO (S:=Nat) (fun i=>[(2,.sl l.length (yC l)),(3,int (dH g (List.replicate i y) (w64 (a+1))).2),(4,int d),(5,.ptr 0 0),(6,.ptr 1 0),(10,.ptr 2 0),(13,.ptr 3 0),(14,int Q),(15,int i)])
     (fun i=>[.box (zN p),.box (zB t),.box [int 0,int 0,.nil],.box [int 4,int 0,.row 4 i],.row false 46 3 i (zR (dH g (List.replicate i y) (w64 (a+1))).1)]) (fun i=>i<=Q) (fun i=>Q-i) 0 (by simp)
     ((yJ (l:=3) (o:=2) rfl rfl 46 3).trans (mw [0,1,2,3,4] 0 (by rfl) (by simp[zN,zB,h2,hy,dH,w64,hQ']))) ?_
    intro i hi;by_cases hiQ:i<Q
    .have hwi:=jY i (by omega);have hsn:=hsn i;have hln:=hln i;generalize dH g (List.replicate i y) (w64 (a+1))=R at hsn hln;simp[hiQ,zN,zB,hy];refine j3 (hih R.2) (by simp[zN,zB,w64,qN]) (by simp[zC]) ?_;simp[oL,zC];refine⟨⟨by simp[maxLen];omega,by omega⟩,?_⟩;exact zS (i+1) hiQ (by omega) (mw [0,1,2,3,4] 0 (by rfl) (by simp[zN,zB,hy,hsn,hwi]))
    .have hiQ:i=Q:=by omega
     subst hiQ;have hln:=hln i;generalize dH g (List.replicate i y) (w64 (a+1))=R at hln;simp;exact zA 1 (by simp[zC,hln,zX,zQ,zH])
  obtain⟨_,gk,g1,g3,g4⟩:=h.resolve_left h0|>.resolve_left h1|>.resolve_left (fun e=>h2 e.1);simp[h0,h1,h2];refine mu (lP p hL t.id) (by simp[zN,zL,bL]) ?_;have hD:(jH p.defs t.id).getD .zero=dfn p t.id:=rfl;rcases gk with gk|gk
  .have e:y6 p l (f+1) t a d=(.mk 2 0 (dH (fun t b=>y6 p l f t b (w64 (d+1))) ((dfn p t.id).slots.map Slt.typ) (w64 (a+1))).1,(dH (fun t b=>y6 p l f t b (w64 (d+1))) ((dfn p t.id).slots.map Slt.typ) (w64 (a+1))).2):=by rw[y6,if_neg h0,if_neg h1,if_neg h2,if_neg (by omega)]
   rw[e];clear e;generalize dfn p t.id=D at hD g1 g3 g4 gk;obtain⟨TS,hTS⟩:∃TS,TS=D.slots.map Slt.typ:=⟨_,rfl⟩;have hTl:TS.length=D.slots.length:=by rw[hTS];simp
   have hTg:∀i (h:i<D.slots.length),TS[i]?=some D.slots[i].typ:=fun i h=>by rw[hTS];simp[h]
   have hih:∀i (h:i<D.slots.length) b,my 40 [.agg (zN p),.agg (zB D.slots[i].typ),.sl l.length (yC l),int b,int (w64 (d+1))] [] (.tup [.agg (zC (y6 p l f D.slots[i].typ b (w64 (d+1))).1),int (y6 p l f D.slots[i].typ b (w64 (d+1))).2]) []:=fun i h b=>zDE p hL l hl f D.slots[i].typ b _ (g4 _ (jA0 h))
   obtain⟨g,hg⟩:∃g,g=fun t b=>y6 p l f t b (w64 (d+1)):=⟨_,rfl⟩
   have hih:∀i (h:i<D.slots.length) b,my 40 [.agg (zN p),.agg (zB D.slots[i].typ),.sl l.length (yC l),int b,int (w64 (d+1))] [] (.tup [.agg (zC (g D.slots[i].typ b).1),int (g D.slots[i].typ b).2]) []:=by subst hg;exact hih
   rw[<-hTS,<-hg];clear hg hTS;have hsn:∀i (h:i<D.slots.length),dH g (TS.take (i+1)) (w64 (a+1))=((dH g (TS.take i) (w64 (a+1))).1++[(g D.slots[i].typ (dH g (TS.take i) (w64 (a+1))).2).1],(g D.slots[i].typ (dH g (TS.take i) (w64 (a+1))).2).2):=fun i h=>by
    have h1:i<TS.length:=by omega
    have h2:=hTg i h;rw[jA1 h1]at h2;rw[jA8 h1,jB0 h2,zCG]
   have hln:∀i,i<=D.slots.length->(dH g (TS.take i) (w64 (a+1))).1.length=i:=fun i h=>by rw[zFn,jAs];omega
   have htk:TS.take D.slots.length=TS:=jAe (by omega);simp[bL,hD,zK,gk];refine qO (S:=Nat) (fun i=>[(2,.sl l.length (yC l)),(3,int (dH g (TS.take i) (w64 (a+1))).2),(4,int d),(5,.ptr 0 0),(6,.ptr 1 0),(10,.ptr 2 0),(13,.ptr 3 0),(18,.ptr 4 0),(22,int i)])
    (fun i=>[.box (zN p),.box (zB t),.box [int 0,int 0,.nil],.box [int 2,int 0,.row 5 i],.box (zK D),.row false 46 3 i (zR (dH g (TS.take i) (w64 (a+1))).1)]) (fun i=>i<=D.slots.length) (fun i=>D.slots.length-i) 0 (by simp)
    ((yJ (l:=3) (o:=2) rfl rfl 46 3).trans (mw [0,1,2,3,4,5] 0 (by rfl) (by simp[zN,zB,zK,gk,dH,w64]))) ?_
   intro i hi;by_cases hiQ:i<D.slots.length
   .have hwi:=jY i (by omega);have hsn:=hsn i hiQ;have hln:=hln i hi;have hih:=hih i hiQ;generalize dH g (TS.take i) (w64 (a+1))=R at hsn hln;simp[hiQ,qW hiQ,zN,zK,j4];intro _;refine j3 (hih R.2) (by simp[zN,zB,w64,qN]) (by simp[zC]) ?_;simp[oL,zC];refine⟨⟨by simp[maxLen];omega,by omega⟩,?_⟩;exact zS (i+1) hiQ (by omega) (mw [0,1,2,3,4,5] 0 (by rfl) (by simp[zN,zB,zK,hsn,hwi]))
   .have hiQ:i=D.slots.length:=by omega
    subst hiQ;have hln:=hln _ (jA _);rw[htk]at hln ⊢;generalize dH g TS (w64 (a+1))=R at hln;simp[zK];exact fun _=>zA 1 (by simp[zC,hln,zX,zQ,zH])
  .have hlt:(atV l a 1048576).tmod ((dfn p t.id).slots.length:Int)=((atV l a 1048576) % ((dfn p t.id).slots.length:Int)):=jD1 hx.1;have hl1:=jCx (atV l a 1048576) (show ((dfn p t.id).slots.length:Int)≠0 by omega);have hl2:=jD3 (atV l a 1048576) (show (0:Int)<((dfn p t.id).slots.length:Int) by omega);obtain⟨Q,hQ⟩:∃Q:Nat,(atV l a 1048576).tmod ((dfn p t.id).slots.length:Int)=(Q:Int):=⟨((atV l a 1048576).tmod ((dfn p t.id).slots.length:Int)).toNat,by omega⟩;have hQl:Q<(dfn p t.id).slots.length:=by omega
   have e:y6 p l (f+1) t a d=(.mk 3 Q [(y6 p l f (dfn p t.id).slots[Q].typ (w64 (a+1)) (w64 (d+1))).1],(y6 p l f (dfn p t.id).slots[Q].typ (w64 (a+1)) (w64 (d+1))).2):=by rw[y6,if_neg h0,if_neg h1,if_neg h2,if_pos gk,hQ];simp[hQl]
   rw[e];have hih:=zDE p hL l hl f (dfn p t.id).slots[Q].typ (w64 (a+1)) (w64 (d+1)) (g4 _ (jA0 hQl));clear e hlt hl1 hl2;generalize dfn p t.id=D at hD g1 g3 g4 gk hQl hih hQ;have hn0:¬D.slots=[]:=fun e=>by rw[e]at g1;simp at g1
   simp[bL,hD,zK,gk,hn0,hQ,hQl,qW hQl,j4];intro _;refine j3 hih (by simp[zN,zB,w64,qN]) (by simp[zC]) ?_;simp[oL,zC];exact zA 1 (by simp[zC,zX,zQ,zH])
def zAM(p:Prg)(t:Typ)(l:wB):Val:=if 256<mU (y6 p l 10 t 0 1).1\/24<gM (y6 p l 10 t 0 1).1 then b9 p 5 t else (y6 p l 10 t 0 1).1
theorem zTo(p:Prg)(hL:p.defs.length<=1000000)(l:wB)(hl:∀x∈l,w64 x=x)(t:Typ)(hf:Wf p 10 t)(hz:Wz p 5 t):my 14 [.agg (zN p),.agg (zB t),.sl l.length (yC l)] [] (.agg (zC (zAM p t l))) []:=by
 refine mq [] [.cell 6 3 true] func14 (by kernel_rfl) ?_
 (conv in kq _ _=>cbv)
 simp[zN,zB];refine mu (zDE p hL l hl 10 t 0 1 hf) (by simp[zN,zB,zC]) ?_;have e:zAM p t l=if 256<mU (y6 p l 10 t 0 1).1\/24<gM (y6 p l 10 t 0 1).1 then b9 p 5 t else (y6 p l 10 t 0 1).1:=rfl
 generalize (y6 p l 10 t 0 1)=R at e;obtain⟨v,b⟩:=R;simp only at e;simp[zC];refine mu (fT v) (by simp[zC]) ?_;by_cases h1:256<mU v
 .rw[if_pos (.inl h1)]at e;rw[e];simp[h1];refine mu (zKU p hL 5 (by decide) t hz) (by simp[zN,zB,zC]) ?_;simp[zC];exact zA 0 (by simp[zC])
 .simp[h1];refine mu (iH v) (by simp[zC]) ?_;by_cases h2:24<gM v
  .rw[if_pos (.inr h2)]at e;rw[e];simp[h2];refine mu (zKU p hL 5 (by decide) t hz) (by simp[zN,zB,zC]) ?_;simp[zC];exact zA 0 (by simp[zC])
  .rw[if_neg (by simp[h1,h2])]at e;rw[e];simp[h2];exact zA 0 (by simp[zC])
abbrev zQO:FuncId:=137
def zQM(m:Mk)(t:Typ)(k:Nat):Bool:=match m.defs[k]? with
 |some d=>decide (d.kind=2)&&(zAN m k&&y7 d.res t)
 |none=>false
theorem zNl{hs:wP}{R:Nat}{c:Int}{len:Nat}(hc:0<=c)(hl:Lim m (7*c+7))(x:Nat)(hk:dV hs R c (depth-1) (fun r=>r<=R) len)
 (hx:Cx hs R m)(he:EnvOk hs R m.temp env)(h1:0<env.length)(h2:env.length<=len)(hd1 : -1000<=depth)(hd2:depth<=1000)(t:Typ)
 (hop:cN hs m.own opF m [.ptr 0 0,.agg (zB t),.sl env.length (qC env),int x,int depth] env t (7*c+7)) :
 cN hs m.own zQO m [.ptr 0 0,.agg (zB t),.sl env.length (qC env),int x,int depth] env t (7*c+7):=by
 have hdl:=hx.dlen;have hd100:=hx.len;have hd0:=hx.len0;have hN:0<m.defs.length:=by omega
 have wd:=z8 (depth-1) (by omega);obtain⟨i0,e,m',hi0,hlow,hfull,hhit,hA,hW,hS,hZ⟩:∃(i0:Nat) (e:Exp) (m':Mk),i0<=m.defs.length/\(∀i<i0,zQM m t i=false) /\
  (i0=m.defs.length->my opF [.ptr 0 0,.agg (zB t),.sl env.length (qC env),int x,int depth] (mkS m) (.agg (zJ e)) (mkS m')) /\
  (∀(D:Dfn),m.defs[i0]?=some D->D.kind=2/\zAN m i0=true/\D.res=t/\∃(es:wG) (ms:Nat->Mk),es.length=D.slots.length/\ms 0=m/\Lim (ms es.length) 1 /\
   (∀(j:Nat) (hj:j<es.length) (hj':j<D.slots.length),my bR [.ptr 0 0,.agg (zB D.slots[j].typ),.sl env.length (qC env),int (depth-1)] (mkS (ms j)) (.agg (zJ es[j])) (mkS (ms (j+1)))) /\
   e=.mk ⟨0,0,(ms es.length).temp⟩ 3 0 D.id Typ.zero es []/\m'={ms es.length with temp:=(ms es.length).temp+1,left:=(ms es.length).left-1}) /\
  Adv m m' (7*c+7)/\WT hs m.own env e t/\Seg m.temp m'.temp (tmps e)/\e.num0:=by
  by_cases hex:∃i,i<m.defs.length/\zQM m t i=true
  .obtain⟨k,hkm,hp,hlow⟩:=zND hex;have hks:k<hs.length:=by omega
   have hget:=hx.get hkm;unfold zQM at hp;rw[jA1 hkm]at hp;simp only[jA6,decide_eq_true_eq]at hp;generalize hD:m.defs[k]=D at hget hp;obtain⟨hkind,hvis,hst⟩:=hp;have hres:=(rR _ _).1 hst;have eid:hs[k].id=D.id:=by rw[hget];rfl
   have eslots:hs[k].slots=D.slots:=by rw[hget];rfl
   have eres:hs[k].res=D.res:=by rw[hget];rfl
   have ekind:hs[k].kind=2:=by rw[hget];exact hkind
   obtain⟨hs6,hsT⟩:=hx.slots k hks;rw[eslots]at hs6 hsT;have hsc:((D.slots.length:Int))*c<=6*c:=jDb (by omega) hc;obtain⟨es,ms,q1,q2,q3,q4,q5⟩:=zN9 hk hc env h1 h2 (D.slots.map (·.typ)) m hx (hl.mono (by rw[jAb];omega)) (fun t ht=>by obtain⟨s,hs',rfl⟩:=jAg.1 ht;exact⟨R,hsT s hs',jA _⟩) he
   rw[jAb]at q1 q3 q4;have ha:=(q3 D.slots.length (jA _)).mono hsc;have hl1:Lim (ms es.length) 1:=by rw[q1];exact Lim.adv (c:=6*c) (c':=1) (hl.mono (by omega)) ha
   refine⟨k,.mk ⟨0,0,(ms es.length).temp⟩ 3 0 D.id Typ.zero es [],{ms es.length with temp:=(ms es.length).temp+1,left:=(ms es.length).left-1},by omega,hlow,fun h=>by omega,fun D' hD'=>?_,by rw[q1];exact(ha.trans (aH _)).mono (by omega),?_,
    by simp only[tmps];rw[q1];exact q4.append (Seg.one _) ha.temp1 (by omega),iX (zB2 rfl fun j hj=>(q5 j hj (by rw[jAb];omega)).2.2)⟩
   .rw[jA1 hkm,hD]at hD';injection hD' with hD'
    subst hD';refine⟨hkind,hvis,hres,es,ms,q1,q2,hl1,fun j hj hj'=>?_,rfl,rfl⟩;have:=(q5 j hj (by rw[jAb];omega)).1;rw[jAt]at this;exact this
   .have:=WT.call (own:=m.own) env ⟨0,0,(ms es.length).temp⟩ k hks es (zVt hvis) ekind (by rw[eslots,q1]) (fun j hj=>by
     have:=(q5 j hj (by rw[jAb];omega)).2.1;rw[jAt]at this
     simpa only[eslots]using this)
    rw[eid,eres,hres]at this;exact this
  .obtain⟨e,m',g1,g2,g3,g4,g5⟩:=hop;refine⟨m.defs.length,e,m',jA _,fun i hi=>?_,fun _=>g1,(fun D h=>by rw[jBd (jA _)]at h;cases h),g2,g3,g4,g5⟩;cases hp:zQM m t i
   .rfl
   .exact(hex ⟨i,hi,hp⟩).elim
 refine⟨e,m',?_,hA,hW,hS,hZ⟩;refine mj [69] [] [] [.cell 10 15 true] func137 (by kernel_rfl) ?_
 (conv in kH _ _ _=>cbv)
 simp[mkS,mkB,zB];refine qO (S:=Nat) (fun i=>[(0,.ptr 0 0),(2,.sl env.length (qC env)),(3,int x),(4,int depth),(6,.ptr 2 0),(10,.ptr 3 0),(11,int i)])
  (fun _=>mkS m++[.box (zB t),.box (zJ Exp.zero)]) (fun i=>i<=i0) (fun i=>i0-i) 0 (by simp)
  (mw [0,1,2,3] 0 (by rfl) (by simp[mkS,mkB,zB,zJ,Exp.zero,Id.zero,Typ.zero])) ?_
 intro i hi;by_cases h:i<m.defs.length
 .have w2:=jY i (by omega);have hlow':=fun hlt:i<i0=>hlow i hlt
  have hhit':i=i0->_:=fun e=>hhit m.defs[i] (by rw[<-e,jA1 h])
  unfold zQM at hlow';rw[jA1 h]at hlow';have hsl:m.defs[i].slots.length<=6:=by have:=(hx.slots i (by omega)).1;rw[hx.get h]at this;exact this
  have hdr:=yD h;have hb31:i*31+31<=m.defs.length*31:=by omega
  generalize m.defs[i]=D at hlow' hhit' hsl hdr;by_cases hlt:i<i0
  .have hno:=hlow' hlt;simp only at hno;by_cases hkd:D.kind=2
   .simp[mkS,mkB,h,hdr,hb31,zK,hkd];refine mr (zF7 m i h hx.mods) [0,1] (by simp[mkS,mkB]) ?_;cases hv:zAN m i
    .simp[mkS,mkB];exact zS (i+1) (by omega) (by omega) (mw [0,1,2,3] 0 (by rfl) (by simp[mkS,mkB,zB,zJ,Exp.zero,Id.zero,Typ.zero,w2]))
    .have hsf:y7 D.res t=false:=by simpa[hkd,hv]using hno
     simp[mkS,mkB,zK,zB];refine mu (iI D.res t) (by simp[zB]) ?_;rw[hsf];simp[mkS,mkB];exact zS (i+1) (by omega) (by omega) (mw [0,1,2,3] 0 (by rfl) (by simp[mkS,mkB,zB,zJ,Exp.zero,Id.zero,Typ.zero,w2]))
   .simp[mkS,mkB,h,hdr,hb31,zK,hkd];exact zS (i+1) (by omega) (by omega) (mw [0,1,2,3] 0 (by rfl) (by simp[mkS,mkB,zB,zJ,Exp.zero,Id.zero,Typ.zero,w2]))
  .have hie:i=i0:=by omega
   subst hie;obtain⟨hkd,hv,hres,es,ms,q1,q2,hln,g1,he1,he2⟩:=hhit' rfl;obtain⟨l1,l2,l3,l4,l5,l6,l7,l8⟩:=hln;subst he1 he2;simp[mkS,mkB,h,hdr,hb31,zK,hkd];refine mr (zF7 m i h hx.mods) [0,1] (by simp[mkS,mkB]) ?_;rw[hv];simp[mkS,mkB,zK,zB];refine mu (iI D.res t) (by simp[zB]) ?_;rw[show y7 D.res t=true from (rR _ _).2 hres];simp[mkS,mkB];refine qO (S:=Nat) (fun j=>[(0,.ptr 0 0),(2,.sl env.length (qC env)),(4,int depth),(10,.ptr 3 0),(12,.ptr 4 0),(13,.row 5 j),(14,int j)])
    (fun j=>mkS (ms j)++[.box (zB t),.box (zJ Exp.zero),.box (zK D),.row false 39 15 j (qQ (es.take j))]) (fun j=>j<=es.length) (fun j=>es.length-j) 0 (by simp)
    ((yK (t:=13) (by simp) 39 15).trans (mw [0,1,2,3,4,5] 0 (by rfl) (by simp[mkS,mkB,zB,q2,zJ,Exp.zero,Id.zero,Typ.zero,zK,hkd]))) ?_
   intro j hj;by_cases hj2:j<es.length
   .have hjd:j<D.slots.length:=by omega
    have g1':=g1 j hj2 hjd;have hst:qQ (es.take (j+1))=qQ (es.take j)++zJ es[j]:=bO hj2;have hw:=jY j (by omega);have hdS:List.drop (j*11+4) (jN D.slots)=(j4 D.slots[j]++jN (D.slots.drop (j+1))).drop 4:=by rw[<-jBc,qW hjd]
    have hbS:j*11+4+5<=D.slots.length*11:=by omega
    simp[mkS,mkB,zK,hjd,hdS,hbS,j4,wd];intro _;refine mr g1' [0,1] (by simp[mkS,mkB,zB]) ?_;simp[mkS,mkB];refine⟨⟨by simp[maxLen];omega,by omega⟩,?_⟩;exact zS (j+1) hj2 (by omega) (mw [0,1,2,3,4,5] 0 (by rfl) (by simp[mkS,mkB,zB,zJ,Exp.zero,Id.zero,Typ.zero,hst,zK,hw]))
   .have hje:j=es.length:=by omega
    subst hje;have hid:¬es.length<D.slots.length:=by omega
    simp[mkS,mkB,zK,hid];intro _;refine⟨qS [(0,.ptr 0 0),(10,.ptr 3 0),(12,.ptr 4 0),(13,.sl es.length (qQ es))],mkS (ms es.length)++[.box (zB t),.box (zJ Exp.zero),.box (zK D)],mw [0,1,2,3,4] 1 (by rfl) (by simp[mkS,mkB,zB,zJ,Exp.zero,Id.zero,Typ.zero,zK]),?_⟩;simp[mkS,mkB];refine mr (aT (ms es.length) 3 0 es l3 (by omega) (by omega) l6) [0,1] (by simp[mkS,mkB]) ?_;simp[mkS,mkB,zJ,zK];exact mv [0,1] 0 (by rfl) (by simp[zJ])
 .have hii:i=m.defs.length:=by omega
  have hi0':i0=m.defs.length:=by omega
  subst hii;simp[mkS,mkB,zB];refine mr (hfull hi0') [0,1] (by simp[mkS,mkB,zB]) ?_;simp[mkS,mkB];exact mv [0,1] 0 (by rfl) (by simp[zJ])
def qFB:Nat->Option wD:=fun|14=>k_ [0,2002,2002,0,0,0,0,0,1002,0,4,0] | 20=>k_ [2002,0,0,0,0,0,0,0,0,0,0,1002,0,2,0] | 34=>k_ [2002,2002,0,0,0,0,0,1002,0,2,0]|_=>none
abbrev zKg:FuncId:=128
abbrev zJl:FuncId:=129
variable{m0:Mk}{t:Typ}{X:Int}{F:wJ}
theorem zOB(hd1 : -1000<=depth)(hd2:depth<=1000)(hX0:0<=X)(hX1:X<65536)(hF:F.length<=1000)(hE0:0<env.length)(hE:env.length<=1000)
 (hnum:my zKg [.ptr 0 0,int 65536] (mkS m) (int X) (mkS m0))(hfit:my zJl [.sl env.length (qC env),.agg (zB t)] [] (.sl F.length (qC F)) [])(hleft:0<m0.left)(hd:0<depth)(hF0:F≠[])(hX3:X.tmod 3=0)(h0:0<=m0.temp)(h1:m0.temp<=1000000000000000)(h2 : -1000000000000000<=m0.left)(h3:m0.left<=1000000000000000) :
 ∃b∈F,my bR [.ptr 0 0,.agg (zB t),.sl env.length (qC env),int depth] (mkS m) (.agg (zJ (.mk ⟨0,0,m0.temp⟩ 2 b.n b.id Typ.zero [] []))) (mkS {m0 with temp:=m0.temp+1,left:=m0.left-1}):=by
 have hl':¬m0.left<=0:=by omega
 have hd':¬depth<=0:=by omega
 have d3:X.tdiv 3=X / 3:=tdN hX0;have w3:=z8 (X.tdiv 3) (by omega);have hFl:0<F.length:=by cases F with
  |nil=>exact(hF0 rfl).elim
  |cons=>simp
 obtain⟨j,hj,e1⟩:∃j:Nat,j<F.length/\(X.tdiv 3).tmod (F.length:Int)=j:=by
  have q0:0<=X.tdiv 3:=by omega
  have q1:=jD3 (X.tdiv 3) (b:=(F.length:Int)) (by omega);have q2:=jCx (X.tdiv 3) (b:=(F.length:Int)) (by omega);exact⟨((X.tdiv 3) % F.length).toNat,by omega,by rw[tmN q0];omega⟩
 have hdr:=iA hj;have hbj:j*9+9<=F.length*9:=by omega
 have hne:¬((F.length:Int)=0):=by omega
 refine⟨F[j],jA0 hj,?_⟩;have hvar:=zTq m0 F[j] h0 h1 h2 h3;refine mn qFB [] [.cell 8 15 true] func85 (by kernel_rfl) ?_
 (conv in zY _ _ _ _=>cbv)
 simp[mkS,mkB,zB];refine mr hnum [0,1] (by simp[mkS,mkB]) ?_;simp[mkS,mkB];refine mu hfit (by simp[zB]) ?_;simp[mkS,mkB,hl',hd',hX3,hFl,hF0,w3,e1,hne,hj,hdr,hbj];intro _;refine mr hvar [0,1] (by simp[mkS,mkB,cO]) ?_;simp[mkS,mkB,zJ];exact mv [0,1] 0 (by rfl) (by simp[zJ])
theorem zOC(hd1 : -1000<=depth)(hd2:depth<=1000)(hX0:0<=X)(hX1:X<65536)(hF:F.length<=1000)(hE0:0<env.length)(hE:env.length<=1000)
 (hnum:my zKg [.ptr 0 0,int 65536] (mkS m) (int X) (mkS m0))(hfit:my zJl [.sl env.length (qC env),.agg (zB t)] [] (.sl F.length (qC F)) []){d:Int}(hd:d<=0)(hcase:m0.left<=0/\0<depth/\d=0\/m0.left<=0/\depth<=0/\d=depth\/0<m0.left/\depth<=0/\d=depth)(hF0:F≠[])(h0:0<=m0.temp)(h1:m0.temp<=1000000000000000)(h2 : -1000000000000000<=m0.left)(h3:m0.left<=1000000000000000) :
 ∃b∈F,my bR [.ptr 0 0,.agg (zB t),.sl env.length (qC env),int depth] (mkS m) (.agg (zJ (.mk ⟨0,0,m0.temp⟩ 2 b.n b.id Typ.zero [] []))) (mkS {m0 with temp:=m0.temp+1,left:=m0.left-1}):=by
 have d3:X.tdiv 3=X / 3:=tdN hX0;have w3:=z8 (X.tdiv 3) (by omega);have hFl:0<F.length:=by cases F with
  |nil=>exact(hF0 rfl).elim
  |cons=>simp
 obtain⟨j,hj,e1⟩:∃j:Nat,j<F.length/\(X.tdiv 3).tmod (F.length:Int)=j:=by
  have q0:0<=X.tdiv 3:=by omega
  have q1:=jD3 (X.tdiv 3) (b:=(F.length:Int)) (by omega);have q2:=jCx (X.tdiv 3) (b:=(F.length:Int)) (by omega);exact⟨((X.tdiv 3) % F.length).toNat,by omega,by rw[tmN q0];omega⟩
 have hdr:=iA hj;have hbj:j*9+9<=F.length*9:=by omega
 have hne:¬((F.length:Int)=0):=by omega
 refine⟨F[j],jA0 hj,?_⟩;have hvar:=zTq m0 F[j] h0 h1 h2 h3;rcases hcase with ⟨hl1,hp,hdd⟩|⟨hl1,hp,hdd⟩|⟨hl1,hp,hdd⟩
 .subst hdd;refine mn qFB [] [.cell 8 15 true] func85 (by kernel_rfl) ?_
  (conv in zY _ _ _ _=>cbv)
  simp[mkS,mkB,zB];refine mr hnum [0,1] (by simp[mkS,mkB]) ?_;simp[mkS,mkB];refine mu hfit (by simp[zB]) ?_;simp[mkS,mkB,hl1,hp,hFl,hF0,w3,e1,hne,hj,hdr,hbj];intro _;refine mr hvar [0,1] (by simp[mkS,mkB,cO]) ?_;simp[mkS,mkB,zJ];exact mv [0,1] 0 (by rfl) (by simp[zJ])
 .have hp0:¬0<depth:=by omega
  subst hdd;refine mn qFB [] [.cell 8 15 true] func85 (by kernel_rfl) ?_
  (conv in zY _ _ _ _=>cbv)
  simp[mkS,mkB,zB];refine mr hnum [0,1] (by simp[mkS,mkB]) ?_;simp[mkS,mkB];refine mu hfit (by simp[zB]) ?_;simp[mkS,mkB,hl1,hp,hp0,hFl,hF0,w3,e1,hne,hj,hdr,hbj];intro _;refine mr hvar [0,1] (by simp[mkS,mkB,cO]) ?_;simp[mkS,mkB,zJ];exact mv [0,1] 0 (by rfl) (by simp[zJ])
 .have hp0:¬0<depth:=by omega
  have hl2:¬m0.left<=0:=by omega
  subst hdd;refine mn qFB [] [.cell 8 15 true] func85 (by kernel_rfl) ?_
  (conv in zY _ _ _ _=>cbv)
  simp[mkS,mkB,zB];refine mr hnum [0,1] (by simp[mkS,mkB]) ?_;simp[mkS,mkB];refine mu hfit (by simp[zB]) ?_;simp[mkS,mkB,hl2,hp,hFl,hF0,w3,e1,hne,hj,hdr,hbj];intro _;refine mr hvar [0,1] (by simp[mkS,mkB,cO]) ?_;simp[mkS,mkB,zJ];exact mv [0,1] 0 (by rfl) (by simp[zJ])
variable{e:Exp}{m':Mk}
theorem zYN(hd1 : -1000<=depth)(hd2:depth<=1000)(hX0:0<=X)(hX1:X<65536)(hF:F.length<=1000)(hE0:0<env.length)(hE:env.length<=1000)
 (hnum:my zKg [.ptr 0 0,int 65536] (mkS m) (int X) (mkS m0))(hfit:my zJl [.sl env.length (qC env),.agg (zB t)] [] (.sl F.length (qC F)) []){d:Int}(hd:d<=0)(hcase:m0.left<=0/\0<depth/\d=0\/m0.left<=0/\depth<=0/\d=depth\/0<m0.left/\depth<=0/\d=depth)(hF0:F=[])(hlit:my zHY [.ptr 0 0,.agg (zB t),.sl env.length (qC env),int (X.tdiv 3),int d] (mkS m0) (.agg (zJ e)) (mkS m')) :
 my bR [.ptr 0 0,.agg (zB t),.sl env.length (qC env),int depth] (mkS m) (.agg (zJ e)) (mkS m'):=by
 have d3:X.tdiv 3=X / 3:=tdN hX0;have w3:=z8 (X.tdiv 3) (by omega);subst hF0;rcases hcase with ⟨hl1,hp,hdd⟩|⟨hl1,hp,hdd⟩|⟨hl1,hp,hdd⟩
 .subst hdd;refine mn qFB [] [.cell 8 15 true] func85 (by kernel_rfl) ?_
  (conv in zY _ _ _ _=>cbv)
  simp[mkS,mkB,zB];refine mr hnum [0,1] (by simp[mkS,mkB]) ?_;simp[mkS,mkB];refine mu hfit (by simp[zB]) ?_;simp[mkS,mkB,hl1,hp,w3];refine mr hlit [0,1] (by simp[mkS,mkB,zB]) ?_;simp[mkS,mkB,zJ];exact mv [0,1] 0 (by rfl) (by simp[zJ])
 .have hp0:¬0<depth:=by omega
  subst hdd;refine mn qFB [] [.cell 8 15 true] func85 (by kernel_rfl) ?_
  (conv in zY _ _ _ _=>cbv)
  simp[mkS,mkB,zB];refine mr hnum [0,1] (by simp[mkS,mkB]) ?_;simp[mkS,mkB];refine mu hfit (by simp[zB]) ?_;simp[mkS,mkB,hl1,hp,hp0,w3];refine mr hlit [0,1] (by simp[mkS,mkB,zB]) ?_;simp[mkS,mkB,zJ];exact mv [0,1] 0 (by rfl) (by simp[zJ])
 .have hp0:¬0<depth:=by omega
  have hl2:¬m0.left<=0:=by omega
  subst hdd;refine mn qFB [] [.cell 8 15 true] func85 (by kernel_rfl) ?_
  (conv in zY _ _ _ _=>cbv)
  simp[mkS,mkB,zB];refine mr hnum [0,1] (by simp[mkS,mkB]) ?_;simp[mkS,mkB];refine mu hfit (by simp[zB]) ?_;simp[mkS,mkB,hl2,hp,w3];refine mr hlit [0,1] (by simp[mkS,mkB,zB]) ?_;simp[mkS,mkB,zJ];exact mv [0,1] 0 (by rfl) (by simp[zJ])
theorem qF2(hd1 : -1000<=depth)(hd2:depth<=1000)(hX0:0<=X)(hX1:X<65536)(hF:F.length<=1000)(hE0:0<env.length)(hE:env.length<=1000)
 (hnum:my zKg [.ptr 0 0,int 65536] (mkS m) (int X) (mkS m0))(hfit:my zJl [.sl env.length (qC env),.agg (zB t)] [] (.sl F.length (qC F)) [])(hleft:0<m0.left)(hd:0<depth)(hc:F=[]\/X.tmod 3≠0)(hk:9<=(X.tdiv 3).tmod 12)(hop:my opF [.ptr 0 0,.agg (zB t),.sl env.length (qC env),int (X.tdiv 36),int depth] (mkS m0) (.agg (zJ e)) (mkS m')) :
 my bR [.ptr 0 0,.agg (zB t),.sl env.length (qC env),int depth] (mkS m) (.agg (zJ e)) (mkS m'):=by
 have hl':¬m0.left<=0:=by omega
 have hd':¬depth<=0:=by omega
 have d3:X.tdiv 3=X / 3:=tdN hX0;have w3:=z8 (X.tdiv 3) (by omega);have d36:X.tdiv 36=X / 36:=tdN hX0;have w36:=z8 (X.tdiv 36) (by omega);have d12:(X.tdiv 3).tmod 12=(X.tdiv 3) % 12:=tmN (by omega);have k0:(X.tdiv 3).tmod 12≠0:=by omega
 have k1:(X.tdiv 3).tmod 12≠1:=by omega
 have k2:(X.tdiv 3).tmod 12≠2:=by omega
 have k3:(X.tdiv 3).tmod 12≠3:=by omega
 have k4:(X.tdiv 3).tmod 12≠4:=by omega
 have k5:(X.tdiv 3).tmod 12≠5:=by omega
 have k6:(X.tdiv 3).tmod 12≠6:=by omega
 have k7:(X.tdiv 3).tmod 12≠7:=by omega
 have k8:(X.tdiv 3).tmod 12≠8:=by omega
 by_cases hF0:F=[]
 .subst hF0;refine mn qFB [] [.cell 8 15 true] func85 (by kernel_rfl) ?_
  (conv in zY _ _ _ _=>cbv)
  simp[mkS,mkB,zB];refine mr hnum [0,1] (by simp[mkS,mkB]) ?_;simp[mkS,mkB];refine mu hfit (by simp[zB]) ?_;simp[mkS,mkB,hl',hd',w3,w36,k0,k1,k2,k3,k4,k5,k6,k7,k8];refine mr hop [0,1] (by simp[mkS,mkB,zB]) ?_;simp[mkS,mkB,zJ];exact mv [0,1] 0 (by rfl) (by simp[zJ])
 .have hc:=hc.resolve_left hF0;have hFl:0<F.length:=by cases F with
   |nil=>exact(hF0 rfl).elim
   |cons=>simp
  refine mn qFB [] [.cell 8 15 true] func85 (by kernel_rfl) ?_
  (conv in zY _ _ _ _=>cbv)
  simp[mkS,mkB,zB];refine mr hnum [0,1] (by simp[mkS,mkB]) ?_;simp[mkS,mkB];refine mu hfit (by simp[zB]) ?_;simp[mkS,mkB,hl',hd',hF0,hFl,hc,w3,w36,k0,k1,k2,k3,k4,k5,k6,k7,k8];intro _;refine mr hop [0,1] (by simp[mkS,mkB,zB]) ?_;simp[mkS,mkB,zJ];exact mv [0,1] 0 (by rfl) (by simp[zJ])
theorem zBj{N:Int}{G:FuncId}(hN:N=3/\G=zMf\/N=4/\G=zMf\/N=5/\G=zR6\/N=6/\G=zQO\/N=7/\G=zQO)(hd1 : -1000<=depth)(hd2:depth<=1000)(hX0:0<=X)(hX1:X<65536)(hF:F.length<=1000)(hE0:0<env.length)(hE:env.length<=1000)
 (hnum:my zKg [.ptr 0 0,int 65536] (mkS m) (int X) (mkS m0))(hfit:my zJl [.sl env.length (qC env),.agg (zB t)] [] (.sl F.length (qC F)) [])(hleft:0<m0.left)(hd:0<depth)(hc:F=[]\/X.tmod 3≠0)(hk:(X.tdiv 3).tmod 12=N)(hop:my G [.ptr 0 0,.agg (zB t),.sl env.length (qC env),int (X.tdiv 36),int depth] (mkS m0) (.agg (zJ e)) (mkS m')) :
 my bR [.ptr 0 0,.agg (zB t),.sl env.length (qC env),int depth] (mkS m) (.agg (zJ e)) (mkS m'):=by
 have hl':¬m0.left<=0:=by omega
 have hd':¬depth<=0:=by omega
 have d3:X.tdiv 3=X / 3:=tdN hX0;have w3:=z8 (X.tdiv 3) (by omega);have d36:X.tdiv 36=X / 36:=tdN hX0;have w36:=z8 (X.tdiv 36) (by omega);have d12:(X.tdiv 3).tmod 12=(X.tdiv 3) % 12:=tmN (by omega);by_cases hF0:F=[]
 .subst hF0;rcases hN with ⟨rfl,rfl⟩|⟨rfl,rfl⟩|⟨rfl,rfl⟩|⟨rfl,rfl⟩|⟨rfl,rfl⟩
  all_goals
   refine mn qFB [] [.cell 8 15 true] func85 (by kernel_rfl) ?_
   (conv in zY _ _ _ _=>cbv)
   simp[mkS,mkB,zB];refine mr hnum [0,1] (by simp[mkS,mkB]) ?_;simp[mkS,mkB];refine mu hfit (by simp[zB]) ?_;simp[mkS,mkB,hl',hd',w3,w36,hk];refine mr hop [0,1] (by simp[mkS,mkB,zB]) ?_;simp[mkS,mkB,zJ];exact mv [0,1] 0 (by rfl) (by simp[zJ])
 .have hc:=hc.resolve_left hF0;have hFl:0<F.length:=by cases F with
   |nil=>exact(hF0 rfl).elim
   |cons=>simp
  rcases hN with ⟨rfl,rfl⟩|⟨rfl,rfl⟩|⟨rfl,rfl⟩|⟨rfl,rfl⟩|⟨rfl,rfl⟩
  all_goals
   refine mn qFB [] [.cell 8 15 true] func85 (by kernel_rfl) ?_
   (conv in zY _ _ _ _=>cbv)
   simp[mkS,mkB,zB];refine mr hnum [0,1] (by simp[mkS,mkB]) ?_;simp[mkS,mkB];refine mu hfit (by simp[zB]) ?_;simp[mkS,mkB,hl',hd',hF0,hFl,hc,w3,w36,hk];intro _;refine mr hop [0,1] (by simp[mkS,mkB,zB]) ?_;simp[mkS,mkB,zJ];exact mv [0,1] 0 (by rfl) (by simp[zJ])
variable{a b:Exp}{m1 m2 m3:Mk}
theorem qF1{N:Int}(hN:N=0\/N=1)(hd1 : -1000<=depth)(hd2:depth<=1000)(hX0:0<=X)(hX1:X<65536)(hF:F.length<=1000)(hE0:0<env.length)(hE:env.length<=1000)
 (hnum:my zKg [.ptr 0 0,int 65536] (mkS m) (int X) (mkS m0))(hfit:my zJl [.sl env.length (qC env),.agg (zB t)] [] (.sl F.length (qC F)) [])(hleft:0<m0.left)(hd:0<depth)(hc:F=[]\/X.tmod 3≠0)(hk:(X.tdiv 3).tmod 12=N){c:Exp}(ga:my bR [.ptr 0 0,.agg (zB jR),.sl env.length (qC env),int (depth-1)] (mkS m0) (.agg (zJ a)) (mkS m1))(gb:my bR [.ptr 0 0,.agg (zB t),.sl env.length (qC env),int (depth-1)] (mkS m1) (.agg (zJ b)) (mkS m2))(gc:my bR [.ptr 0 0,.agg (zB t),.sl env.length (qC env),int (depth-1)] (mkS m2) (.agg (zJ c)) (mkS m3))(hln:Lim m3 1) :
 my bR [.ptr 0 0,.agg (zB t),.sl env.length (qC env),int depth] (mkS m) (.agg (zJ (.mk ⟨0,0,m3.temp⟩ 5 0 Id.zero Typ.zero [a,b,c] []))) (mkS {m3 with temp:=m3.temp+1,left:=m3.left-1}):=by
 have hl':¬m0.left<=0:=by omega
 have hd':¬depth<=0:=by omega
 have d3:X.tdiv 3=X / 3:=tdN hX0;have w3:=z8 (X.tdiv 3) (by omega);have d36:X.tdiv 36=X / 36:=tdN hX0;have w36:=z8 (X.tdiv 36) (by omega);have d12:(X.tdiv 3).tmod 12=(X.tdiv 3) % 12:=tmN (by omega);have wd:=z8 (depth-1) (by omega);obtain⟨l1,l2,l3,l4,l5,l6,l7,l8⟩:=hln;by_cases hF0:F=[]
 .subst hF0;rcases hN with rfl|rfl
  all_goals
   refine mn qFB [] [.cell 8 15 true] func85 (by kernel_rfl) ?_
   (conv in zY _ _ _ _=>cbv)
   simp[mkS,mkB,zB];refine mr hnum [0,1] (by simp[mkS,mkB]) ?_;simp[mkS,mkB];refine mu hfit (by simp[zB]) ?_;simp[mkS,mkB,hl',hd',w3,w36,hk,wd];refine mr ga [0,1] (by simp[mkS,mkB,zB]) ?_;simp[mkS,mkB,zB,wd];refine mr gb [0,1] (by simp[mkS,mkB,zB]) ?_;simp[mkS,mkB,zB,wd];refine aK gc [0,1] (by decide) (by simp[mkS,mkB]) (by simp[zB]) (by decide) (by simp) (by simp[mkS]) ?_;simp[mkS,mkB];refine bV (aT m3 5 0 [a,b,c] l3 (by omega) (by omega) l6) [0,1] (by decide) (by simp[mkS,mkB]) (by simp[zO,zJ]) ?_;simp[mkS,mkB,zJ,zO];exact mv [0,1] 0 (by rfl) (by simp[zJ,zO])
 .have hc:=hc.resolve_left hF0;have hFl:0<F.length:=by cases F with
   |nil=>exact(hF0 rfl).elim
   |cons=>simp
  rcases hN with rfl|rfl
  all_goals
   refine mn qFB [] [.cell 8 15 true] func85 (by kernel_rfl) ?_
   (conv in zY _ _ _ _=>cbv)
   simp[mkS,mkB,zB];refine mr hnum [0,1] (by simp[mkS,mkB]) ?_;simp[mkS,mkB];refine mu hfit (by simp[zB]) ?_;simp[mkS,mkB,hl',hd',hF0,hFl,hc,w3,w36,hk,wd];intro _;refine mr ga [0,1] (by simp[mkS,mkB,zB]) ?_;simp[mkS,mkB,zB,wd];refine mr gb [0,1] (by simp[mkS,mkB,zB]) ?_;simp[mkS,mkB,zB,wd];refine aK gc [0,1] (by decide) (by simp[mkS,mkB]) (by simp[zB]) (by decide) (by simp) (by simp[mkS]) ?_;simp[mkS,mkB];refine bV (aT m3 5 0 [a,b,c] l3 (by omega) (by omega) l6) [0,1] (by decide) (by simp[mkS,mkB]) (by simp[zO,zJ]) ?_;simp[mkS,mkB,zJ,zO];exact mv [0,1] 0 (by rfl) (by simp[zJ,zO])
@[simp]theorem qBI{U:St}:oD 2002 U = U:=rfl
variable{s:ByteArray}
theorem eA:yT [s]=[.lit (.string s)]:=rfl
variable{s':ByteArray}
theorem eC:yT [s,s']=[.lit (.string s),.lit (.string s')]:=rfl
abbrev zSv:FuncId:=133
theorem zYM(hd1 : -1000<=depth)(hd2:depth<=1000)(hX0:0<=X)(hX1:X<65536)(hF:F.length<=1000)(hE0:0<env.length)(hE:env.length<=1000)
 (hnum:my zKg [.ptr 0 0,int 65536] (mkS m) (int X) (mkS m0))(hfit:my zJl [.sl env.length (qC env),.agg (zB t)] [] (.sl F.length (qC F)) [])(hleft:0<m0.left)(hd:0<depth)(hc:F=[]\/X.tmod 3≠0)(hk:(X.tdiv 3).tmod 12=2){j:Nat}(hj:j<env.length)(e1:(X.tdiv 36).tmod (env.length:Int)=j){m4:Mk}(ga:my bR [.ptr 0 0,.agg (zB env[j].typ),.sl env.length (qC env),int (depth-1)] (mkS m0) (.agg (zJ a)) (mkS m1))(hln:Lim m1 1)(hm2:m2={m1 with temp:=m1.temp+1,left:=m1.left-1})
 (gn:my zSv [.ptr 0 0] (mkS m2) (.lit (.string s)) (mkS m3))(gb:my bR [.ptr 0 0,.agg (zB t),.sl (env.length+1) (qC (env++[⟨⟨0,0,m1.temp⟩,0,env[j].typ⟩])),int (depth-1)] (mkS m3) (.agg (zJ b)) (mkS m4)) :
 my bR [.ptr 0 0,.agg (zB t),.sl env.length (qC env),int depth] (mkS m) (.agg (zJ (.mk ⟨0,0,m1.temp⟩ 6 0 Id.zero Typ.zero [a,b] [s]))) (mkS m4):=by
 have hl':¬m0.left<=0:=by omega
 have hd':¬depth<=0:=by omega
 have d3:X.tdiv 3=X / 3:=tdN hX0;have w3:=z8 (X.tdiv 3) (by omega);have d36:X.tdiv 36=X / 36:=tdN hX0;have w36:=z8 (X.tdiv 36) (by omega);have d12:(X.tdiv 3).tmod 12=(X.tdiv 3) % 12:=tmN (by omega);have wd:=z8 (depth-1) (by omega);obtain⟨l1,l2,l3,l4,l5,l6,l7,l8⟩:=hln;have hdr:=iA hj;have hdr4:List.drop (j*9+4) (qC env)=(cO env[j]++qC (env.drop (j+1))).drop 4:=by rw[<-jBc,hdr]
 have hb4:j*9+4+5<=env.length*9:=by omega
 have hne:¬((env.length:Int)=0):=by omega
 have hnil:env≠[]:=fun e=>by rw[e]at hE0;simp at hE0
 have hnode:=aT m1 6 0 [] l3 (by omega) (by omega) l6;rw[<-hm2]at hnode;rcases hc with hc|hc
 .subst hc;refine mn qFB [] [.cell 8 15 true] func85 (by kernel_rfl) ?_
  (conv in zY _ _ _ _=>cbv)
  simp[mkS,mkB,zB];refine mr hnum [0,1] (by simp[mkS,mkB]) ?_;simp[mkS,mkB];refine mu hfit (by simp[zB]) ?_;simp[mkS,mkB,hl',hd',w3,w36,hk,wd,e1,hne,hnil,hj,hdr4,hb4,cO];intro _;refine mr ga [0,1] (by simp[mkS,mkB,zB]) ?_;simp[mkS,mkB];refine mr hnode [0,1] (by simp[mkS,mkB]) ?_;simp[mkS,mkB,zJ];refine mr gn [0,1] (by simp[mkS,mkB]) ?_;simp[mkS,mkB];refine qA (lY env ⟨⟨0,0,m1.temp⟩,0,env[j].typ⟩ (by omega)) (by simp[cO]) (by simp) ?_;simp[mkS,mkB,wd];refine aK gb [0,1] (by decide) (by simp[mkS,mkB]) (by simp[zB]) (by decide) (by simp) (by simp[mkS]) ?_;simp[mkS,mkB];exact mv [0,1] 0 (by rfl) (by simp[zJ,zO,eA,eC])
 .by_cases hF0:F=[]
  .subst hF0;refine mn qFB [] [.cell 8 15 true] func85 (by kernel_rfl) ?_
   (conv in zY _ _ _ _=>cbv)
   simp[mkS,mkB,zB];refine mr hnum [0,1] (by simp[mkS,mkB]) ?_;simp[mkS,mkB];refine mu hfit (by simp[zB]) ?_;simp[mkS,mkB,hl',hd',w3,w36,hk,wd,e1,hne,hnil,hj,hdr4,hb4,cO];intro _;refine mr ga [0,1] (by simp[mkS,mkB,zB]) ?_;simp[mkS,mkB];refine mr hnode [0,1] (by simp[mkS,mkB]) ?_;simp[mkS,mkB,zJ];refine mr gn [0,1] (by simp[mkS,mkB]) ?_;simp[mkS,mkB];refine qA (lY env ⟨⟨0,0,m1.temp⟩,0,env[j].typ⟩ (by omega)) (by simp[cO]) (by simp) ?_;simp[mkS,mkB,wd];refine aK gb [0,1] (by decide) (by simp[mkS,mkB]) (by simp[zB]) (by decide) (by simp) (by simp[mkS]) ?_;simp[mkS,mkB];exact mv [0,1] 0 (by rfl) (by simp[zJ,zO,eA,eC])
  .have hFl:0<F.length:=by cases F with
    |nil=>exact(hF0 rfl).elim
    |cons=>simp
   refine mn qFB [] [.cell 8 15 true] func85 (by kernel_rfl) ?_
   (conv in zY _ _ _ _=>cbv)
   simp[mkS,mkB,zB];refine mr hnum [0,1] (by simp[mkS,mkB]) ?_;simp[mkS,mkB];refine mu hfit (by simp[zB]) ?_;simp[mkS,mkB,hl',hd',hF0,hFl,hc,w3,w36,hk,wd,e1,hne,hnil,hj,hdr4,hb4,cO];intro _;intro _;refine mr ga [0,1] (by simp[mkS,mkB,zB]) ?_;simp[mkS,mkB];refine mr hnode [0,1] (by simp[mkS,mkB]) ?_;simp[mkS,mkB,zJ];refine mr gn [0,1] (by simp[mkS,mkB]) ?_;simp[mkS,mkB];refine qA (lY env ⟨⟨0,0,m1.temp⟩,0,env[j].typ⟩ (by omega)) (by simp[cO]) (by simp) ?_;simp[mkS,mkB,wd];refine aK gb [0,1] (by decide) (by simp[mkS,mkB]) (by simp[zB]) (by decide) (by simp) (by simp[mkS]) ?_;simp[mkS,mkB];exact mv [0,1] 0 (by rfl) (by simp[zJ,zO,eA,eC])
theorem zUk(hd1 : -1000<=depth)(hd2:depth<=1000)(hX0:0<=X)(hX1:X<65536)(hF:F.length<=1000)(hE0:0<env.length)(hE:env.length<=1000)
 (hnum:my zKg [.ptr 0 0,int 65536] (mkS m) (int X) (mkS m0))(hfit:my zJl [.sl env.length (qC env),.agg (zB t)] [] (.sl F.length (qC F)) [])(hleft:0<m0.left)(hd:0<depth)(hc:F=[]\/X.tmod 3≠0)(hk:(X.tdiv 3).tmod 12=8){c:Exp}{m4 m5 m6:Mk}(ga:my bR [.ptr 0 0,.agg (zB (j8 jK)),.sl env.length (qC env),int (depth-1)] (mkS m0) (.agg (zJ a)) (mkS m1))(gb:my bR [.ptr 0 0,.agg (zB t),.sl env.length (qC env),int (depth-1)] (mkS m1) (.agg (zJ b)) (mkS m2))(hln:Lim m2 1)(hm3:m3={m2 with temp:=m2.temp+1,left:=m2.left-1})
 (gn:my zSv [.ptr 0 0] (mkS m3) (.lit (.string s)) (mkS m4))(gn':my zSv [.ptr 0 0] (mkS m4) (.lit (.string s')) (mkS m5))(gc:my bR [.ptr 0 0,.agg (zB t),.sl (env.length+1+1) (qC (env++[⟨⟨0,0,m2.temp⟩,0,jK⟩]++[⟨⟨0,0,m2.temp⟩,1,t⟩])),int (depth-1)] (mkS m5) (.agg (zJ c)) (mkS m6)) :
 my bR [.ptr 0 0,.agg (zB t),.sl env.length (qC env),int depth] (mkS m) (.agg (zJ (.mk ⟨0,0,m2.temp⟩ 12 0 Id.zero Typ.zero [a,b,c] [s,s']))) (mkS m6):=by
 have hl':¬m0.left<=0:=by omega
 have hd':¬depth<=0:=by omega
 have d3:X.tdiv 3=X / 3:=tdN hX0;have w3:=z8 (X.tdiv 3) (by omega);have d36:X.tdiv 36=X / 36:=tdN hX0;have w36:=z8 (X.tdiv 36) (by omega);have d12:(X.tdiv 3).tmod 12=(X.tdiv 3) % 12:=tmN (by omega);have wd:=z8 (depth-1) (by omega);obtain⟨l1,l2,l3,l4,l5,l6,l7,l8⟩:=hln;have hnode:=aT m2 12 0 [] l3 (by omega) (by omega) l6;rw[<-hm3]at hnode;rcases hc with hc|hc
 .subst hc;refine mn qFB [] [.cell 8 15 true] func85 (by kernel_rfl) ?_
  (conv in zY _ _ _ _=>cbv)
  simp[mkS,mkB,zB];refine mr hnum [0,1] (by simp[mkS,mkB]) ?_;simp[mkS,mkB];refine mu hfit (by simp[zB]) ?_;simp[mkS,mkB,hl',hd',w3,w36,hk,wd];refine mu zEC (by simp[zB,jK]) ?_;simp[mkS,mkB,wd];refine mr ga [0,1] (by simp[mkS,mkB,zB]) ?_;simp[mkS,mkB,zB,wd];refine mr gb [0,1] (by simp[mkS,mkB,zB]) ?_;simp[mkS,mkB];refine mr hnode [0,1] (by simp[mkS,mkB]) ?_;simp[mkS,mkB,zJ];refine mr gn [0,1] (by simp[mkS,mkB]) ?_;simp[mkS,mkB];refine mr gn' [0,1] (by simp[mkS,mkB]) ?_;simp[mkS,mkB];refine qA (lY env ⟨⟨0,0,m2.temp⟩,0,jK⟩ (by omega)) (by simp[cO,jK,Id.zero]) (by simp) ?_;simp[mkS,mkB,zB];refine qA (lY (env++[⟨⟨0,0,m2.temp⟩,0,jK⟩]) ⟨⟨0,0,m2.temp⟩,1,t⟩ (by simp;omega)) (by simp[cO]) (by simp) ?_;simp[mkS,mkB,zB,wd];refine aK gc [0,1] (by decide) (by simp[mkS,mkB]) (by simp[zB]) (by decide) (by simp) (by simp[mkS]) ?_;simp[mkS,mkB];exact mv [0,1] 0 (by rfl) (by simp[zJ,zO,eA,eC])
 .by_cases hF0:F=[]
  .subst hF0;refine mn qFB [] [.cell 8 15 true] func85 (by kernel_rfl) ?_
   (conv in zY _ _ _ _=>cbv)
   simp[mkS,mkB,zB];refine mr hnum [0,1] (by simp[mkS,mkB]) ?_;simp[mkS,mkB];refine mu hfit (by simp[zB]) ?_;simp[mkS,mkB,hl',hd',w3,w36,hk,wd];refine mu zEC (by simp[zB,jK]) ?_;simp[mkS,mkB,wd];refine mr ga [0,1] (by simp[mkS,mkB,zB]) ?_;simp[mkS,mkB,zB,wd];refine mr gb [0,1] (by simp[mkS,mkB,zB]) ?_;simp[mkS,mkB];refine mr hnode [0,1] (by simp[mkS,mkB]) ?_;simp[mkS,mkB,zJ];refine mr gn [0,1] (by simp[mkS,mkB]) ?_;simp[mkS,mkB];refine mr gn' [0,1] (by simp[mkS,mkB]) ?_;simp[mkS,mkB];refine qA (lY env ⟨⟨0,0,m2.temp⟩,0,jK⟩ (by omega)) (by simp[cO,jK,Id.zero]) (by simp) ?_;simp[mkS,mkB,zB];refine qA (lY (env++[⟨⟨0,0,m2.temp⟩,0,jK⟩]) ⟨⟨0,0,m2.temp⟩,1,t⟩ (by simp;omega)) (by simp[cO]) (by simp) ?_;simp[mkS,mkB,zB,wd];refine aK gc [0,1] (by decide) (by simp[mkS,mkB]) (by simp[zB]) (by decide) (by simp) (by simp[mkS]) ?_;simp[mkS,mkB];exact mv [0,1] 0 (by rfl) (by simp[zJ,zO,eA,eC])
  .have hFl:0<F.length:=by cases F with
    |nil=>exact(hF0 rfl).elim
    |cons=>simp
   refine mn qFB [] [.cell 8 15 true] func85 (by kernel_rfl) ?_
   (conv in zY _ _ _ _=>cbv)
   simp[mkS,mkB,zB];refine mr hnum [0,1] (by simp[mkS,mkB]) ?_;simp[mkS,mkB];refine mu hfit (by simp[zB]) ?_;simp[mkS,mkB,hl',hd',hF0,hFl,hc,w3,w36,hk,wd];intro _;refine mu zEC (by simp[zB,jK]) ?_;simp[mkS,mkB,wd];refine mr ga [0,1] (by simp[mkS,mkB,zB]) ?_;simp[mkS,mkB,zB,wd];refine mr gb [0,1] (by simp[mkS,mkB,zB]) ?_;simp[mkS,mkB];refine mr hnode [0,1] (by simp[mkS,mkB]) ?_;simp[mkS,mkB,zJ];refine mr gn [0,1] (by simp[mkS,mkB]) ?_;simp[mkS,mkB];refine mr gn' [0,1] (by simp[mkS,mkB]) ?_;simp[mkS,mkB];refine qA (lY env ⟨⟨0,0,m2.temp⟩,0,jK⟩ (by omega)) (by simp[cO,jK,Id.zero]) (by simp) ?_;simp[mkS,mkB,zB];refine qA (lY (env++[⟨⟨0,0,m2.temp⟩,0,jK⟩]) ⟨⟨0,0,m2.temp⟩,1,t⟩ (by simp;omega)) (by simp[cO]) (by simp) ?_;simp[mkS,mkB,zB,wd];refine aK gc [0,1] (by decide) (by simp[mkS,mkB]) (by simp[zB]) (by decide) (by simp) (by simp[mkS]) ?_;simp[mkS,mkB];exact mv [0,1] 0 (by rfl) (by simp[zJ,zO,eA,eC])
end Go.Proofs.YtdnelmeboihpkaaGreatDoor

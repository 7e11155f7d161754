/- The reference's evaluator: lists of nodes, bodies. -/
import Derived.Test.YtdnelmeboihpkaaGreatDoorX16
import Derived.RecoverIn
import Derived.Tactics
import Derived.Tactics2
set_option linter.unusedVariables false
set_option maxHeartbeats 8000000
set_option maxRecDepth 100000
set_option linter.unusedSimpArgs false
namespace Go.Proofs.YtdnelmeboihpkaaGreatDoor
open Go.Abs
def uS(p:Prg)(F:Int)(s:XS):St:=[.box (zP p++[int F,int (F-s.fuel),int s.fail])]
abbrev UOk(p:Prg)(F:Int)(r:Val×XS)(e:Exp)(V:wO)(s:XS):Prop:=mv 171 [.ptr 0 0,.agg (zI e),.sl V.length (y3 V)] (uS p F s) (.agg (zF r.1)) (uS p F r.2)
structure UIh(p:Prg)(F:Int)(c:Nat)(m:Int)(ev:Evl):Prop where
 stop:pR ev
 snd:Snd p ev
 bd:∀e V s,Bn c m s->Bd c m (ev e V s).2
 ok:∀e V s,Adm p e V s->Bn c m s->V.length+2*m<=100000->UOk p F (ev e V s) e V s
section
variable{p:Prg}{F:Int}{c:Nat}{m:Int}{ev:Evl}{e:Exp}{V:wO}{s:XS}
theorem zCe(h:UIh p F c m ev)(ks:wG)(hk6:ks.length<=32768)(hA:∀k∈ks,∀s,Adm p k V s)(hB:Bd c m s)(hV:V.length+2*m<=100000) :
 mv 199 [.ptr 0 0,.sl ks.length (qT ks),.sl V.length (y3 V)] (uS p F s) (.sl (jJ ev V ks s).1.length (zR (jJ ev V ks s).1)) (uS p F (jJ ev V ks s).2):=by
 have hP:=eP p;refine ml [] [.slot 6] Tryz.func199 (by kernel_rfl) ?_
 (conv in kq _ _=>cbv)
 have hst:∀i,Bd c m (jJ ev V (ks.take i) s).2:=fun i=>zDW h.bd V _ _ hB
 have hln:∀i,i<=ks.length->(jJ ev V (ks.take i) s).1.length=i:=fun i hi=>by rw[fZ,jAs];omega
 have h00:jJ ev V [] s=([],s):=rfl;simp[uS,hP];refine qK (S:=Nat) (fun i=>[(0,.ptr 0 0),(1,.sl ks.length (qT ks)),(2,.sl V.length (y3 V)),(7,.row 1 i),(8,int i)])
  (fun i=>uS p F (jJ ev V (ks.take i) s).2++[.row false 46 3 i (zR (jJ ev V (ks.take i) s).1)]) (fun i=>i<=ks.length) (fun i=>ks.length-i) 0 (by simp)
  ((qS (t:=7) (by simp) 46 3).trans (mu [0,1] 0 (by rfl) (by simp[uS,hP,h00]))) ?_
 intro i hi;by_cases hil:i<ks.length
 .have hr:=h.ok ks[i] V (jJ ev V (ks.take i) s).2 (hA _ (jA0 hil) _) (hst i).bn hV;have hsn:=xJ ev V ks[i] (ks.take i) s;rw[<-jA6 hil]at hsn;have hdr:=y5 hil;have hln:=hln i hi;have hw:=jZ i (by omega);generalize hFn:jJ ev V (ks.take (i+1)) s=Fn at hsn;subst hsn;generalize hFi:jJ ev V (ks.take i) s=Fi at *
  obtain⟨vs,si⟩:=Fi;simp only at *
  generalize ev ks[i] V si=rk at *
  obtain⟨v,sk⟩:=rk;simp only at *
  simp[uS,hP,hil,hdr,hFi,zI];intro _;refine mn hr [0] (by simp[uS,hP,zI]) ?_;simp[uS,hP,zF];refine⟨⟨by simp[maxLen];omega,by omega⟩,?_⟩;exact zO (i+1) hil (by omega) (mu [0,1] 0 (by rfl) (by simp[uS,hP,hFn,aY,hw]))
 .have hil:i=ks.length:=by omega
  subst hil;have htk:ks.take ks.length=ks:=jAt;have hln:=hln _ (jA _);rw[htk]at hln ⊢;generalize jJ ev V ks s=F at *
  obtain⟨vs,si⟩:=F;simp only at *
  simp[uS,hP];exact fun _=>mr [0] 1 (by rfl) (by simp[hln])
theorem zLj(h:UIh p F c m ev)(hc:c<=100000)(d:Dfn)(vs:wI)(hvl:vs.length<=1000000)(hd6:d.slots.length<=6)
 (hA:s.fail=0->Adm p d.body (cN d.slots vs) {s with ds:=s.ds++[d.id]})(hm:6+2*m<=100000)(hB:Bd c m s) :
 mv 142 [.ptr 0 0,.agg (zJ d),.sl vs.length (zR vs)] (uS p F s) (.agg (zF (b7 ev d vs s).1)) (uS p F (b7 ev d vs s).2):=by
 have hP:=eP p;have hel:(cN d.slots vs).length<=d.slots.length:=by simp[cN];omega
 have hlen:(cN d.slots vs).length=min d.slots.length vs.length:=by simp[cN]
 obtain⟨s1,hs1,he⟩:∃s1:XS,uS p F s=uS p F s1/\UOk p F (b7 ev d vs s) d.body (cN d.slots vs) s1:=by
  by_cases hf:s.fail=0
  .refine⟨{s with ds:=s.ds++[d.id]},rfl,?_⟩;have hx:b7 ev d vs s=ev d.body (cN d.slots vs) {s with ds:=s.ds++[d.id]}:=by unfold b7;rw[if_neg (by simp[hf])]
   rw[hx];exact h.ok _ _ _ (hA hf) (hB.def d.id hf) (by omega)
  .refine⟨s,rfl,?_⟩;have hx:b7 ev d vs s=ev d.body (cN d.slots vs) s:=by unfold b7;rw[if_pos hf,h.stop _ _ _ hf]
   rw[hx];exact h.ok _ _ _ (.bad hf) hB.bn (by omega)
 rw[hs1];generalize b7 ev d vs s=r at *
 refine ml [] [.cell 6 3 true] Tryz.func142 (by kernel_rfl) ?_
 (conv in kq _ _=>cbv)
 simp[uS,hP,zJ];have h0:y3 []=[]:=rfl;refine qK (S:=Nat) (fun i=>[(0,.ptr 0 0),(2,.sl vs.length (zR vs)),(4,.ptr 1 0),(6,.ptr 2 0),(7,.sl i (y3 ((cN d.slots vs).take i))),(8,int i)])
  (fun i=>uS p F s1++[.box (zJ d),.box [int 0,int 0,.nil]]) (fun i=>i<=(cN d.slots vs).length) (fun i=>(cN d.slots vs).length-i) 0 (by simp)
  (mu [0,1,2] 0 (by rfl) (by simp[uS,hP,zJ,h0])) ?_
 intro i hi;have hw:=jZ i (by omega);by_cases hil:i<(cN d.slots vs).length
 .have his:i<d.slots.length:=by omega
  have hiv:i<vs.length:=by omega
  have hdr:=qZ his;have hdv:=qL hiv;have htk:(cN d.slots vs).take (i+1)=(cN d.slots vs).take i++[⟨d.slots[i].id,0,vs[i]⟩]:=by rw[jA6 hil];simp[cN]
  have hwi:=xB ((cN d.slots vs).take i) ⟨d.slots[i].id,0,vs[i]⟩ (by simp;omega);rw[<-htk,jAs,jAv hi]at hwi;simp[uS,hP,zJ,his,hiv,hdr,hdv,j8]
  intros
  refine z7 hwi (by simp[zK,zF]) (by simp) ?_;simp;exact zO (i+1) hil (by omega) (mu [0,1,2] 0 (by rfl) (by simp[uS,hP,zJ,hw]))
 .have hie:i=(cN d.slots vs).length:=by omega
  subst hie;rw[jAt];have hno:¬((cN d.slots vs).length<d.slots.length/\(cN d.slots vs).length<vs.length):=by omega
  by_cases c1:(cN d.slots vs).length<d.slots.length
  .have c2:¬(cN d.slots vs).length<vs.length:=fun h=>hno ⟨c1,h⟩
   simp[uS,hP,zJ,c1,c2]
   intros
   refine mn he [0] (by simp[uS,hP,zI]) ?_;simp[uS,hP,zF];exact mr [0] 0 (by rfl) (by simp[zF])
  .simp[uS,hP,zJ,c1]
   intros
   refine mn he [0] (by simp[uS,hP,zI]) ?_;simp[uS,hP,zF];exact mr [0] 0 (by rfl) (by simp[zF])
end
section
variable{p:Prg}{c:Nat}{m:Int}{ev:Evl}{e:Exp}{V:wO}{s:XS}
section
end
end
variable{p:Prg}{hs:wP}
theorem zUZ(hf:Fit p hs){r:Nat}{t:Typ}(ht:TyOk hs r t){x:Id}:Nam t x->x∈p.defs.map Dfn.id:=by
 induction ht with
 |int r=>intro hx;cases hx with
  |here _ h=>simp at h
  |kid _ k x h=>simp at h
 |bool r=>intro hx;cases hx with
  |here _ h=>simp at h
  |kid _ k x h=>simp at h
 |list r t h ih=>intro hx;cases hx with
  |here _ h=>simp at h
  |kid _ k x h hx' =>
   simp only[Typ.kids_mk,jAp]at h;subst h;exact ih hx'
 |dfn r k h h1 h2 h3 h4 ih=>intro hx;cases hx with
  |here _ h' =>
   obtain⟨d,hd,_⟩:=hf.hd k h;obtain⟨a,b⟩:=aV hd;exact jAd.2 ⟨d,a,b⟩
  |kid _ k x h=>simp at h
structure RS(p:Prg)(L:List Id):Prop where
 ss:SS L
 sub:∀x∈L,x∈p.defs.map Dfn.id
variable{L:wF}
theorem RS.len(hf:Fit p hs)(h:RS p L):L.length<=100:=by
 have hn:L.Nodup:=by have:=h.ss;unfold SS at this;exact this.imp fun {a b} hab e=>by subst e;simp[cC]at hab
 have:=hn.length_le_of_subset (l₂:=p.defs.map Dfn.id) h.sub;have:=hf.len8;simp at *
 omega
theorem RS.nam(hf:Fit p hs)(h:RS p L){r:Nat}{t:Typ}(ht:TyOk hs r t):RS p (zK1 t L) :=
 ⟨zOf t L h.ss,fun x hx=>by
  rcases (zK2 t L x).1 hx with hx|hx
  .exact h.sub x hx
  .exact zUZ hf ht hx⟩
theorem RS.fold{p:Prg} {α:Type}(g : α->List Id->wF):∀(l:List α) (L:wF),(∀a∈l,∀L,RS p L->RS p (g a L))->RS p L->RS p (l.foldl (fun L a=>g a L) L)
 |[],L,_,h=>h
 |a::l,L,hg,h=>by rw[jBh];exact RS.fold g l _ (fun b hb=>hg b (by simp[hb])) (hg a (by simp) L h)
section
variable{p:Prg}{F m:Int}{ev:Evl}{B:wJ}{e:Exp}{V:wO}{v:Val}{s:XS}
def qFW:Nat->Option wD:=fun|10=>k_ [0,2,0,0,0,0,10,10,0] | 12=>k_ [2,2,0,0,0,0,10,0,0] | 16=>k_ [2,2,0,0,0,0,10,0,0] | 19=>k_ [0,2,0,0,0,0,0,0,0,10,10,0]|_=>none
noncomputable def uJ:{k:K//K.chg [43,53,71,87] [] (zV Tryz.prog Tryz.f150 qFW [(9,[2,3,4,5,6])])=k}:=⟨_,by conv=>lhs;cbv⟩
theorem uX:kv Tryz.f150 qFW uJ.1:=mw (by kernel_rfl)
abbrev VaE(p:Prg)(F:Int)(e:Exp)(V:wO)(s:XS)(r:Val×XS):Prop:=RP 150 [.ptr 0 0,.agg (zI e),scE V] p F s (.agg (zF r.1)) r.2
abbrev AlE(p:Prg)(F:Int)(e:Exp)(V:wO)(s:XS)(r:wI×XS):Prop:=RP 176 [.ptr 0 0,.sl e.kids.length (qT e.kids),scE V] p F s (.sl e.kids.length (zR r.1)) r.2
@[simp]theorem qBo{U:St}:oR 2 U = []:=rfl
theorem zUz(hs:s.fail=0)(hk:e.k=0):VaE p F e V s (.mk 0 e.n [],s):=by
 have hP:=eP p;refine⟨fun _=>?_,fun hf=>(hf hs).elim⟩;refine zN Tryz.func150 rfl uX (rs:=[.cell 6 3 true]) (by kernel_rfl) ?_
 simp only[uJ]
 simp[eS,hP,zI,hk];exact mr [0] 0 (by rfl) (by simp[zF,qD,zX,zL])
theorem zRG(hs:s.fail=0)(hk:e.k=1)(hn:e.n=0\/e.n=1):VaE p F e V s (.mk 1 e.n [],s):=by
 have hP:=eP p;have ht:eI (decide (¬e.n=0))=.mk 1 e.n []:=by rcases hn with h|h<;>rw[h]<;>rfl
 refine⟨fun _=>?_,fun hf=>(hf hs).elim⟩;have hb:=fK (decide (¬e.n=0));rw[ht]at hb;refine zN Tryz.func150 rfl uX (rs:=[.cell 6 3 true]) (by kernel_rfl) ?_
 simp only[uJ]
 simp[eS,hP,zI,hk];refine mq hb (by simp[zF]) ?_;simp[eS,hP,zF];exact mr [0] 0 (by rfl) (by simp[zF,qD,zX,zL])
theorem zU1(hs:s.fail=0)(hk:e.k=2):VaE p F e V s (lX V e.ref e.n,s):=by
 have hP:=eP p;have hfi:=zR8 V.reverse e.ref e.n;have hfe:zDw V.reverse e.ref e.n=lX V e.ref e.n:=rfl;rw[hfe]at hfi;generalize lX V e.ref e.n=v at *
 refine⟨fun _=>?_,fun hf=>(hf hs).elim⟩;refine zN Tryz.func150 rfl uX (rs:=[.cell 6 3 true]) (by kernel_rfl) ?_
 simp only[uJ]
 simp[eS,hP,zI,hk];refine mq hfi (by simp[zK,zF]) ?_;simp[eS,hP,zF];exact mr [0] 0 (by rfl) (by simp[zF,qD,zX,zL])
variable{r:Val×XS}
theorem zYZ{a:Exp}{ks:wG}(hk:e.k=5\/e.k=6\/e.k=8\/e.k=10\/e.k=12)(hks:e.kids=a::ks){r1:Val×XS}(ha:zGg p F a V s r1)(hb:r1.2.fail=0->BrE p F e V r1.1 r1.2 r)(hx:r1.2.fail≠0->r.2=r1.2):VaE p F e V s r:=by
 have hP:=eP p;have hk0:¬e.k=0:=by omega
 have hk1:¬e.k=1:=by omega
 have hk2:¬e.k=2:=by omega
 have hk3:¬e.k=3:=by omega
 have hk4:¬e.k=4:=by omega
 have hk7:¬e.k=7:=by omega
 have hk9:¬e.k=9:=by omega
 have hk11:¬e.k=11:=by omega
 have h15:=zQ a ks;by_cases h1:r1.2.fail=0
 .have hb:=hb h1;have ha:=ha.ret h1;constructor
  .intro hf;refine zN Tryz.func150 rfl uX (rs:=[.cell 6 3 true]) (by kernel_rfl) ?_
   simp only[uJ]
   simp[eS,hP,zI,hk0,hk1,hk2,hk3,hk4,hk7,hk9,hk11];refine⟨_,_,zM (l:=[(0,.ptr 0 0),(2,scE V),(4,.rptr [int e.id.a,int e.id.b,int e.id.c,int e.k,int e.n,int e.ref.a,int e.ref.b,int e.ref.c,int e.typ.k,int e.typ.id.a,int e.typ.id.b,int e.typ.id.c,.sl e.typ.kids.length (jQ e.typ.kids),.sl e.kids.length (qT e.kids),.sl e.names.length (yR e.names)]),(6,.ptr 1 0)]) (U':=eS p F s++[.box [int 0,int 0,.nil]]) [0,2] 1 (by decide) (by simp) (by simp[eS,hP]) (by simp[eS,hP,zI]),?_⟩;simp[eS,hP,zI,hks,h15];refine iL ha [0] (by decide) (by simp[eS,hP]) (by simp[zI]) ?_;simp[eS,hP,zF];refine iL (hb.ret hf) [0] (by decide) (by simp[eS,hP]) (by simp[zI,zF,hks,h15]) ?_;simp[eS,hP,zF];exact mr [0] 0 (by rfl) (by simp[zF,qD,zX,zL])
  .intro hf;refine bL Tryz.func150 rfl uX (rs:=[.cell 6 3 true]) (by kernel_rfl) ?_
   simp only[uJ];unfold wpF
   simp[eS,hP,zI,hk0,hk1,hk2,hk3,hk4,hk7,hk9,hk11];refine⟨_,_,zM (l:=[(0,.ptr 0 0),(2,scE V),(4,.rptr [int e.id.a,int e.id.b,int e.id.c,int e.k,int e.n,int e.ref.a,int e.ref.b,int e.ref.c,int e.typ.k,int e.typ.id.a,int e.typ.id.b,int e.typ.id.c,.sl e.typ.kids.length (jQ e.typ.kids),.sl e.kids.length (qT e.kids),.sl e.names.length (yR e.names)]),(6,.ptr 1 0)]) (U':=eS p F s++[.box [int 0,int 0,.nil]]) [0,2] 1 (by decide) (by simp) (by simp[eS,hP]) (by simp[eS,hP,zI]),?_⟩;simp[eS,hP,zI,hks,h15];refine iL ha [0] (by decide) (by simp[eS,hP]) (by simp[zI]) ?_;simp[eS,hP,zF];refine nM (hb.pan hf) [0] (by decide) (by simp[eS,hP]) (by simp[zI,zF,hks,h15]) fun τ=>?_
   simp
 .unfold VaE;rw[hx h1];refine⟨fun hf=>(h1 hf).elim,fun hf=>?_⟩;refine bL Tryz.func150 rfl uX (rs:=[.cell 6 3 true]) (by kernel_rfl) ?_
  simp only[uJ];unfold wpF
  simp[eS,hP,zI,hk0,hk1,hk2,hk3,hk4,hk7,hk9,hk11];refine⟨_,_,zM (l:=[(0,.ptr 0 0),(2,scE V),(4,.rptr [int e.id.a,int e.id.b,int e.id.c,int e.k,int e.n,int e.ref.a,int e.ref.b,int e.ref.c,int e.typ.k,int e.typ.id.a,int e.typ.id.b,int e.typ.id.c,.sl e.typ.kids.length (jQ e.typ.kids),.sl e.kids.length (qT e.kids),.sl e.names.length (yR e.names)]),(6,.ptr 1 0)]) (U':=eS p F s++[.box [int 0,int 0,.nil]]) [0,2] 1 (by decide) (by simp) (by simp[eS,hP]) (by simp[eS,hP,zI]),?_⟩;simp[eS,hP,zI,hks,h15];refine nM (ha.pan hf) [0] (by decide) (by simp[eS,hP]) (by simp[zI]) fun τ=>?_
  simp
variable{vs:wI}{s1:XS}
theorem zU0(hk:e.k=7)(hl:vs.length=e.kids.length)(ha:AlE p F e V s (vs,s1)):VaE p F e V s (.mk 2 0 vs,s1):=by
 have hP:=eP p;constructor
 .intro hf;refine zN Tryz.func150 rfl uX (rs:=[.cell 6 3 true]) (by kernel_rfl) ?_
  simp only[uJ]
  simp[eS,hP,zI,hk];refine mn (ha.ret hf) [0] (by simp[eS,hP]) ?_;simp[eS,hP,zF];exact mr [0] 0 (by rfl) (by simp[zF,qD,zX,zL,hl])
 .intro hf;refine bL Tryz.func150 rfl uX (rs:=[.cell 6 3 true]) (by kernel_rfl) ?_
  simp only[uJ];unfold wpF
  simp[eS,hP,zI,hk];refine zBm (ha.pan hf) [0] (by decide) (by simp[eS,hP]) (by simp) fun τ=>?_
  simp
theorem zRJ(hk:e.k=11)(hl:vs.length=e.kids.length)(ha:AlE p F e V s (vs,s1)):VaE p F e V s (.mk 4 0 vs,s1):=by
 have hP:=eP p;constructor
 .intro hf;refine zN Tryz.func150 rfl uX (rs:=[.cell 6 3 true]) (by kernel_rfl) ?_
  simp only[uJ]
  simp[eS,hP,zI,hk];refine mn (ha.ret hf) [0] (by simp[eS,hP]) ?_;simp[eS,hP,zF];exact mr [0] 0 (by rfl) (by simp[zF,qD,zX,zL,hl])
 .intro hf;refine bL Tryz.func150 rfl uX (rs:=[.cell 6 3 true]) (by kernel_rfl) ?_
  simp only[uJ];unfold wpF
  simp[eS,hP,zI,hk];refine zBm (ha.pan hf) [0] (by decide) (by simp[eS,hP]) (by simp) fun τ=>?_
  simp
theorem zRI(hk:e.k=9)(hl:vs.length=e.kids.length)(ha:AlE p F e V s (vs,s1)):VaE p F e V s (.mk 3 e.n vs,s1):=by
 have hP:=eP p;constructor
 .intro hf;refine zN Tryz.func150 rfl uX (rs:=[.cell 6 3 true]) (by kernel_rfl) ?_
  simp only[uJ]
  simp[eS,hP,zI,hk];refine⟨_,_,zM (l:=[(0,.ptr 0 0),(2,scE V),(4,.rptr [int e.id.a,int e.id.b,int e.id.c,int e.k,int e.n,int e.ref.a,int e.ref.b,int e.ref.c,int e.typ.k,int e.typ.id.a,int e.typ.id.b,int e.typ.id.c,.sl e.typ.kids.length (jQ e.typ.kids),.sl e.kids.length (qT e.kids),.sl e.names.length (yR e.names)]),(6,.ptr 1 0)]) (U':=eS p F s++[.box [int 0,int 0,.nil]]) [0,2] 1 (by decide) (by simp) (by simp[eS,hP]) (by simp[eS,hP,zI,hk]),?_⟩;simp[eS,hP,zI,hk];refine iL (ha.ret hf) [0] (by decide) (by simp[eS,hP]) (by simp) ?_;simp[eS,hP,zF];exact mr [0] 0 (by rfl) (by simp[zF,qD,zX,zL,hl])
 .intro hf;refine bL Tryz.func150 rfl uX (rs:=[.cell 6 3 true]) (by kernel_rfl) ?_
  simp only[uJ];unfold wpF
  simp[eS,hP,zI,hk];refine⟨_,_,zM (l:=[(0,.ptr 0 0),(2,scE V),(4,.rptr [int e.id.a,int e.id.b,int e.id.c,int e.k,int e.n,int e.ref.a,int e.ref.b,int e.ref.c,int e.typ.k,int e.typ.id.a,int e.typ.id.b,int e.typ.id.c,.sl e.typ.kids.length (jQ e.typ.kids),.sl e.kids.length (qT e.kids),.sl e.names.length (yR e.names)]),(6,.ptr 1 0)]) (U':=eS p F s++[.box [int 0,int 0,.nil]]) [0,2] 1 (by decide) (by simp) (by simp[eS,hP]) (by simp[eS,hP,zI,hk]),?_⟩;simp[eS,hP,zI,hk];refine nM (ha.pan hf) [0] (by decide) (by simp[eS,hP]) (by simp) fun τ=>?_
  simp
theorem zZa{ts:wS}{t:Typ}(hk:e.k=4)(ho:s1.fail=0->OpT e.n ts t/\TyL p ts vs/\∀v∈vs,qN v<=256)(hl:vs.length=e.kids.length)(ha:AlE p F e V s (vs,s1)):VaE p F e V s (opV e.n vs,s1):=by
 have hP:=eP p;constructor
 .intro hf;obtain⟨ho,hv,hs⟩:=ho hf;have hop:=zYW ho hv hs;generalize opV e.n vs=r at *
  refine zN Tryz.func150 rfl uX (rs:=[.cell 6 3 true]) (by kernel_rfl) ?_
  simp only[uJ]
  simp[eS,hP,zI,hk];refine⟨_,_,zM (l:=[(0,.ptr 0 0),(2,scE V),(4,.rptr [int e.id.a,int e.id.b,int e.id.c,int e.k,int e.n,int e.ref.a,int e.ref.b,int e.ref.c,int e.typ.k,int e.typ.id.a,int e.typ.id.b,int e.typ.id.c,.sl e.typ.kids.length (jQ e.typ.kids),.sl e.kids.length (qT e.kids),.sl e.names.length (yR e.names)]),(6,.ptr 1 0)]) (U':=eS p F s++[.box [int 0,int 0,.nil]]) [0,2] 1 (by decide) (by simp) (by simp[eS,hP]) (by simp[eS,hP,zI,hk]),?_⟩;simp[eS,hP,zI,hk];refine iL (ha.ret hf) [0] (by decide) (by simp[eS,hP]) (by simp) ?_;simp[eS,hP];refine z7 hop (by simp[hl]) (by simp[zF]) ?_;simp[eS,hP,zF];exact mr [0] 0 (by rfl) (by simp[zF,qD,zX,zL])
 .intro hf;refine bL Tryz.func150 rfl uX (rs:=[.cell 6 3 true]) (by kernel_rfl) ?_
  simp only[uJ];unfold wpF
  simp[eS,hP,zI,hk];refine⟨_,_,zM (l:=[(0,.ptr 0 0),(2,scE V),(4,.rptr [int e.id.a,int e.id.b,int e.id.c,int e.k,int e.n,int e.ref.a,int e.ref.b,int e.ref.c,int e.typ.k,int e.typ.id.a,int e.typ.id.b,int e.typ.id.c,.sl e.typ.kids.length (jQ e.typ.kids),.sl e.kids.length (qT e.kids),.sl e.names.length (yR e.names)]),(6,.ptr 1 0)]) (U':=eS p F s++[.box [int 0,int 0,.nil]]) [0,2] 1 (by decide) (by simp) (by simp[eS,hP]) (by simp[eS,hP,zI,hk]),?_⟩;simp[eS,hP,zI,hk];refine nM (ha.pan hf) [0] (by decide) (by simp[eS,hP]) (by simp) fun τ=>?_
  simp
theorem zRH{d:Dfn}(hk:e.k=3)(hd:jK p.defs e.ref=some d)(hl:vs.length=e.kids.length)(ha:AlE p F e V s (vs,s1))
 (hb:s1.fail=0->RP 72 [.ptr 0 0,.agg (zJ d),.sl vs.length (zR vs)] p F s1 (.agg (zF r.1)) r.2)(hx:s1.fail≠0->r.2=s1):VaE p F e V s r:=by
 have hP:=eP p;by_cases h1:s1.fail=0
 .have hb:=hb h1;have ha:=ha.ret h1;rw[hl]at hb;constructor
  .intro hf;refine zN Tryz.func150 rfl uX (rs:=[.cell 6 3 true]) (by kernel_rfl) ?_
   simp only[uJ]
   simp[eS,hP,zI,hk];refine yX (oE p e.ref) (by simp[zP,zK]) (by simp[bR]) ?_;simp[bR,hd,zJ];refine⟨_,_,zM (l:=[(0,.ptr 0 0),(2,scE V),(4,.rptr [int e.id.a,int e.id.b,int e.id.c,int e.k,int e.n,int e.ref.a,int e.ref.b,int e.ref.c,int e.typ.k,int e.typ.id.a,int e.typ.id.b,int e.typ.id.c,.sl e.typ.kids.length (jQ e.typ.kids),.sl e.kids.length (qT e.kids),.sl e.names.length (yR e.names)]),(6,.ptr 1 0),(7,.rptr (zJ d))]) (U':=eS p F s++[.box [int 0,int 0,.nil]]) [0,2] 1 (by decide) (by simp) (by simp[eS,hP]) (by simp[eS,hP,zI,zJ,hk]),?_⟩;simp[eS,hP,zI,zJ,hk];refine iL ha [0] (by decide) (by simp[eS,hP]) (by simp) ?_;simp[eS,hP];refine iL (hb.ret hf) [0] (by decide) (by simp[eS,hP]) (by simp[zJ]) ?_;simp[eS,hP,zF];exact mr [0] 0 (by rfl) (by simp[zF,qD,zX,zL])
  .intro hf;refine bL Tryz.func150 rfl uX (rs:=[.cell 6 3 true]) (by kernel_rfl) ?_
   simp only[uJ];unfold wpF
   simp[eS,hP,zI,hk];refine yX (oE p e.ref) (by simp[zP,zK]) (by simp[bR]) ?_;simp[bR,hd,zJ];refine⟨_,_,zM (l:=[(0,.ptr 0 0),(2,scE V),(4,.rptr [int e.id.a,int e.id.b,int e.id.c,int e.k,int e.n,int e.ref.a,int e.ref.b,int e.ref.c,int e.typ.k,int e.typ.id.a,int e.typ.id.b,int e.typ.id.c,.sl e.typ.kids.length (jQ e.typ.kids),.sl e.kids.length (qT e.kids),.sl e.names.length (yR e.names)]),(6,.ptr 1 0),(7,.rptr (zJ d))]) (U':=eS p F s++[.box [int 0,int 0,.nil]]) [0,2] 1 (by decide) (by simp) (by simp[eS,hP]) (by simp[eS,hP,zI,zJ,hk]),?_⟩;simp[eS,hP,zI,zJ,hk];refine iL ha [0] (by decide) (by simp[eS,hP]) (by simp) ?_;simp[eS,hP];refine nM (hb.pan hf) [0] (by decide) (by simp[eS,hP]) (by simp[zJ]) fun τ=>?_
   simp
 .unfold VaE;rw[hx h1];refine⟨fun hf=>(h1 hf).elim,fun hf=>?_⟩;refine bL Tryz.func150 rfl uX (rs:=[.cell 6 3 true]) (by kernel_rfl) ?_
  simp only[uJ];unfold wpF
  simp[eS,hP,zI,hk];refine yX (oE p e.ref) (by simp[zP,zK]) (by simp[bR]) ?_;simp[bR,hd,zJ];refine⟨_,_,zM (l:=[(0,.ptr 0 0),(2,scE V),(4,.rptr [int e.id.a,int e.id.b,int e.id.c,int e.k,int e.n,int e.ref.a,int e.ref.b,int e.ref.c,int e.typ.k,int e.typ.id.a,int e.typ.id.b,int e.typ.id.c,.sl e.typ.kids.length (jQ e.typ.kids),.sl e.kids.length (qT e.kids),.sl e.names.length (yR e.names)]),(6,.ptr 1 0),(7,.rptr (zJ d))]) (U':=eS p F s++[.box [int 0,int 0,.nil]]) [0,2] 1 (by decide) (by simp) (by simp[eS,hP]) (by simp[eS,hP,zI,zJ,hk]),?_⟩;simp[eS,hP,zI,zJ,hk];refine nM (ha.pan hf) [0] (by decide) (by simp[eS,hP]) (by simp) fun τ=>?_
  simp
end
section
variable{p:Prg}{F:Int}{c:Nat}{m:Int}{ev:Evl}{e:Exp}{V:wO}{s:XS}
def qGg:Nat->Option wD:=fun|10=>k_ [0,0,1,1,1,1,1,0,0,0,0,0,0] | 15=>k_ [2,2001,0,0,0,0,1001,0,0] | 30=>k_ [0,0,0,0,0,0,0,0,0,0,4,0] | 34=>k_ [0,0,0,0,0,0,0,0,0,0,0,0,0,0,0,0,0,0,4,0] | 39=>k_ [0,0,0,0,0,0,0,0,0,0,0,0,0,0,0,0,0,0,4,0]|_=>none
noncomputable def zAr:{k:K//zV Tryz.prog Tryz.f186 qGg []=k}:=⟨_,by conv=>lhs;cbv⟩
theorem zBl:kv Tryz.f186 qGg zAr.1:=mw (by kernel_rfl)
abbrev UVa(p:Prg)(F:Int)(e:Exp)(V:wO)(s:XS)(r:Val×XS):Prop:=mv 186 [.ptr 0 0,.agg (zI e),.sl V.length (y3 V)] (uS p F s) (.agg (zF r.1)) (uS p F r.2)
theorem zNh(hk:e.k=0):UVa p F e V s (.mk 0 e.n [],s):=by
 have hP:=eP p;refine zN Tryz.func186 rfl zBl (rs:=[.cell 6 3 true]) (by kernel_rfl) ?_
 simp only[zAr]
 simp[uS,hP,zI,hk];exact mr [0] 0 (by rfl) (by simp[zF,qD,zX,zL])
theorem zLk(hk:e.k=1):UVa p F e V s (.mk 1 e.n [],s):=by
 have hP:=eP p;refine zN Tryz.func186 rfl zBl (rs:=[.cell 6 3 true]) (by kernel_rfl) ?_
 simp only[zAr]
 simp[uS,hP,zI,hk];exact mr [0] 0 (by rfl) (by simp[zF,qD,zX,zL])
theorem zNj(hk:e.k=2)(hV:V.length<=1000000):UVa p F e V s (lX V e.ref e.n,s):=by
 have hP:=eP p;refine zN Tryz.func186 rfl zBl (rs:=[.cell 6 3 true]) (by kernel_rfl) ?_
 simp only[zAr]
 simp[uS,hP,zI,hk];refine mq (zTa V e.ref e.n hV) (by simp[zK,zF]) ?_;simp[zF];exact mr [0] 0 (by rfl) (by simp[zF])
section
variable{A:wI×XS}(hA:mv 199 [.ptr 0 0,.sl e.kids.length (qT e.kids),.sl V.length (y3 V)] (uS p F s) (.sl A.1.length (zR A.1)) (uS p F A.2))
include hA
theorem zNi(hk:e.k=7):UVa p F e V s (.mk 2 0 A.1,A.2):=by
 have hP:=eP p;refine zN Tryz.func186 rfl zBl (rs:=[.cell 6 3 true]) (by kernel_rfl) ?_
 simp only[zAr]
 simp[uS,hP,zI,hk];refine mn hA [0] (by simp[uS,hP]) ?_;simp[uS,hP];exact mr [0] 0 (by rfl) (by simp[zF,qD,zX,zL])
theorem zLn(hk:e.k=11):UVa p F e V s (.mk 4 0 A.1,A.2):=by
 have hP:=eP p;refine zN Tryz.func186 rfl zBl (rs:=[.cell 6 3 true]) (by kernel_rfl) ?_
 simp only[zAr]
 simp[uS,hP,zI,hk];refine mn hA [0] (by simp[uS,hP]) ?_;simp[uS,hP];exact mr [0] 0 (by rfl) (by simp[zF,qD,zX,zL])
theorem zLm(hk:e.k=9):UVa p F e V s (.mk 3 e.n A.1,A.2):=by
 have hP:=eP p;refine zN Tryz.func186 rfl zBl (rs:=[.cell 6 3 true]) (by kernel_rfl) ?_
 simp only[zAr]
 simp[uS,hP,zI,hk];refine aP hA [0] (by decide) (by simp[uS,hP]) (by simp) (by simp) (by simp) (by simp[uS]) ?_;simp[uS,hP];exact mr [0] 0 (by rfl) (by simp[zF,qD,zX,zL])
theorem zQo{v:Val}(hk:e.k=4)(hv:A.2.fail=0->v=opV e.n A.1/\∃ts t,OpT e.n ts t/\TyL p ts A.1/\∀v∈A.1,qN v<=256)(hz:A.2.fail≠0->v=vz):UVa p F e V s (v,A.2):=by
 have hP:=eP p;obtain⟨vs,s1⟩:=A;simp only at hA hv hz ⊢;refine zN Tryz.func186 rfl zBl (rs:=[.cell 6 3 true]) (by kernel_rfl) ?_
 simp only[zAr]
 simp[uS,hP,zI,hk];refine mn hA [0] (by simp[uS,hP]) ?_;by_cases hf:s1.fail=0
 .obtain⟨rfl,ts,t,ho,ht,hs⟩:=hv hf;simp[uS,hP,hf];refine mq (zZV ho ht hs) (by simp[zF]) ?_;simp[zF];exact mr [0] 0 (by rfl) (by simp[hf,zF])
 .obtain rfl:=hz hf;simp[uS,hP,hf];exact mr [0] 0 (by rfl) (by simp[zF,qD,zX,zL])
theorem zLl{d:Dfn}{r:Val×XS}(hL:p.defs.length<=1000000)(hk:e.k=3)(hd:jK p.defs e.ref=some d)
 (hb:mv 142 [.ptr 0 0,.agg (zJ d),.sl A.1.length (zR A.1)] (uS p F A.2) (.agg (zF r.1)) (uS p F r.2)):UVa p F e V s r:=by
 have hP:=eP p;refine zN Tryz.func186 rfl zBl (rs:=[.cell 6 3 true]) (by kernel_rfl) ?_
 simp only[zAr]
 simp[uS,hP,zI,hk];refine mn hA [0] (by simp[uS,hP]) ?_;simp[uS,hP];refine yX (i4 p hL e.ref) (by simp[zP,zK]) (by simp[bR]) ?_;simp[bR,hd,zJ];refine mn hb [0] (by simp[uS,hP,zJ]) ?_;simp[uS,hP,zF];exact mr [0] 0 (by rfl) (by simp[zF])
end
abbrev UBr(p:Prg)(F:Int)(ev:Evl)(e:Exp)(V:wO)(s:XS):Prop:=UVa p F e V s (j6 ev e V s)
variable{a:Exp}
theorem xF(h:UIh p F c m ev){ks:wG}(hk:e.k=5\/e.k=6\/e.k=8\/e.k=10\/e.k=12)(hks:e.kids=a::ks)(hA:Adm p a V s)(hB:Bn c m s)(hVl:V.length+2*m<=100000)(hf:(ev a V s).2.fail≠0):UBr p F ev e V s:=by
 have hr:=h.ok a V s hA hB hVl;have hx:j6 ev e V s=(vz,(ev a V s).2):=by unfold j6;rw[hks];simp[hf]
 unfold UBr;rw[hx];generalize ev a V s=r at hr hf;have n0:¬e.k=0:=by omega
 have n1:¬e.k=1:=by omega
 have n2:¬e.k=2:=by omega
 have n3:¬e.k=3:=by omega
 have n7:¬e.k=7:=by omega
 have n9:¬e.k=9:=by omega
 have n11:¬e.k=11:=by omega
 have n4:¬e.k=4:=by omega
 refine zN Tryz.func186 rfl zBl (rs:=[.cell 6 3 true]) (by kernel_rfl) ?_
 simp only[zAr]
 have hP:=eP p;simp[uS,hP,zI,hks,zQ,n0,n1,n2,n3,n7,n9,n11,n4];refine mn hr [0] (by simp[uS,hP,zI]) ?_;simp[uS,hP,zF,hf];exact mr [0] 0 (by rfl) (by simp[zF,qD,zX,zL])
variable{B:wJ}{b:Exp}{t:Typ}
theorem zVA(h:UIh p F c m ev){d:Exp}(hk:e.k=5)(hks:e.kids=[a,b,d])(ha:WE p B a jX)(hb:WE p B b t)(hd:WE p B d t)(hV:EnvT p B V)(hN:NdV V)(hB:Bn c m s)(hVl:V.length+2*m<=100000):UBr p F ev e V s:=by
 by_cases hf:(ev a V s).2.fail=0
 .have hr:=h.ok a V s (.of ha hV hN) hB hVl;have hB1:=(h.bd a V s hB).bn;have hty:=(h.snd a B V s _ ha hV hf).1.bool_inv;have hx:j6 ev e V s=ev (if (ev a V s).1.n=1 then b else d) V (ev a V s).2:=by unfold j6;rw[hks];simp only[jCy,hf,hk];by_cases hn:(ev a V s).1.n=1<;>simp[hn]
  unfold UBr;rw[hx];clear hx;generalize ev a V s=r at *
  obtain⟨v,s1⟩:=r;simp only at *
  have r1:=h.ok b V s1 (.of hb hV hN) hB1 hVl;have r2:=h.ok d V s1 (.of hd hV hN) hB1 hVl;obtain⟨x,rfl,hxx⟩:=hty;have w2:IntKind.i64.wrap 2=2:=by decide
  have w1:IntKind.i64.wrap 1=1:=by decide
  refine zN Tryz.func186 rfl zBl (rs:=[.cell 6 3 true]) (by kernel_rfl) ?_
  simp only[zAr]
  have hP:=eP p;simp[uS,hP,zI,hks,zQ,hk];refine mn hr [0] (by simp[uS,hP,zI]) ?_;rcases hxx with rfl|rfl
  .simp[uS,hP,zF,hf,qD,zX,zL,w2];refine mn r2 [0] (by simp[uS,hP,hf,zI]) ?_;simp[uS,hP,zF];exact mr [0] 0 (by rfl) (by simp[zF])
  .simp[uS,hP,zF,hf,qD,zX,zL,w1];refine mn r1 [0] (by simp[uS,hP,hf,zI]) ?_;simp[uS,hP,zF];exact mr [0] 0 (by rfl) (by simp[zF])
 .exact xF h (.inl hk) hks (.of ha hV hN) hB hVl hf
theorem zVB(h:UIh p F c m ev){u:Typ}(hk:e.k=6)(hks:e.kids=[a,b])(hfr:∀x∈B,x.id≠e.id)(ha:WE p B a u)(hb:WE p (B++[⟨e.id,0,u⟩]) b t)(hV:EnvT p B V)(hN:NdV V)(hB:Bn c m s)(hVl:V.length+2+2*m<=100000)(hm:0<=m):UBr p F ev e V s:=by
 by_cases hf:(ev a V s).2.fail=0
 .have hr:=h.ok a V s (.of ha hV hN) hB (by omega);have hB1:=(h.bd a V s hB).bn;have hty:=h.snd a B V s _ ha hV hf;have hfv:=hV.ids hfr;have hx:j6 ev e V s=ev b (V++[⟨e.id,0,(ev a V s).1⟩]) (ev a V s).2:=by unfold j6;rw[hks];simp[hf,hk]
  unfold UBr;rw[hx];clear hx;generalize ev a V s=r at *
  obtain⟨v,s1⟩:=r;simp only at *
  have r1:=h.ok b (V++[⟨e.id,0,v⟩]) s1 (.of hb (hV.push hty) (hN.push (.of hfv 0))) hB1 (by simp;omega);have wi:=xB V ⟨e.id,0,v⟩ (by omega);generalize ev b (V++[⟨e.id,0,v⟩]) s1=r' at *
  refine zN Tryz.func186 rfl zBl (rs:=[.cell 6 3 true]) (by kernel_rfl) ?_
  simp only[zAr]
  have hP:=eP p;simp[uS,hP,zI,hks,zQ,hk];refine mn hr [0] (by simp[uS,hP,zI]) ?_;simp[uS,hP,zF,hf];refine z7 wi (by simp[zK,zF]) (by simp) ?_;simp;refine b6 r1 [0] (by decide) (by simp[uS,hP,hf]) (by simp[zI]) ?_;simp[uS,hP,zF];exact mr [0] 0 (by rfl) (by simp[zF])
 .exact xF h (.inr (.inl hk)) hks (.of ha hV hN) hB (by omega) hf
theorem zQl(h:UIh p F c m ev){d:Dfn}{j:Nat}(hk:e.k=8)(hn:e.n=j)(hks:e.kids=[a])(hd:jK p.defs e.ref=some d)(hdk:d.kind=0)(hj:j<d.slots.length)(ha:WE p B a (yI e.ref))(hV:EnvT p B V)(hN:NdV V)(hB:Bn c m s)(hVl:V.length+2*m<=100000):UBr p F ev e V s:=by
 by_cases hf:(ev a V s).2.fail=0
 .have hr:=h.ok a V s (.of ha hV hN) hB hVl;have hty:=(h.snd a B V s _ ha hV hf).1.def_inv hd;have hx:j6 ev e V s=((ev a V s).1.kids.getD j vz,(ev a V s).2):=by unfold j6;rw[hks];simp[hf,hk,hn]
  unfold UBr;rw[hx];clear hx;generalize ev a V s=r at *
  obtain⟨v,s1⟩:=r;simp only at *
  obtain⟨_,vs,hl,rfl,_⟩:=hty.resolve_right (fun h=>by omega);have hjv:j<vs.length:=by omega
  refine zN Tryz.func186 rfl zBl (rs:=[.cell 6 3 true]) (by kernel_rfl) ?_
  simp only[zAr]
  have hP:=eP p;simp[uS,hP,zI,hks,zQ,hk,hn];refine mn hr [0] (by simp[uS,hP,zI]) ?_;simp[uS,hP,zF,hf,qD,zX,zL,hjv,qL hjv];exact mr [0] 0 (by rfl) (by simp[zF,zL,hjv])
 .exact xF h (.inr (.inr (.inl hk))) hks (.of ha hV hN) hB hVl hf
theorem zQm(h:UIh p F c m ev){ks:wG}{d:Dfn}(hk:e.k=10)(hks:e.kids=a::ks)(hfr:∀x∈B,x.id≠e.id)(hd:jK p.defs e.ref=some d)(hdk:d.kind=1)(hl:ks.length=d.slots.length)(hl6:ks.length<=32768)(ha:WE p B a (yI e.ref))
 (hw:∀(j:Nat)(hj:j<ks.length),WE p (B++[⟨e.id,j,(d.slots[j]'(hl▸hj)).typ⟩]) ks[j] t)(hV:EnvT p B V)(hN:NdV V)(hB:Bn c m s)(hVl:V.length+2+2*m<=100000)(hm0:0<=m):UBr p F ev e V s:=by
 by_cases hf:(ev a V s).2.fail=0
 .have hr:=h.ok a V s (.of ha hV hN) hB (by omega);have hB1:=(h.bd a V s hB).bn;obtain⟨hty,hz⟩:=h.snd a B V s _ ha hV hf;have hty:=hty.def_inv hd;have hfv:=hV.ids hfr;have hx:j6 ev e V s=ev (e.kids.getD (1+(ev a V s).1.n).toNat .zero) (V++[⟨e.id,(ev a V s).1.n,(ev a V s).1.kids.headD vz⟩]) (ev a V s).2:=by unfold j6;rw[hks];simp[hf,hk]
  unfold UBr;rw[hx];clear hx;generalize ev a V s=r at *
  obtain⟨v,s1⟩:=r;simp only at *
  obtain⟨_,q,x,hq,rfl,hxt⟩:=hty.resolve_left (fun h=>by omega);have hqk:q<ks.length:=by omega
  have e2:(1+(q:Int)).toNat=q+1:=by omega
  have hw1:IntKind.i64.wrap (1+(q:Int))=((q+1:Nat):Int):=by rw[IntWalk.i64_in _ (by omega)];omega
  simp only[zX,zL,jCy,e2,hks,jB7,jBo,jA1 hqk,jB9];have r1:=h.ok ks[q] (V++[⟨e.id,q,x⟩]) s1 (.of (hw q hqk) (hV.push ⟨hxt,lM hz (by simp[zL])⟩) (hN.push (.of hfv q))) hB1 (by simp;omega);have wi:=xB V ⟨e.id,q,x⟩ (by omega);generalize ev ks[q] (V++[⟨e.id,q,x⟩]) s1=r' at *
  have hdr:(qT (a::ks)).drop ((q+1)*15)=zI ks[q]++qT (ks.drop (q+1)):=by
   have:=y5 (l:=a::ks) (i:=q+1) (by simpa using hqk)
   simpa using this
  have hlt:q+1<(a::ks).length:=by simpa using hqk
  refine zN Tryz.func186 rfl zBl (rs:=[.cell 6 3 true]) (by kernel_rfl) ?_
  simp only[zAr]
  have hP:=eP p;have h0:=zQ a ks;generalize hQ:a::ks=Q at *
  obtain⟨M,hM⟩:∃M,M=q+1:=⟨_,rfl⟩;rw[<-hM]at hw1 hdr hlt;have hQ0:0<Q.length:=by omega
  have hq0:0<Q.length*15:=by omega
  have hq15:15<=Q.length*15:=by omega
  have ht:(qT Q).take 15=zI a:=by rw[h0];exact List.take_left' rfl
  have ea:zI a=[int a.id.a,int a.id.b,int a.id.c,int a.k,int a.n,int a.ref.a,int a.ref.b,int a.ref.c,int a.typ.k,int a.typ.id.a,int a.typ.id.b,int a.typ.id.c,.sl a.typ.kids.length (jQ a.typ.kids),.sl a.kids.length (qT a.kids),.sl a.names.length (yR a.names)]:=rfl;rw[ea]at ht;clear h0;simp[uS,hP,zI,hks,hQ0,hq0,hq15,ht,hk];refine mn hr [0] (by simp[uS,hP,zI]) ?_;simp[uS,hP,zF,hf,qD,zX,zL,hw1,hlt,hdr,zI];refine z7 wi (by simp[zK,zF]) (by simp) ?_;simp;refine b6 r1 [0] (by decide) (by simp[uS,hP,hf]) (by simp[zI]) ?_;simp[uS,hP,zF];exact mr [0] 0 (by rfl) (by simp[zF])
 .exact xF h (.inr (.inr (.inr (.inl hk)))) hks (.of ha hV hN) hB (by omega) hf
theorem zT9(h:UIh p F c m ev){l z:Exp}{u:Typ}(hk:e.k=12)(hks:e.kids=[l,z,b])(hfr:∀x∈B,x.id≠e.id)(hl:WE p B l (yC u))(hz:WE p B z t)(hb:WE p (B++[⟨e.id,0,u⟩]++[⟨e.id,1,t⟩]) b t)(hV:EnvT p B V)(hN:NdV V)(hB:Bn c m s)(hVl:V.length+2+2*m<=100000)(hm0:0<=m):UBr p F ev e V s:=by
 by_cases hf:(ev l V s).2.fail=0
 .have hr:=h.ok l V s (.of hl hV hN) hB (by omega);have hB1:=(h.bd l V s hB).bn;obtain⟨hty,hsz⟩:=h.snd l B V s _ hl hV hf;have hfv:=hV.ids hfr;have hx:j6 ev e V s=yB ev V e.id b (ev l V s).1.kids (ev z V (ev l V s).2):=by unfold j6;rw[hks];simp[hf,hk]
  unfold UBr;rw[hx];clear hx;generalize ev l V s=r at *
  obtain⟨v,s1⟩:=r;simp only at *
  obtain⟨vs,rfl,hvs⟩:=hty.list_inv;have hvl:=zKn hsz;simp only[zL]at hvl;have hr2:=h.ok z V s1 (.of hz hV hN) hB1 (by omega);have hB2:=h.bd z V s1 hB1;have ht2:=h.snd z B V s1 _ hz hV;generalize ev z V s1=r2 at *
  simp only[zL];have hst:∀i,Bd c m (yB ev V e.id b (vs.take i) r2).2/\((yB ev V e.id b (vs.take i) r2).2.fail=0->TyV p t (yB ev V e.id b (vs.take i) r2).1/\qN (yB ev V e.id b (vs.take i) r2).1<=256):=fun i =>
   ⟨zEM h.bd V e.id b _ _ hB2,zB8 h.stop h.snd hV hb _ _ (fun x hx=>⟨hvs x (jC5 hx),lM hsz (jC5 hx)⟩) ht2⟩
  have hround:∀(i:Nat) (hi:i<vs.length),UOk p F (yB ev V e.id b (vs.take (i+1)) r2) b (V++[⟨e.id,0,vs[i]⟩]++[⟨e.id,1,(yB ev V e.id b (vs.take i) r2).1⟩]) (yB ev V e.id b (vs.take i) r2).2:=fun i hi=>by rw[jA6 hi,sW];refine h.ok _ _ _ (fun h0=>⟨_,t,hb,(hV.push ⟨hvs _ (jA0 hi),lM hsz (jA0 hi)⟩).push ((hst i).2 h0),(hN.push (.of hfv 0)).push (.push hfv (by decide) _)⟩) (hst i).1.bn (by simp;omega)
  have htk:vs.take vs.length=vs:=jAt;have hF0:yB ev V e.id b [] r2=r2:=rfl;refine zN Tryz.func186 rfl zBl (rs:=[.cell 6 3 true]) (by kernel_rfl) ?_
  simp only[zAr]
  have hP:=eP p;simp[uS,hP,zI,hks,zQ,hk];refine mn hr [0] (by simp[uS,hP,zI]) ?_;simp[uS,hP,zF,hf,qD,zX,zL];refine mn hr2 [0] (by simp[uS,hP,hf,zI]) ?_;simp[uS,hP,zF,zL];refine qK (S:=Nat) (fun i=>[(0,.ptr 0 0),(2,.sl V.length (y3 V)),(4,.ptr 1 0),(6,.ptr 2 0),(11,.ptr 3 0),(12,.ptr 4 0),(13,int i)])
   (fun i=>uS p F (yB ev V e.id b (vs.take i) r2).2++[.box (zI e),.box [int 0,int 0,.nil],.box [int 4,int 0,.sl vs.length (zR vs)],.box (zF (yB ev V e.id b (vs.take i) r2).1)]) (fun i=>i<=vs.length) (fun i=>vs.length-i) 0 (by simp)
   (mu [0,1,2,3,4] 0 (by rfl) (by simp[uS,hP,zI,hks,zQ,hk,zF,hF0])) ?_
  intro i hi;have hwi:=jZ i (by omega);by_cases hil:i<vs.length
  .have hro:=hround i hil;have hdr:=qL hil;generalize hFn:yB ev V e.id b (vs.take (i+1)) r2=Fn at hro;generalize hFi:yB ev V e.id b (vs.take i) r2=Fi at hro;obtain⟨acc,si⟩:=Fi;simp only at hro;generalize vs[i]=x at *
   have w1:=xB V ⟨e.id,0,x⟩ (by omega);have w2:=xB (V++[⟨e.id,0,x⟩]) ⟨e.id,1,acc⟩ (by simp;omega);simp[uS,hP,zI,hks,zQ,hk,zF,hil,hdr,hFi]
   intros
   refine z7 w1 (by simp[zK,zF]) (by simp) ?_;simp;refine z7 w2 (by simp[zK,zF]) (by simp) ?_;simp;refine b6 hro [0] (by decide) (by simp[uS,hP]) (by simp[zI]) ?_;simp[uS,hP,zF];exact zO (i+1) hil (by omega) (mu [0,1,2,3,4] 0 (by rfl) (by simp[uS,hP,zI,hks,zQ,hk,zF,hFn,hwi]))
  .have hil:i=vs.length:=by omega
   subst hil;rw[htk];simp[uS,hP,zF]
   intros
   exact mr [0] 0 (by rfl) (by simp[zF])
 .exact xF h (.inr (.inr (.inr (.inr hk)))) hks (.of hl hV hN) hB (by omega) hf
end
section
variable{p:Prg}{c:Nat}{m:Int}{ev:Evl}{e:Exp}{V:wO}{s:XS}
end
def zOz(d:Dfn)(L:wF):wF:=if d.id∈L then namS d.slots L else L
theorem RS.namS(hf:Fit p hs){ss:List Slt}(h:∀s∈ss,TyOk hs 4 s.typ)(hL:RS p L):RS p (namS ss L) :=
 RS.fold (fun(s:Slt) L=>zK1 s.typ L) ss L (fun s hs' L hL=>hL.nam hf (h s hs')) hL
theorem RS.turn(hf:Fit p hs){d:Dfn}(hd:d∈p.defs)(hL:RS p L):RS p (zOz d L):=by
 unfold zOz;split
 .exact hL.namS hf (hf.slots d hd).2.2.2.2
 .exact hL
theorem RS.rnd(hf:Fit p hs){ds:wQ}(hd:∀d∈ds,d∈p.defs)(hL:RS p L):RS p (ds.foldl (fun L d=>zOz d L) L) :=
 RS.fold zOz ds L (fun d hd' L hL=>hL.turn hf (hd d hd')) hL
structure RelX(k:Int)(s s':XS):Prop where
 fuel:s'.fuel=s.fuel-k
 fail:s'.fail=s.fail
 ds:s'.ds=s.ds
 ns:s'.ns=s.ns
def pS(s' s:XS):Prop:=(∀x∈s'.ds,x∈s.ds)/\∀x∈s'.ns,x∈s.ns
theorem pS.rfl'(s:XS):pS s s:=⟨fun _ h=>h,fun _ h=>h⟩
theorem pS.trans{a b c:XS}(h:pS a b)(k:pS b c):pS a c:=⟨fun x hx=>k.1 x (h.1 x hx),fun x hx=>k.2 x (h.2 x hx)⟩
variable{s:XS}
theorem RelX.sub{k:Int}{s':XS}(h:RelX k s s'):pS s' s:=⟨fun x hx=>by rw[<-h.ds];exact hx,fun x hx=>by rw[<-h.ns];exact hx⟩
theorem zTz(s:XS):InvX (pS s) :=
 ⟨fun e t h _=>⟨h.1,fun x hx=>jBk _ (h.2 x hx)⟩,fun d t h=>⟨fun x hx=>jBk _ (h.1 x hx),h.2⟩,fun x t h=>h⟩
def Grow(ev:Evl):Prop:=∀e V s,pS s (ev e V s).2
def qDO{α:Type}(k:Int)(r r' : α×XS):Prop:=(RelX k r.2 r'.2/\r'.1=r.1)\/(r'.2.fail≠0/\pS r'.2 r.2)
theorem qDO.grow{α:Type}{k:Int}{r r' : α×XS}{t : α}(h:r'.2.fail≠0/\pS r'.2 r.2)(hs:pS r.2 s):qDO k (t,s) r':=.inr ⟨h.1,h.2.trans hs⟩
section
variable{p:Prg}{k:Int}{ev ev':Evl}
theorem Grow.all(hg:Grow ev)(V:wO)(l:wG)(s:XS):pS s (jJ ev V l s).2:=uT (I:=pS s) (fun e V t ht=>ht.trans (hg e V t)) V l s (pS.rfl' s)
theorem Grow.fold(hg:Grow ev)(V:wO)(i:Id)(b:Exp)(l:wI)(r:Val×XS):pS r.2 (yB ev V i b l r).2:=xP (I:=pS r.2) (fun e V t ht=>ht.trans (hg e V t)) V i b l r (pS.rfl' r.2)
theorem Grow.body(hg:Grow ev)(d:Dfn)(vs:wI)(s:XS):pS s (b7 ev d vs s).2:=xL (I:=pS s) (zTz s) (fun e V t ht=>ht.trans (hg e V t)) d vs s (pS.rfl' s)
end
theorem zNA(C:Int):InvX (fun s=>s.ns.length+s.fuel=C) :=
 ⟨fun e s h hf=>by unfold nJ;simp only[jA5,jAz];have:(s.ns.length:Int)+s.fuel=C:=h;omega,fun d s h=>h,fun x s h=>h⟩
theorem zTf(p:Prg)(d:Dfn)(vs:wI)(fuel:Int):((r8 p d vs fuel).2.ns.length:Int)+(r8 p d vs fuel).2.fuel=fuel :=
 xL (zNA fuel) (rW (zNA fuel) 1 _) d vs _ (by simp)
theorem zVy(p:Prg)(d:Dfn)(vs:wI)(fuel:Int)(h:0<=fuel):0<=(r8 p d vs fuel).2.fuel :=
 (xL (zEN fuel) (rW (zEN fuel) 1 _) d vs _ ⟨h,jAf _⟩:Fu fuel (r8 p d vs fuel).2).1
theorem RP.congr{f:FuncId}{args:wE}{F:Int}{s':XS}{r r':A}(h:RP f args p F s r s')(hr:s'.fail=0->r=r'):RP f args p F s r' s' :=
 ⟨fun hf=>by rw[<-hr hf];exact h.ret hf,h.pan⟩
section
variable{p:Prg}{F m:Int}{ev:Evl}{B:wJ}{e:Exp}{t:Typ}{V:wO}{s:XS}
noncomputable def zQ0:{k:K//zV Tryz.prog Tryz.f110 qB []=k}:=⟨_,by conv=>lhs;cbv⟩
theorem zUd:kw Tryz.f110 zQ0.1:=my (by kernel_rfl)
theorem zGJ(hu:s.fuel<=0):zGg p F e V s (vz,{s with fail:=uG}):=by
 have hP:=eP p;refine⟨fun hf=>absurd (show uG=0 from hf) (by decide),fun _=>?_⟩;have hc:F<=F-s.fuel:=by omega
 refine rZ Tryz.func110 rfl zUd (rs:=[.cell 6 3 true]) (by kernel_rfl) ?_
 simp only[zQ0];unfold wpF
 simp[eS,hP,zI,hc]
theorem zRB{r:Val×XS}(hF:F<=1000000)(hs:s.fail=0)(hu:¬s.fuel<=0)(hB:Fu F s)(hv:VaE p F e V (nJ e s) r):zGg p F e V s (vD 1 r):=by
 have hP:=eP p;obtain⟨b1,b2⟩:=hB;have hc:¬F<=F-s.fuel:=by omega
 have hw:IntKind.i64.wrap (F-s.fuel+1)=F-(s.fuel-1):=by rw[IntWalk.i64_in _ (by omega)];omega
 have he:vD 1 r=(r.1,gY r):=by simp[vD,zf]
 have ht:(nJ e s).fuel=s.fuel-1:=rfl;rw[he];by_cases h0:r.2.fail=0
 .have hv:=hv.ret h0;by_cases hbig:zDL r.1
  .have hl:gY r={r.2 with fail:=nB}:=by unfold gY;rw[if_pos ⟨h0,hbig⟩]
   rw[hl];refine⟨fun hf=>absurd (show nB=0 from hf) (by decide),fun _=>?_⟩;refine rZ Tryz.func110 rfl zUd (rs:=[.cell 6 3 true]) (by kernel_rfl) ?_
   simp only[zQ0];unfold wpF
   simp[eS,hP,zI,hc,hw];refine mn hv [0] (by simp[eS,hP,ht,zI]) ?_;simp[eS,hP,zF];refine mq (zII r.1) (by simp[zF]) ?_;by_cases h1:256<sD r.1
   .simp[h1]
   .have h2:24<mF r.1:=hbig.resolve_left h1;simp[h1];refine mq (zC1 r.1) (by simp[zF]) ?_;simp[h2]
  .have hl:gY r=r.2:=by unfold gY;rw[if_neg fun h=>hbig h.2]
   have h1:¬256<sD r.1:=fun h=>hbig (.inl h)
   have h2:¬24<mF r.1:=fun h=>hbig (.inr h)
   rw[hl];refine⟨fun _=>?_,fun hf=>(hf h0).elim⟩;refine zH Tryz.func110 rfl zUd (rs:=[.cell 6 3 true]) (by kernel_rfl) ?_
   simp only[zQ0]
   simp[eS,hP,zI,hc,hw];refine mn hv [0] (by simp[eS,hP,ht,zI]) ?_;simp[eS,hP,zF];refine mq (zII r.1) (by simp[zF]) ?_;simp[h1];refine mq (zC1 r.1) (by simp[zF]) ?_;simp[h2];exact mr [0] 0 (by rfl) (by simp[zF])
 .have hl:gY r=r.2:=by unfold gY;rw[if_neg fun h=>h0 h.1]
  rw[hl];refine⟨fun hf=>(h0 hf).elim,fun _=>?_⟩;refine rZ Tryz.func110 rfl zUd (rs:=[.cell 6 3 true]) (by kernel_rfl) ?_
  simp only[zQ0];unfold wpF
  simp[eS,hP,zI,hc,hw];refine zBm (hv.pan h0) [0] (by decide) (by simp[eS,hP,ht]) (by simp[zI]) fun τ=>?_
  simp
theorem zEA(h:IhE p F m ev){a:Exp}{ks:wG}{u:Typ}(hk:e.k=5\/e.k=6\/e.k=8\/e.k=10\/e.k=12)(hks:e.kids=a::ks)(ha:WE p B a u)(hV:EnvT p B V)(hN:NdV V)(hs:s.fail=0)(hB:Fu m s)
 (hb:∀v s1,s1.fail=0->Fu m s1->TyV p u v/\qN v<=256->BrE p F e V v s1 (cX ev e V v s1)):VaE p F e V s (j6 ev e V s):=by
 have hh:e.kids.headD .zero=a:=by rw[hks];rfl
 refine zYZ hk hks (h.ok a V s hs (.of ha hV hN) hB) (fun h1=>?_) fun h1=>?_
 .rw[zO7 (by rw[hh];exact h1),hh];exact hb _ _ h1 (h.fu a V s hB) (h.snd a B V s u ha hV h1)
 .unfold j6;rw[hh,if_pos h1]
theorem zOS(hp:zLq p)(hsl:zQR p)(h:IhE p F m ev)(he:WE p B e t)(hV:EnvT p B V)(hN:NdV V)(hs:s.fail=0)(hB:Fu m s):VaE p F e V s (qP p 1 ev e V s):=by
 cases he with
 |int _ i n r u ns h1 h2=>exact zUz hs rfl
 |bool _ i n r u ns h1=>exact zRG hs rfl h1
 |var _ i n r u ns _ hl=>exact zU1 hs rfl
 |call _ i n r u ks ns hn d hd hk hl hw =>
  have e1:qP p 1 ev (.mk i 3 n r u ks ns) V s=b7 ev d (jJ ev V ks s).1 (jJ ev V ks s).2:=by simp[qP,dfn,hd]
  rw[e1];have hdm:=(aV hd).1;have hal:=zBt h V ks hn hs (fun k hk s=>by obtain⟨j,hj,rfl⟩:=jAn hk;exact .of (hw j hj) hV hN) hB;have hll:=fZ ev V ks s;refine zRH (e:=.mk i 3 n r u ks ns) (vs:=(jJ ev V ks s).1) (s1:=(jJ ev V ks s).2) rfl hd hll hal (fun hf=>?_) fun hf=>?_
  .obtain⟨ht,hz⟩:=nK h.stop h.snd hV ks _ s hl hw hf;have hlen:=ht.len;rw[jAe]at hlen;exact zJ0 h d _ hlen (hsl d hdm).1 hf (fun _=>⟨_,_,hp r d hd (by simp[fO,hk]),EnvT.args ht hz,zEc (hsl d hdm).2 _ hlen⟩) (uT h.fu V ks s hB)
  .unfold b7;rw[if_pos hf]
 |op _ i n r u ks ns hn ts _ ho hl hw =>
  have e1:qP p 1 ev (.mk i 4 n r u ks ns) V s=(zf true (jJ ev V ks s).2 (opV n (jJ ev V ks s).1),(jJ ev V ks s).2):=by simp[qP]
  rw[e1];have hal:=zBt h V ks hn hs (fun k hk s=>by obtain⟨j,hj,rfl⟩:=jAn hk;exact .of (hw j hj) hV hN) hB;refine RP.congr (zZa (e:=.mk i 4 n r u ks ns) (ts:=ts) (t:=t) (vs:=(jJ ev V ks s).1) rfl (fun hf=>?_) (fZ ev V ks s) hal) fun hf=>by rw[sG hf];rfl
  obtain⟨ht,hz⟩:=nK h.stop h.snd hV ks _ s hl hw hf;exact⟨ho,ht,hz⟩
 |record _ i n r u ks ns hn d hd hk hl hw =>
  have e1:qP p 1 ev (.mk i 7 n r u ks ns) V s=(zf true (jJ ev V ks s).2 (.mk 2 0 (jJ ev V ks s).1),(jJ ev V ks s).2):=by simp[qP]
  rw[e1];have hal:=zBt h V ks hn hs (fun k hk s=>by obtain⟨j,hj,rfl⟩:=jAn hk;exact .of (hw j hj) hV hN) hB;exact RP.congr (zU0 (e:=.mk i 7 n r u ks ns) rfl (fZ ev V ks s) hal) fun hf=>by rw[sG hf]
 |case _ i r u a ns d j hd hk hj ha =>
  have e1:qP p 1 ev (.mk i 9 j r u [a] ns) V s=(zf true (jJ ev V [a] s).2 (.mk 3 j (jJ ev V [a] s).1),(jJ ev V [a] s).2):=by simp[qP]
  rw[e1];have hal:=zBt h V [a] (by simp) hs (fun k hk s=>by rw[jAp.1 hk];exact .of ha hV hN) hB;exact RP.congr (zRI (e:=.mk i 9 j r u [a] ns) rfl (fZ ev V [a] s) hal) fun hf=>by rw[sG hf];rfl
 |list _ i n r u ks ns t hn hw =>
  have e1:qP p 1 ev (.mk i 11 n r u ks ns) V s=(zf true (jJ ev V ks s).2 (.mk 4 0 (jJ ev V ks s).1),(jJ ev V ks s).2):=by simp[qP]
  rw[e1];have hal:=zBt h V ks hn hs (fun k hk s=>by obtain⟨j,hj,rfl⟩:=jAn hk;exact .of (hw j hj) hV hN) hB;exact RP.congr (zRJ (e:=.mk i 11 n r u ks ns) rfl (fZ ev V ks s) hal) fun hf=>by rw[sG hf]
 |ite _ i n r u a b c ns _ ha hb hc =>
  have e1:qP p 1 ev (.mk i 5 n r u [a,b,c] ns) V s=j6 ev (.mk i 5 n r u [a,b,c] ns) V s:=by simp[qP]
  rw[e1];refine zEA h (.inl rfl) rfl ha hV hN hs hB fun v s1 h1 hB1 hty=>?_
  obtain⟨x,rfl,hx⟩:=hty.1.bool_inv;exact zUq hx rfl rfl (h.ok b V s1 h1 (.of hb hV hN) hB1) (h.ok c V s1 h1 (.of hc hV hN) hB1)
 |lets _ i n r u a b ns v _ hfr ha hb =>
  have e1:qP p 1 ev (.mk i 6 n r u [a,b] ns) V s=j6 ev (.mk i 6 n r u [a,b] ns) V s:=by simp[qP]
  rw[e1];refine zEA h (.inr (.inl rfl)) rfl ha hV hN hs hB fun v s1 h1 hB1 hty=>?_
  exact zUr rfl rfl (h.ok b _ s1 h1 (.of hb (hV.push hty) (hN.push (.of (hV.ids hfr) 0))) hB1)
 |field _ i r u a ns d j hd hk hj ha =>
  have e1:qP p 1 ev (.mk i 8 j r u [a] ns) V s=j6 ev (.mk i 8 j r u [a] ns) V s:=by simp[qP]
  rw[e1];refine zEA h (.inr (.inr (.inl rfl))) rfl ha hV hN hs hB fun v s1 h1 hB1 hty=>?_
  obtain⟨_,vs,hl,rfl,_⟩:=(hty.1.def_inv hd).resolve_right (fun h=>by omega);exact zOL rfl rfl h1 (by omega) rfl
 |mtch _ i n r u a ks ns d _ hfr hd hk hl ha hw =>
  have e1:qP p 1 ev (.mk i 10 n r u (a::ks) ns) V s=j6 ev (.mk i 10 n r u (a::ks) ns) V s:=by simp[qP]
  rw[e1];refine zEA h (.inr (.inr (.inr (.inl rfl)))) rfl ha hV hN hs hB fun v s1 h1 hB1 hty=>?_
  obtain⟨_,q,x,hm,rfl,hxt⟩:=(hty.1.def_inv hd).resolve_left (fun h=>by omega);have hq:q<ks.length:=by omega
  exact zOM rfl rfl hq (by have:=(hsl d (aV hd).1).1;omega) (h.ok ks[q] _ s1 h1 (.of (hw q hq) (hV.push ⟨hxt,lM hty.2 (by simp[zL])⟩) (hN.push (.of (hV.ids hfr) q))) hB1)
 |fold _ i n r u l z b ns v _ hfr hl' hs' hb =>
  have e1:qP p 1 ev (.mk i 12 n r u [l,z,b] ns) V s=j6 ev (.mk i 12 n r u [l,z,b] ns) V s:=by simp[qP]
  rw[e1];refine zEA h (.inr (.inr (.inr (.inr rfl)))) rfl hl' hV hN hs hB fun v s1 h1 hB1 hty=>?_
  obtain⟨vs,rfl,hvs⟩:=hty.1.list_inv;have hfv:=hV.ids hfr;have ht2:=h.snd z B V s1 _ hs' hV;refine zR0 h.stop rfl rfl (h.ok z V s1 h1 (.of hs' hV hN) hB1) fun x a s2 h2 ⟨j,hj,hx⟩=>?_
  have hxm:=jC3 hx;have hty2:=zB8 h.stop h.snd hV hb (vs.take j) (ev z V s1) (fun x hx=>⟨hvs x (jC5 hx),lM hty.2 (jC5 hx)⟩) ht2;have hfu:=xP h.fu V i b (vs.take j) (ev z V s1) (h.fu z V s1 hB1);rw[show (Exp.mk i 12 n r u [l,z,b] ns).id=i from rfl]at hj;rw[hj]at hty2 hfu;exact h.ok b _ s2 h2 (.of hb ((hV.push ⟨hvs x hxm,lM hty.2 hxm⟩).push (hty2 h2)) ((hN.push (.of hfv 0)).push (.push hfv (by decide) _))) hfu
theorem zNI(hp:zLq p)(hsl:zQR p)(hF:F<=1000000):∀n:Nat,(n:Int)<=F->IhE p F n (aT p 1 n)
 | 0,_=>⟨iQ p 1 0,rX hp 1 0,rW (zEN _) 1 0,fun e V s hs hA hB=>by rw[aT,if_neg (by simp[hs])];exact zGJ hB.2⟩
 |n+1,hn=>⟨iQ p 1 (n+1),rX hp 1 (n+1),rW (zEN _) 1 (n+1),fun e V s hs hA hB=>by
  rw[aT,if_neg (by simp[hs])];split
  .rename_i hu;exact zGJ hu
  .rename_i hu;obtain⟨B,t,he,hV,hN⟩:=hA hs;obtain⟨b1,b2⟩:=hB;exact zRB hF hs hu ⟨b1,by omega⟩ (zOS hp hsl (zNI hp hsl hF n (by omega)) he hV hN (by exact hs) ⟨by show 0<=s.fuel-1;omega,by show s.fuel-1<=_;omega⟩)⟩
end
section
variable{p:Prg}{F:Int}{c:Nat}{m:Int}{ev:Evl}{e:Exp}{V:wO}{s:XS}
theorem zQn(hp:zLq p)(hsl:zQR p)(hL:p.defs.length<=1000000)(h:UIh p F c m ev)(hc:c<=100000)(hm0:0<=m){B:wJ}{t:Typ}(he:WE p B e t)(hV:EnvT p B V)(hN:NdV V)(hB:Bd c m s)(hVl:V.length+2+2*m<=100000)(hm:6+2*m<=100000):UVa p F e V s (qP p 2 ev e V s):=by
 cases he with
 |int _ i n r u ns h1 h2=>exact zNh rfl
 |bool _ i n r u ns h1=>exact zLk rfl
 |var _ i n r u ns _ hl=>exact zNj (e:=.mk i 2 n r u [] ns) rfl (by omega)
 |call _ i n r u ks ns hn d hd hk hl hw =>
  have e1:qP p 2 ev (.mk i 3 n r u ks ns) V s=b7 ev d (jJ ev V ks s).1 (jJ ev V ks s).2:=by simp[qP,dfn,hd]
  rw[e1];have hB1:=zDW h.bd V ks s hB;have hdm:=(aV hd).1;have hA:=zCe h ks hn (fun k hk s=>by obtain⟨j,hj,rfl⟩:=jAn hk;exact .of (hw j hj) hV hN) hB (by omega)
  refine zLl (e:=.mk i 3 n r u ks ns) hA hL rfl hd (zLj h hc d _ (by rw[fZ];omega) (hsl d hdm).1 (fun hf _=>?_) hm hB1);obtain⟨ht,hz⟩:=nK h.stop h.snd hV ks _ s hl hw hf;have hlen:=ht.len;rw[jAe]at hlen;exact⟨_,_,hp r d hd (by simp[fO,hk]),EnvT.args ht hz,zEc (hsl d hdm).2 _ hlen⟩
 |op _ i n r u ks ns hn ts _ ho hl hw =>
  have e1:qP p 2 ev (.mk i 4 n r u ks ns) V s=(zf true (jJ ev V ks s).2 (opV n (jJ ev V ks s).1),(jJ ev V ks s).2):=by simp[qP]
  rw[e1];have hA:=zCe h ks hn (fun k hk s=>by obtain⟨j,hj,rfl⟩:=jAn hk;exact .of (hw j hj) hV hN) hB (by omega)
  refine zQo (e:=.mk i 4 n r u ks ns) hA rfl (fun hf=>⟨sG hf,ts,_,ho,?_⟩) fun hf=>by simp[zf,hf]
  exact nK h.stop h.snd hV ks _ s hl hw hf
 |record _ i n r u ks ns hn d hd hk hl hw =>
  have e1:qP p 2 ev (.mk i 7 n r u ks ns) V s=(.mk 2 0 (jJ ev V ks s).1,(jJ ev V ks s).2):=by simp[qP,zf]
  rw[e1];exact zNi (e:=.mk i 7 n r u ks ns) (zCe h ks hn (fun k hk s=>by obtain⟨j,hj,rfl⟩:=jAn hk;exact .of (hw j hj) hV hN) hB (by omega)) rfl
 |case _ i r u a ns d j hd hk hj ha =>
  have e1:qP p 2 ev (.mk i 9 j r u [a] ns) V s=(.mk 3 j (jJ ev V [a] s).1,(jJ ev V [a] s).2):=by simp[qP,zf]
  rw[e1];exact zLm (e:=.mk i 9 j r u [a] ns) (zCe h [a] (by simp) (fun k hk s=>by simp only[jAp]at hk;subst hk;exact .of ha hV hN) hB (by omega)) rfl
 |list _ i n r u ks ns t hn hw =>
  have e1:qP p 2 ev (.mk i 11 n r u ks ns) V s=(.mk 4 0 (jJ ev V ks s).1,(jJ ev V ks s).2):=by simp[qP,zf]
  rw[e1];exact zLn (e:=.mk i 11 n r u ks ns) (zCe h ks hn (fun k hk s=>by obtain⟨j,hj,rfl⟩:=jAn hk;exact .of (hw j hj) hV hN) hB (by omega)) rfl
 |ite _ i n r u a b c ns _ ha hb hc =>
  have e1:qP p 2 ev (.mk i 5 n r u [a,b,c] ns) V s=j6 ev (.mk i 5 n r u [a,b,c] ns) V s:=by simp[qP]
  rw[e1];exact zVA h rfl rfl ha hb hc hV hN hB.bn (by omega)
 |lets _ i n r u a b ns v _ hfr ha hb =>
  have e1:qP p 2 ev (.mk i 6 n r u [a,b] ns) V s=j6 ev (.mk i 6 n r u [a,b] ns) V s:=by simp[qP]
  rw[e1];exact zVB h rfl rfl hfr ha hb hV hN hB.bn hVl hm0
 |field _ i r u a ns d j hd hk hj ha =>
  have e1:qP p 2 ev (.mk i 8 j r u [a] ns) V s=j6 ev (.mk i 8 j r u [a] ns) V s:=by simp[qP]
  rw[e1];exact zQl h rfl rfl rfl hd hk hj ha hV hN hB.bn (by omega)
 |mtch _ i n r u a ks ns d _ hfr hd hk hl ha hw =>
  have e1:qP p 2 ev (.mk i 10 n r u (a::ks) ns) V s=j6 ev (.mk i 10 n r u (a::ks) ns) V s:=by simp[qP]
  rw[e1];exact zQm h rfl rfl hfr hd hk hl (by have:=(hsl d (aV hd).1).1;omega) ha hw hV hN hB.bn hVl hm0
 |fold _ i n r u l s' b ns v _ hfr hl' hs' hb =>
  have e1:qP p 2 ev (.mk i 12 n r u [l,s',b] ns) V s=j6 ev (.mk i 12 n r u [l,s',b] ns) V s:=by simp[qP]
  rw[e1];exact zT9 h rfl rfl hfr hl' hs' hb hV hN hB.bn hVl hm0
noncomputable def zTR:{k:K//zV Tryz.prog Tryz.f171 qB []=k}:=⟨_,by conv=>lhs;cbv⟩
theorem zYw:kw Tryz.f171 zTR.1:=my (by kernel_rfl)
theorem zHM(hf:s.fail≠0):UOk p F (vz,s) e V s:=by
 have hP:=eP p;refine zH Tryz.func171 rfl zYw (rs:=[.cell 6 3 true]) (by kernel_rfl) ?_
 simp only[zTR]
 simp[uS,hP,zI,hf];exact mr [0] 0 (by rfl) (by simp[zF,qD,zX,zL])
theorem zHN(hf:s.fail=0)(hu:s.fuel<=0):UOk p F (vz,{s with fail:=uG}) e V s:=by
 have hP:=eP p;refine zH Tryz.func171 rfl zYw (rs:=[.cell 6 3 true]) (by kernel_rfl) ?_
 simp only[zTR]
 have hu:F<=F-s.fuel:=by omega
 simp[uS,hP,zI,hf,hu];exact mr [0] 0 (by rfl) (by simp[zF,qD,zX,zL])
theorem zTC{r:Val×XS}(hc:c<=100000)(hmF:m<=F)(hF:F<=100000)(hf:s.fail=0)(hu:¬s.fuel<=0)(hB:Bn c m s)(hv:UVa p F e V (nJ e s) r):UOk p F (vD 2 r) e V s:=by
 have hP:=eP p;have b1:=hB.ns;have b2:=hB.ds;have b3:=hB.fu;have hu':¬F<=F-s.fuel:=by omega
 have hw:IntKind.i64.wrap (F-s.fuel+1)=F-(s.fuel-1):=by rw[IntWalk.i64_in _ (by omega)];omega
 have ht:nJ e s=⟨s.fuel-1,s.fail,s.ds,s.ns++[e.id]⟩:=rfl;rw[ht,hf]at hv;refine zH Tryz.func171 rfl zYw (rs:=[.cell 6 3 true]) (by kernel_rfl) ?_
 simp only[zTR]
 simp[uS,hP,zI,hf,hu',hw];refine mn hv [0] (by simp[uS,hP,zI]) ?_;simp[uS,hP,zF];by_cases h0:r.2.fail=0
 .simp[h0];refine mq (zAR r.1) (by simp[zF]) ?_;by_cases h1:256<sD r.1
  .have hl:gY r={r.2 with fail:=nB}:=by unfold gY;rw[if_pos ⟨h0,.inl h1⟩]
   have he:vD 2 r=(vz,{r.2 with fail:=nB}):=by simp[vD,hl,zf,nB]
   rw[he];simp[h1];exact mr [0] 0 (by rfl) (by simp[nB,zF,qD,zX,zL])
  .simp[h1];refine mq (vX r.1) (by simp[zF]) ?_;by_cases h2:24<mF r.1
   .have hl:gY r={r.2 with fail:=nB}:=by unfold gY;rw[if_pos ⟨h0,.inr h2⟩]
    have he:vD 2 r=(vz,{r.2 with fail:=nB}):=by simp[vD,hl,zf,nB]
    rw[he];simp[h2];exact mr [0] 0 (by rfl) (by simp[nB,zF,qD,zX,zL])
   .have hl:gY r=r.2:=by unfold gY;rw[if_neg fun h=>h.2.elim h1 h2]
    have he:vD 2 r=(r.1,r.2):=by simp[vD,hl,zf,h0]
    rw[he];simp[h2,h0];exact mr [0] 0 (by rfl) (by simp[h0,zF])
 .have hl:gY r=r.2:=by unfold gY;rw[if_neg fun h=>h0 h.1]
  have he:vD 2 r=(vz,r.2):=by simp[vD,hl,zf,h0]
  rw[he];simp[h0];exact mr [0] 0 (by rfl) (by simp[zF,qD,zX,zL])
theorem qHU(hp:zLq p)(hsl:zQR p)(hL:p.defs.length<=1000000)(hc:c<=40000)(hF:F<=100000){N:Int}(hN6:N<=40000)(hNF:N<=F):∀n:Nat,(0<n->(n:Int)<=N)->UIh p F c n (aT p 2 n)
 | 0,_=>⟨iQ p 2 0,rX hp 2 0,zFo 2 0,fun e V s hA hB hVl=>by
  rw[aT];have hu:=hB.fu;split
  .rename_i hf;exact zHM hf
  .rename_i hf;exact zHN (by omega) (by omega)⟩
 |n+1,hn=>⟨iQ p 2 (n+1),rX hp 2 (n+1),zFo 2 (n+1),fun e V s hA hB hVl=>by
  have hn:=hn (by omega);rw[aT];split
  .rename_i hf;exact zHM hf
  .rename_i hf;have hf:s.fail=0:=by omega
   split
   .rename_i hu;exact zHN hf hu
   .rename_i hu;obtain⟨B,t,he,hV,hN⟩:=hA hf;have ht:=hB.tick e hu;have:((n+1:Nat):Int)-1=n:=by omega
    rw[this]at ht;exact zTC (by omega) (by omega) (by omega) hf hu hB (zQn hp hsl hL (qHU hp hsl hL hc hF hN6 hNF n (fun _=>by omega)) (by omega) (by omega) he hV hN ht (by omega) (by omega))⟩
end
end Go.Proofs.YtdnelmeboihpkaaGreatDoor
namespace Go.Proofs.YtdnelmeboihpkaaGreatDoor
open Go Go.Abs
theorem zOO(pv ps pe:Value)(w:World) :
 CallsDIn Fence.wide 0 Tryz.prog 107 #[pv,ps,pe] .returning w fun e u' w'=>e=.returned (.tuple #[])/\u'=.returning/\w'=w:=by
 refine callsDIn_of_wpSIn Tryz.func107 rfl trivial fun c₀ cs hu=>?_
 apply wpSIn_seq;apply wpSIn_region;simp[wpOpsSIn,go_sem,recoverD,hu,Tryz.ntmps107,Exit.thenS];apply wpSIn_seq;apply wpSIn_region;simp[wpOpsSIn,go_sem,Exit.thenS];refine wpSIn_cond (t:=false) (by simp[Act.eval,Array.replicate]) ?_;simp only[jAk,if_false];refine wpSIn_of_wpIn rfl (wpIn_skip ?_);cases c₀;simp_all [bodyPostS,results,Tryz.results107]
theorem zVz(k:Int)(w:World):(Instr.typeAssert (zJ4 k) 20 51 true).run Tryz.prog w=.ok (.tuple #[.int .i64 k,.bool true]) w:=by
 have hu:Tryz.prog.underlying 51=some (.int .i64):=by kernel_rfl
 simp[Instr.typeAssert,run_underlying hu]
def qCP:List KG:=[⟨none,.build (some 17) [(.int .i64 0),(.int .i64 0),(.slice none 0 0)] []⟩,⟨none,.mov (some 18) (.tmp 4)⟩,⟨none,.st none (.tmp 0) (.tmp 17) 3⟩,⟨none,.st none (.tmp 1) (.const (.int .i64 0)) 1⟩,⟨none,.st none (.tmp 2) (.tmp 18) 1⟩]
theorem zJ2{H:Mem}{L:wM} {U:St}{w:World}{vs:wL}{q0 q1 q2:Nat}{k:Int}{older:List PanicEntry}(hs:RelSt H L U w)(hv:qE H L [.ptr q0 0,.ptr q1 0,.ptr q2 0] vs)
 {x0 y0 z0 x1 x2:A}(b0 : U[q0]?=some (.box [x0,y0,z0]))(b1 : U[q1]?=some (.box [x1]))(b2 : U[q2]?=some (.box [x2]))(n1:q0≠q1)(n2:q0≠q2)(n3:q1≠q2) :
 CallsDIn Fence.wide 0 Tryz.prog 107 vs.toArray (.panicking ({v:=zJ4 k,recovered:=false}::older)) w fun e u' w'=>e=.returned (.tuple #[])/\u'=.panicking ({v:=zJ4 k,recovered:=true}::older) /\
  ∃H' L',Nxt H L w H' L' (((U.set q0 (.box [int 0,int 0,.nil])).set q1 (.box [int 0])).set q2 (.box [int k])) w':=by
 obtain⟨pv,vs',rfl,h0,hv⟩:=qF hv;obtain⟨ps,vs',rfl,h1,hv⟩:=qF hv;obtain⟨pe,vs',rfl,h2,hv⟩:=qF hv;rw[jP hv];refine callsDIn_of_wpSIn Tryz.func107 rfl trivial fun c₀ cs hu=>?_
 apply wpSIn_seq;apply wpSIn_region;simp[wpOpsSIn,go_sem,recoverD,hu,Tryz.ntmps107,Exit.thenS];apply wpSIn_seq;apply wpSIn_region;simp[wpOpsSIn,go_sem,Exit.thenS];refine wpSIn_cond (t:=true) (by simp[Act.eval,Array.replicate]) ?_;simp only[if_true];apply wpSIn_seq;apply wpSIn_region;simp[wpOpsSIn,go_sem,Exit.thenS,zVz];apply wpSIn_seq;apply wpSIn_seq;apply wpSIn_region;simp[wpOpsSIn,go_sem,Exit.thenS];refine wpSIn_cond (t:=false) (by simp[Act.eval,Array.replicate]) ?_;simp only[jAk,if_false];refine wpSIn_of_wpIn rfl (wpIn_skip ?_);simp only[Exit.thenS];refine wpSIn_of_wpIn rfl ?_;refine zF8 (n0:=L.length) (hint:=qB) (l:=qCP) (by kernel_rfl) (Q:=fun x env τ=>x=.norm/\τ = ((U.set q0 (.box [int 0,int 0,.nil])).set q1 (.box [int 0])).set q2 (.box [int k])) (N:=19) (env:=qV [(0,.ptr q0 0),(1,.ptr q1 0),(2,.ptr q2 0),(4,int k)]) ?_ hs ?_ fun e a' w' hp=>?_
 .refine⟨by simp,fun t=>?_⟩;rcases nW [(0,.ptr q0 0),(1,.ptr q1 0),(2,.ptr q2 0),(4,int k)] t with h|h
  .rw[h];simp[Rel]
  .generalize qV [(0,.ptr q0 0),(1,.ptr q1 0),(2,.ptr q2 0),(4,int k)] t=a at h;simp only[jA3,jBp,jB,or_false]at h;rcases h with ⟨rfl,rfl⟩|⟨rfl,rfl⟩|⟨rfl,rfl⟩|⟨rfl,rfl⟩
   .simpa using h0
   .simpa using h1
   .simpa using h2
   .simp[Rel,Array.getElem?_append]
 .unfold qCP;simp[b0,b1,b2,n1,n2,n3,jDm]
 .obtain⟨x,env',τ,H',L',rfl,g2,g3,g4,rfl,rfl⟩:=hp;refine⟨g2,_,rfl,.tuple #[],?_,rfl,rfl,H'.1,H'.2,L',g4⟩;simp[results,Tryz.results107]
end Go.Proofs.YtdnelmeboihpkaaGreatDoor
namespace Go.Proofs.YtdnelmeboihpkaaGreatDoor
open Go.Abs
def Fl(s:XS):Prop:=s.fail=0\/s.fail=4\/s.fail=18
section
variable{p:Prg}{ev:Evl}
theorem zN2(h:∀e V s,Fl s->Fl (ev e V s).2)(V:wO):∀(l:wG) (s:XS),Fl s->Fl (jJ ev V l s).2
 |[],s,hs=>hs
 |e::l,s,hs=>by simp only[jJ];exact zN2 h V l _ (h e V s hs)
theorem zJG(h:∀e V s,Fl s->Fl (ev e V s).2)(V:wO)(i:Id)(b:Exp):∀(l:wI) (r:Val×XS),Fl r.2->Fl (yB ev V i b l r).2
 |[],r,hs=>hs
 |e::l,r,hs=>by simp only[yB];exact zJG h V i b l _ (h _ _ _ hs)
theorem zJj(h:∀e V s,Fl s->Fl (ev e V s).2)(d:Dfn)(vs:wI)(s:XS)(hs:Fl s):Fl (b7 ev d vs s).2:=by
 unfold b7;split
 .exact hs
 .exact h _ _ _ hs
theorem zL8(h:∀e V s,Fl s->Fl (ev e V s).2)(e:Exp)(V:wO)(s:XS)(hs:Fl s):Fl (j6 ev e V s).2:=by
 unfold j6;have h0:=h (e.kids.headD .zero) V s hs;generalize ev (e.kids.headD .zero) V s=r at *
 repeat' split
 all_goals first
  |exact h0
  |exact h _ _ _ h0
  |exact zJG h _ _ _ _ _ (h _ _ _ h0)
theorem zQq(h:∀e V s,Fl s->Fl (ev e V s).2)(fl:Nat)(e:Exp)(V:wO)(s:XS)(hs:Fl s):Fl (qP p fl ev e V s).2:=by
 unfold qP;have h0:=zN2 h V e.kids s hs;generalize jJ ev V e.kids s=r at *
 repeat' split
 all_goals first
  |exact hs
  |exact h0
  |exact zL8 h _ _ _ hs
  |exact zJj h _ _ _ h0
theorem zUS{r:Val×XS}(h:Fl r.2):Fl (gY r):=by
 unfold gY;split
 .exact .inr (.inl rfl)
 .exact h
theorem zK5(fl:Nat):∀(n:Nat) e V s,Fl s->Fl (aT p fl n e V s).2
 | 0,e,V,s,hs=>by
  rw[aT];split
  .exact hs
  .exact .inr (.inr rfl)
 |n+1,e,V,s,hs=>by
  rw[aT];split
  .exact hs
  .split
   .exact .inr (.inr rfl)
   .exact zUS (zQq (zK5 fl n) fl e V _ hs)
end
def nH(p:Prg)(d:Dfn)(vs:wI)(fuel:Int):Val×XS:=b7 (aT p 2 fuel.toNat) d vs ⟨fuel,0,[],[]⟩
def jY(p:Prg)(id:Id)(vs:wI)(fuel:Int):Val×Int×Int:=match jK p.defs id with
 |none=>(vz,0,6)
 |some d=>if zCo d.kind=false then (vz,0,6)else if vs.length≠d.slots.length then (vz,0,1)
  else if dU p (d.slots.map Slt.typ) vs=false then (vz,0,1)else if (nH p d vs fuel).2.fail≠0 then (vz,0,(nH p d vs fuel).2.fail)else ((nH p d vs fuel).1,fuel-(nH p d vs fuel).2.fuel,0)
def fD(r:Val×Int×Int):A:=.tup [.agg (zF r.1),int r.2.1,int r.2.2]
theorem zQZ{fuel:Int}(hfu:fuel<=30000){L:wF}(hL:L.length<=100):Bd 40000 fuel.toNat ⟨fuel,0,L,[]⟩:=⟨by simp;omega,by simp only;omega,by simp only;omega,fun _=>by simp only;omega⟩
def qGf:Nat->Option wD:=fun|14=>k_ [0,0,0,2,2004,1004,0,0] | 15=>k_ [0,0,0,2,2004,1004,0,0]|_=>none
theorem zTA{p:Prg}{hs:wP}(hf:Fit p hs)(id:Id)(vs:wI)(fuel:Int)(hfu:fuel<=30000)(hz:∀v∈vs,qN v<=256/\aD v<=24) :
 mv 92 [.agg (zP p),.agg (zK id),.sl vs.length (zR vs),int fuel] [] (fD (jY p id vs fuel)) []:=by
 have hP:=eP p;have hL8:=hf.len8;refine mj qGf [] [.cell 8 3 true,.slot 9,.slot 10] Tryz.func92 (by kernel_rfl) ?_
 (conv in zV _ _ _ _=>cbv)
 simp[hP,zK];refine mq (i4 p (by omega) id) (by simp[zP,zK,bR]) ?_;cases hd:jK p.defs id with
 |none =>
  rw[show jY p id vs fuel=(vz,0,6) by simp[jY,hd]];simp[bR,hd,zJ];exact zA 0 (by simp[fD,zF,qD,zX,zL])
 |some d =>
 have hdm:=(aV hd).1;obtain⟨s1,s6,_,snd,sty⟩:=hf.slots d hdm;simp[bR,hd,zJ];refine mq (zUG d) (by simp[zJ]) ?_;cases hb:zCo d.kind with
 |false =>
  rw[show jY p id vs fuel=(vz,0,6) by simp[jY,hd,hb]];simp;exact zA 0 (by simp[fD,zF,qD,zX,zL])
 |true =>
 by_cases hl:vs.length=d.slots.length
 .have hfit:=fun i (hi:i<d.slots.length)=>zPZ p (by omega) d.slots[i].typ (vs[i]'(by omega)) (hz _ (jA0 _)).1 (hz _ (jA0 _)).2
  simp[hl]
  intros
  refine qK (S:=Nat) (fun i=>[(2,.sl vs.length (zR vs)),(3,int fuel),(4,.ptr 0 0),(8,.ptr 2 0),(11,.ptr 3 0),(13,int i)])
   (fun i=>[.box (zP p),.box (zK id),.box [int 0,int 0,.nil],.box (zJ d)]) (fun i=>i<=d.slots.length/\∀j (hj:j<i) (hj':j<d.slots.length),bY p d.slots[j].typ (vs[j]'(by omega))=true) (fun i=>d.slots.length-i) 0 ⟨by omega,fun j hj=>by omega⟩
   (mu [0,1,2,3] 0 (by rfl) (by simp[hP,zK,zJ,hl])) ?_
  rintro i ⟨hi,hft⟩;have hwi:=jZ i (by omega);by_cases hil:i<d.slots.length
  .have hiv:i<vs.length:=by omega
   have hdr:=qZ hil;have hdv:=qL hiv;have hfi:=hfit i hil;cases hfv:bY p d.slots[i].typ vs[i]with
   |false =>
    rw[hfv]at hfi;have hfl:dU p (d.slots.map Slt.typ) vs=false:=by
     cases hq:dU p (d.slots.map Slt.typ) vs with
     |false=>rfl
     |true =>
      have:=rM hq i (by simpa using hil) hiv;rw[jAw,hfv]at this;cases this
    rw[show jY p id vs fuel=(vz,0,1) by simp[jY,hd,hb,hl,hfl]];simp[hP,zJ,hil,hiv,hdr,hdv,j8]
    intros
    refine z7 hfi (by simp[hP,zB,zF]) (by simp) ?_;simp;exact zA 0 (by simp[fD,zF,qD,zX,zL])
   |true =>
    rw[hfv]at hfi;simp[hP,zJ,hil,hiv,hdr,hdv,j8]
    intros
    refine z7 hfi (by simp[hP,zB,zF]) (by simp) ?_;simp;refine zO (i+1) ⟨hil,fun j hj hj'=>?_⟩ (by omega) (mu [0,1,2,3] 0 (by rfl) (by simp[hP,zK,zJ,hwi]));by_cases hji:j=i
    .subst hji;exact hfv
    .exact hft j (by omega) hj'
  .have hie:i=d.slots.length:=by omega
   subst hie;have hfl:dU p (d.slots.map Slt.typ) vs=true:=zC6 (by simpa using hl) fun j h1 h2=>by rw[jAw];exact hft j (by simpa using h1) (by simpa using h1)
   have hx:jY p id vs fuel=if (nH p d vs fuel).2.fail≠0 then (vz,0,(nH p d vs fuel).2.fail)else ((nH p d vs fuel).1,fuel-(nH p d vs fuel).2.fuel,0):=by simp[jY,hd,hb,hl,hfl]
   generalize jY p id vs fuel=U at hx ⊢;have hty:TyL p (d.slots.map Slt.typ) vs:=TyL.of (by simpa using hl) fun j hj=>by rw[jAw];exact zIi hf (sty _ (jA0 _)) _ (hft j (by omega) (by omega))
   have hbB:fO d=true:=zG6 hb;have hBd:Bd 40000 fuel.toNat ⟨fuel,0,[],[]⟩:=zQZ hfu (by simp);have hIh:UIh p fuel 40000 fuel.toNat (aT p 2 fuel.toNat):=qHU hf.bods (zG7 hf) (by omega) (by omega) (by omega) (N:=fuel) (by omega) (by omega) fuel.toNat (fun h=>by omega);have hbo:=zLj hIh (by omega) d vs (by omega) s6 (fun _ _=>⟨_,_,hf.bods _ d hd hbB,EnvT.args hty fun v hv=>(hz v hv).1,zEc snd vs hl⟩) (by omega) hBd;change mv 142 _ _ (.agg (zF (nH p d vs fuel).1)) (uS p fuel (nH p d vs fuel).2)at hbo;generalize nH p d vs fuel=r at *
   obtain⟨v,s⟩:=r;simp only at *
   have hvl:¬((d.slots.length:Int)<vs.length):=by omega
   simp[hP,zJ,hvl]
   intros
   refine mn hbo [4] (by simp[uS,hP,zJ]) ?_;simp[uS,hP,zF];by_cases h0:s.fail=0
   .rw[if_neg (by simp[h0])]at hx;subst hx;simp[h0]
    first
     |exact⟨by simp[c9],by simp[c9,pI],zA 0 (by simp[fD,zF])⟩
     |exact zA 0 (by simp[fD,zF])
   .rw[if_pos h0]at hx;subst hx;simp[h0]
    first
     |exact⟨by simp[c9],by simp[c9,pI],zA 0 (by simp[fD,zF,qD,zX,zL])⟩
     |exact zA 0 (by simp[fD,zF,qD,zX,zL])
 .rw[show jY p id vs fuel=(vz,0,1) by simp[jY,hd,hb,hl]];have hl':¬((vs.length:Int)=d.slots.length):=by omega
  simp[hl']
  intros
  exact zA 0 (by simp[fD,zF,qD,zX,zL])
end Go.Proofs.YtdnelmeboihpkaaGreatDoor
namespace Go.Proofs.YtdnelmeboihpkaaGreatDoor
open Go Go.Abs
def qGt:List KG:=[⟨none,.box (some 3) (.tmp 0)⟩,⟨none,.alloc (some 6) [(.int .i64 0),(.int .i64 0),(.slice none 0 0)]⟩,⟨none,.alloc (some 7) [(.int .i64 0)]⟩,⟨none,.alloc (some 8) [(.int .i64 0)]⟩]
def qGu:List KG:=[⟨none,.ld (some 10) (.tmp 3) 2 true⟩,⟨none,.mov (some 11) (.tmp 1)⟩,⟨none,.mm (some 12) true [(.tmp 11),(.const (.int .i64 0))]⟩,
 ⟨none,.build (some 13) [(.slice none 0 0),(.slice none 0 0),(.int .i64 0),(.int .i64 0)] [(0,2,(.tmp 10)),(2,1,(.tmp 12))]⟩,⟨none,.box (some 14) (.tmp 13)⟩,⟨none,.mov (some 9) (.tmp 14)⟩]
def zUO:List KG:=[⟨none,.mov (some 16) (.tmp 2)⟩,⟨none,.mov (some 17) (.tmp 9)⟩,⟨none,.call (some 18) (.tmp 16) [(.tmp 17)]⟩,⟨none,.st none (.tmp 6) (.tmp 18) 3⟩]
def qGv:List KG:=[⟨none,.addr (some 19) (.tmp 6) 2⟩,⟨none,.ld (some 20) (.tmp 19) 1 false⟩,⟨none,.call (some 21) (.func 108) [(.tmp 20)]⟩,⟨none,.addr (some 22) (.tmp 6) 2⟩,⟨none,.st none (.tmp 22) (.tmp 21) 1⟩]
def qGw:List (Nat×Nat×KG):=[(0,0,⟨none,.ld (some 23) (.tmp 6) 3 true⟩),(1,0,⟨none,.mov (some 24) (.tmp 9)⟩),(2,0,⟨none,.nilc (some 25) (.tmp 24)⟩),(3,2,⟨none,.addr (some 26) (.tmp 25) 3⟩),(4,2004,⟨none,.ld (some 27) (.tmp 26) 1 false⟩),
 (5,1004,⟨none,.st none (.tmp 6) (.tmp 23) 3⟩),(6,0,⟨none,.st none (.tmp 7) (.tmp 27) 1⟩),(7,0,⟨none,.st none (.tmp 8) (.const (.int .i64 0)) 1⟩)]
def hDo:Nat->Option wD:=fun|5=>k_ [0,0,0,2,2004,1004,0,0]|_=>none
def dfr(pv ps pe:Value):Deferred:={target:=.fn (.func 107) #[pv,ps,pe],args:=#[]}
abbrev sDo(D:St)(p:Prg)(F:Int)(v:Val)(n e:Int)(s:XS):St:=D++[.box (zP p),.box (zF v),.box [int n],.box [int e]]++eS p F s
def zI5(F:Int)(r:Val×XS):A:=if r.2.fail=0 then .tup [.agg (zF r.1),int (F-r.2.fuel),int 0]else .tup [.agg (zF vz),int 0,int r.2.fail]
noncomputable def zXR:K:=zV Tryz.prog Tryz.f71 qB []
theorem qE6:kw Tryz.f71 zXR:=my (by kernel_rfl)
section
variable{p:Prg}{F:Int}{d:Dfn}{us:wI}{s:XS}{r:Val×XS}
abbrev dA(d:Dfn)(us:wI):St:=[.box (zJ d),.box [.sl us.length (zR us)]]
abbrev qN3(G:Int):List (Nat×A):=[(1,int G),(2,.clo 71 [] [.ptr 0 0,.ptr 1 0]),(3,.ptr 2 0),(6,.ptr 3 0),(7,.ptr 4 0),(8,.ptr 5 0)]
abbrev zMx:List (Nat×A):=[(2,.clo 71 [] [.ptr 0 0,.ptr 1 0]),(6,.ptr 3 0),(7,.ptr 4 0),(8,.ptr 5 0),(9,.ptr 6 0)]
theorem zYS{G:Int}(hG:F=max G 0)(hs:s.fuel=F)(hz:r.2.fail=0->qN r.1<=256)
 (hret:r.2.fail=0->mv 71 [.ptr 0 0,.ptr 1 0,.ptr 2 0] (eS p F s++dA d us) (.agg (zF r.1)) (eS p F r.2++dA d us))
 (hpan:r.2.fail≠0->aG Tryz.prog 71 [.ptr 0 0,.ptr 1 0,.ptr 2 0] (eS p F s++dA d us) fun o U'=>o=.pan (zJ4 r.2.fail)/\U'[1]?=some (.box (zJ d))/\U'[2]?=some (.box [.sl us.length (zR us)])) :
 mv 70 [.agg (zP p),int G,.clo 71 [] [.ptr 0 0,.ptr 1 0]] (dA d us) (zI5 F r) (dA d us):=by
 have hP:=eP p;refine zAV (fun H L w vs hst hargs=>?_);have hL:L.length=2:=hst.len
 suffices h:∀R:Ending->World->Prop,(∀(v:Value) (U':St) (H':Mem) (L':wM) (w':World) (r':A),Rel H' L' r' v->Nxt H L w H' L' U' w'->uQ 2 (zI5 F r) (dA d us) (.ret r') U'->R (.returned v) w')->CallsIn Fence.wide 0 Tryz.prog 70 vs.toArray w R from
  callsIn_wide.1 (h _ fun v U' H' L' w' r' g1 g2 g3=>⟨.ret r',U',H',L',⟨v,rfl,g1⟩,g2,g3⟩)
 intro R hR;refine callsIn_of_wp_defers (n:=0) (F:=Fence.wide) Tryz.func70 rfl trivial ?_;refine zBX (n0:=2) (hint:=hDo) (l:=qGt) (N:=28) (by kernel_rfl) (zDj hargs _) hst (Q:=fun x env τ=>x=.norm/\b9 2 (qV (qN3 G))
  (dA d us++[.box (zP p),.box (zF vz),.box [int 0],.box [int 0]]) env τ) ?_ (fun env' τ H' L' w' a' hd' he' hn' hq'=>?_) (fun x _ _ _ _ _ _ hx _ _ _ hq=>(hx hq.1).elim)
 .unfold qGt;simp[hP];exact mu [0,1,2,3,4,5] 0 (by rfl) (by simp[zF,qD,zX,zL])
 obtain⟨H',L',hn',he'⟩:=hq'.2 _ _ _ _ _ _ _ _ hL hn' he';refine zBX (n0:=2) (hint:=hDo) (l:=qGu) (N:=28) (by kernel_rfl) he' hn'.st (Q:=fun x env τ=>x=.norm/\b9 2 (qV zMx) (sDo (dA d us) p F vz 0 0 s) env τ)
  ?_ (fun env' τ H1 L1 w' a' hd'' he1 hn1 hq1=>?_) (fun x _ _ _ _ _ _ hx _ _ _ hq=>(hx hq.1).elim)
 .unfold qGu;simp[hP];exact m_ [0,1,2,3,4,5,6] 0 (by rfl) (by simp[zF,qD,zX,zL,eS,hP,hs];omega) (by simp)
 rw[hd']at hd'';obtain⟨H',L',hn',he'⟩:=hq1.2 _ _ _ _ _ _ _ _ hL (hn'.trans hn1) he1;have hmf:∀(fn:Fn) (first cap:Array Value) (w:World),(Instr.makeFunc fn first cap).run Tryz.prog w=.ok (.func fn first cap) w:=fun _ _ _ _=>rfl
 have hsz:28<=a'.tmps.size:=he'.1;have hsz':15<a'.tmps.size:=by omega
 refine wpIn_seq (wpIn_region_list ?_);simp only[wpListIn];simp[Region.wanted,Oper.wpIn,Oper.uponIn,go_sem,hmf,Exit.then,hsz',hd'',wpListIn];have h6:=he'.2 6;have h7:=he'.2 7;have h8:=he'.2 8;rw[jDv]at h6 h7 h8;have he3:∀X,qO H' L' 28 (qV zMx) (a'.tmps.setIfInBounds 15 X):=fun X=>by
  have:=he'.put (a:=a') (d:=some 15) (fun x hx=>by cases hx;omega) (r:=.any) (v:=X) (by simp[Rel]);have h15:Env.put (qV zMx) (some 15) .any=qV zMx:=by
   funext t;simp only[Env.put];split
   .rename_i ht;subst ht;rfl
   .rfl
  rw[h15]at this;exact this
 generalize a'.tmps[6]?.getD undef=pv at *
 generalize a'.tmps[7]?.getD undef=ps at *
 generalize a'.tmps[8]?.getD undef=pe at *
 have he3:=he3 (Value.func (Fn.func 107) #[] #[pv,ps,pe]);generalize a'.tmps.setIfInBounds 15 (Value.func (Fn.func 107) #[] #[pv,ps,pe])=tm at *
 have idle:∀(pv ps pe:Value) (tm:Array Value) (w3:World) (v:Value),(results Tryz.f70 tm).run Tryz.prog w3=.ok v w3->R (.returned v) w3->LeavesIn Fence.wide 0 Tryz.prog Tryz.f70 tm R [dfr pv ps pe] .returning w3:=fun pv ps pe tm w3 v g1 g2=>by refine leavesIn_cons (f:=107) (args:=#[pv,ps,pe]) (by simp) (by simp[Fence.wide]) (by simp[go_sem]) (fun _ _=>trivial) ?_;refine(zOO pv ps pe w3).mono ?_;rintro e u' w'' ⟨rfl,rfl,rfl⟩;exact⟨v,g1,g2⟩
 by_cases hf:r.2.fail=0
 .refine zBX (n0:=2) (hint:=hDo) (l:=zUO) (N:=28) (by kernel_rfl) he3 hn'.st (Q:=fun x env τ=>x=.norm/\b9 2 (qV zMx) (sDo (dA d us) p F r.1 0 0 r.2) env τ) ?_
   (fun env' τ H1 L1 w1 a1 hd1 he1 hn1 hq1=>?_) (fun x _ _ _ _ _ _ hx _ _ _ hq=>(hx hq.1).elim)
  .unfold zUO;simp[eS,hP];refine mn (hret hf) [6,0,1] (by simp[eS,hP]) ?_;simp[eS,hP,zF];exact mu [0,1,2,3,4,5,6] 0 (by rfl) (by simp[zF])
  obtain⟨H',L',hn',he'⟩:=hq1.2 _ _ _ _ _ _ _ _ hL (hn'.trans hn1) he1;have hco:=zA3 r.1.kids (by have:=hz hf;have:=lQ r.1;omega);refine zBX (n0:=2) (hint:=hDo) (l:=qGv) (N:=28) (by kernel_rfl) he' hn'.st (Q:=fun x env τ=>x=.norm/\b9 2 (qV zMx) (sDo (dA d us) p F r.1 0 0 r.2) env τ) ?_
   (fun env' τ H1 L1 w1 a1 hd2 he1 hn1 hq1=>?_) (fun x _ _ _ _ _ _ hx _ _ _ hq=>(hx hq.1).elim)
  .unfold qGv;simp[eS,hP,zF];refine mq hco (by simp) ?_;simp[eS,hP,zF];exact mu [0,1,2,3,4,5,6] 0 (by rfl) (by simp[zF])
  obtain⟨H',L',hn',he'⟩:=hq1.2 _ _ _ _ _ _ _ _ hL (hn'.trans hn1) he1;refine zTi (n0:=2) (hint:=hDo) (l:=qGw) (N:=28) (by kernel_rfl) he' hn'.st (Q:=fun x env τ=>x=.norm/\b9 2 (qV zMx) (sDo (dA d us) p F r.1 (F-r.2.fuel) 0 r.2) env τ) ?_
   (fun env' τ H1 L1 w1 a1 hd3 he1 hn1 hq1=>?_) (fun x _ _ _ _ _ _ hx _ _ _ hq=>(hx hq.1).elim)
  .unfold qGw;simp[eS,hP,zF]
   try refine⟨(x7 (by decide) (by decide)).2 (by simp[fW]),(zIN (by decide) (by decide)).2 (by simp[pI]),?_⟩
   exact mu [0,1,2,3,4,5,6] 0 (by rfl) (by simp[zF])
  obtain⟨H',L',hn',he'⟩:=hq1.2 _ _ _ _ _ _ _ _ hL (hn'.trans hn1) he1;have hds:a1.defers=[dfr pv ps pe]:=hd3.trans (hd2.trans hd1);refine wpIn_ret ?_;show LeavesIn Fence.wide 0 Tryz.prog Tryz.f70 a1.tmps R a1.defers .returning w1;rw[hds];obtain⟨v,g1,g2⟩:=xA (P:=Tryz.prog) (fn:=Tryz.f70) (rs:=[.cell 6 3 true,.cell 7 1 false,.cell 8 1 false]) (by kernel_rfl) he' hn'.st (a:=.tup [.agg (zF r.1),int (F-r.2.fuel),int 0]) (by simp[zPY,dI,pO,ldA,zF]);exact idle pv ps pe _ _ v g1 (hR v _ _ _ _ _ g2 hn' (mr [0,1] 0 (by rfl) (by simp[zI5,hf,zF])))
 .refine zBX (n0:=2) (hint:=hDo) (l:=zUO) (N:=28) (by kernel_rfl) he3 hn'.st (Q:=fun x env τ=>x=.pan (zJ4 r.2.fail)/\(env 6=.ptr 3 0/\env 7=.ptr 4 0/\env 8=.ptr 5 0)/\τ[0]?=some (.box (zJ d))/\τ[1]?=some (.box [.sl us.length (zR us)]) /\
   τ[3]?=some (.box [int 0,int 0,.sl 0 []])/\τ[4]?=some (.box [int 0])/\τ[5]?=some (.box [int 0])) ?_ (fun env' τ H1 L1 w1 a1 hd1 he1 hn1 hq1=>by cases hq1.1) (fun x env' τ H1 L1 w1 a1 hx hd1 he1 hn1 hq1=>?_)
  .unfold zUO;simp[eS,hP];refine zCr (C:=fun vs w R=>Calls Tryz.prog _ vs.toArray w R) (zAw Tryz.prog _) (hpan hf) [6,0,1] (by decide) (by simp[eS,hP]) (by simp) fun o U1 h0=>?_
   obtain⟨rfl,g1,g2⟩:=h0;have hlen:∀n,3<=(U1.map (cP [6,0,1] n)).length:=fun n=>by rw[jAe];exact(jA4.1 g2).1
   refine⟨rfl,⟨rfl,rfl,rfl⟩,?_,?_,?_,?_,?_⟩
   .rw[nX (js:=[6,0,1]) (hlen _) (by decide) (by simp) (i:=1) rfl,jC0];simp[g1,cP,vwO]
   .rw[nX (js:=[6,0,1]) (hlen _) (by decide) (by simp) (i:=2) rfl,jC0];simp[g2,cP,vwO]
   .rw[mI (by simp) (by simp)];simp[zF,qD,zX,zL]
   .rw[mI (by simp) (by simp)];simp
   .rw[mI (by simp) (by simp)];simp
  .obtain⟨rfl,⟨e6,e7,e8⟩,t0,t1,t3,t4,t5⟩:=hq1;have l3:=(jA4.1 t3).1;have l4:=(jA4.1 t4).1;have l5:=(jA4.1 t5).1;have hds:a1.defers=[dfr pv ps pe]:=hd1;show LeavesIn Fence.wide 0 Tryz.prog Tryz.f70 a1.tmps R a1.defers (.panicking [{v:=zJ4 r.2.fail,recovered:=false}]) w1;rw[hds];refine leavesIn_cons (f:=107) (args:=#[pv,ps,pe]) (by simp) (by simp[Fence.wide]) (by simp[go_sem]) (fun _ _=>trivial) ?_;refine(zJ2 (vs:=[pv,ps,pe]) hn1.st (qW (Rel.mono hn1.step.hle hn1.lle _ h6) (qW (Rel.mono hn1.step.hle hn1.lle _ h7) (qW (Rel.mono hn1.step.hle hn1.lle _ h8) jV))) t3 t4 t5 (by decide) (by decide) (by decide)).mono ?_;rintro e u' w'' ⟨rfl,rfl,H2,L2,hn2⟩;obtain⟨v,g1,g2⟩:=xA (P:=Tryz.prog) (fn:=Tryz.f70) (rs:=[.cell 6 3 true,.cell 7 1 false,.cell 8 1 false]) (by kernel_rfl) (he1.mono hn2.step.hle hn2.lle) hn2.st (a:=.tup [.agg [int 0,int 0,.nil],int 0,int r.2.fail])
    (by simp[zPY,dI,pO,ldA,e6,e7,e8,jDm,l3,l4,l5])
   exact⟨v,g1,hR v _ _ _ _ _ g2 (hn'.trans (hn1.trans hn2)) (mr [0,1] 0 (by rfl) (by simp[t0,t1,zI5,hf,zF,qD,zX,zL]))⟩
end
end Go.Proofs.YtdnelmeboihpkaaGreatDoor
namespace Go.Proofs.YtdnelmeboihpkaaGreatDoor
open Go.Abs
theorem zV9(p:Prg)(d:Dfn)(vs:wI)(fuel:Int):Fl (nH p d vs fuel).2:=zJj (zK5 2 fuel.toNat) d vs _ (.inl rfl)
end Go.Proofs.YtdnelmeboihpkaaGreatDoor

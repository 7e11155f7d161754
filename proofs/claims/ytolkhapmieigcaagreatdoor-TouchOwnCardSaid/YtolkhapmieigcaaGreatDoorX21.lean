/- Inputs of a test: the same in programs with the same heads, and never none. -/
import Derived.Test.YtolkhapmieigcaaGreatDoorX20
set_option linter.unusedVariables false
set_option maxHeartbeats 8000000
set_option maxRecDepth 100000
set_option linter.unusedSimpArgs false
open Go.Proofs.Tryz
namespace Go.Proofs.YtolkhapmieigcaaGreatDoor
open Go.Abs
structure SameI(p q:Prg):Prop where
 valid:∀t,cI q t=cI p t
 kind:∀r,(dfn q r).kind=(dfn p r).kind
 types:∀r,(dfn q r).slots.map Slt.typ=(dfn p r).slots.map Slt.typ
theorem zEt{p q:Prg}(h:SameI p q)(m:Int):∀(n:Nat) (t:Typ),jH q m n t=jH p m n t
 | 0,t=>by simp only[jH,h.valid]
 |n+1,t=>by
  have e:∀r,(dfn q r).slots.map (fun s=>jH p m n s.typ)=(dfn p r).slots.map fun s=>jH p m n s.typ:=fun r=>by have h1:=congrArg (List.map fun t=>jH p m n t) (h.types r);simp only[jBy]at h1;exact h1
  simp only[jH,h.valid,h.kind,e,zEt h m n]
theorem zEP{p q:Prg}(h:SameI p q)(m:Int):∀(n:Nat) (t:Typ),bW q m n t=bW p m n t
 | 0,t=>rfl
 |n+1,t=>by
  have e:∀r,(dfn q r).slots.map (fun s=>bW p m n s.typ)=(dfn p r).slots.map fun s=>bW p m n s.typ:=fun r=>by have h1:=congrArg (List.map fun t=>bW p m n t) (h.types r);simp only[jBy]at h1;exact h1
  simp only[bW,h.kind,e,zEP h m n]
def sameI(l m:List Slt):Prop:=l.map (fun s=>(s.typ,s.most))=m.map fun s=>(s.typ,s.most)
theorem zBG{p q:Prg}(h:SameI p q):∀(l m:List Slt) (n:Int),sameI l m->bY q n m=bY p n l
 |[],[],n,_=>rfl
 |s::l,u::m,n,e=>by
  unfold sameI at e;simp only[jAd,jBd,jBh]at e;obtain⟨⟨e1,e2⟩,e3⟩:=e;have hz:size q u.most u.typ=size p s.most s.typ:=by unfold size;rw[zEt h,e1,e2]
  unfold bY;rw[hz,<-e2];split
  .rfl
  split
  .rfl
  split
  .rfl
  .exact zBG h l m _ e3
 |[],_::_,_,e=>by simp[sameI]at e
 |_::_,[],_,e=>by simp[sameI]at e
variable{p q:Prg}{l m:List Slt}
theorem zIW(h:SameI p q)(e:sameI l m):jW q m=jW p l:=by
 have h1:dN q m=dN p l:=by
  unfold dN;have h2:=congrArg (List.map fun x:Typ×Int=>bW p x.2 24 x.1) e;simp only[jBy]at h2;have h3:(fun s:Slt=>bW q s.most 24 s.typ)=(fun x:Typ×Int=>bW p x.2 24 x.1)∘fun s=>(s.typ,s.most):=by funext s;exact zEP h s.most 24 s.typ
  rw[h3];exact h2.symm
 unfold jW;rw[zBG h l m 1 e,h1]
theorem zLj:∀(z:List Sz) (a b:Int),(∀k∈z,0<k.a)->0<a->(nU a b z).e=0->0<(nU a b z).a
 |[],a,b,_,ha,_=>ha
 |k::z,a,b,h,ha,he=>by
  simp only[nU]at he ⊢;split at he
  .simp at he
  .rename_i hn;rw[if_neg hn];exact zLj z _ _ (fun x hx=>h x (jAk _ hx)) (Int.mul_pos ha (h k (jAm ..))) he
theorem zJP:∀(z:List Sz) (a b:Int),(∀k∈z,0<k.a)->a<=(gM a b z).a/\(z≠[]->a<(gM a b z).a)
 |[],a,b,_=>by simp[gM]
 |k::z,a,b,h=>by
  have h1:=h k (jAm ..);have ih:=(zJP z (a+k.a) (max b (1+k.b)) fun x hx=>h x (jAk _ hx)).1;simp only[gM];constructor
  .omega
  .intro _;omega
variable{hs:wQ}
theorem zTx(hf:Fit p hs){m:Int}(hm:0<=m){r:Nat}{t:Typ}(h:TyOk hs r t):∀n,(jH p m n t).e=0->0<(jH p m n t).a:=by
 induction h with
 |int r =>
  intro n he;cases n with
  |zero=>unfold jH at he;split at he<;>simp at he
  |succ n =>
   unfold jH at he ⊢;split at he
   .simp at he
   .rename_i hv;rw[if_neg hv,if_pos (show jT.k=0 from rfl)];show 0<2*m+1;omega
 |bool r =>
  intro n he;cases n with
  |zero=>unfold jH at he;split at he<;>simp at he
  |succ n =>
   unfold jH at he ⊢;split at he
   .simp at he
   .rename_i hv;rw[if_neg hv,if_neg (show ¬j9.k=0 by decide),if_pos (show j9.k=1 from rfl)];show (0:Int)<2;omega
 |list r t h ih =>
  intro n he;cases n with
  |zero=>unfold jH at he;split at he<;>simp at he
  |succ n =>
   unfold jH at he ⊢;split at he
   .simp at he
   .rename_i hv;rw[if_neg hv];rw[if_neg (show ¬(jX t).k=0 by simp[jX,Typ.k]),if_neg (show ¬(jX t).k=1 by simp[jX,Typ.k]),if_pos (show (jX t).k=2 from rfl)]at he ⊢;obtain⟨e1,e2,_⟩:=pM he;rw[e2];have hk:(jX t).kids.headD Typ.zero=t:=rfl;rw[hk]at e1 ⊢;by_cases hz:(jH p m n t).e=0
    .have:=ih n hz;have h2:0<=(jH p m n t).a*(jH p m n t).a:=Int.mul_nonneg (by omega) (by omega);unfold dK;rw[if_neg (by simp[hz])];split
     .show (0:Int)<1;omega
     split
     .show 0<1+_;omega
     .show 0<1+_+_;omega
    .exact absurd e1 (by rw[dK,if_pos hz];exact hz)
 |dfn r k h h1 h2 h3 h4 ih =>
  intro n he;cases n with
  |zero=>unfold jH at he;split at he<;>simp at he
  |succ n =>
   obtain⟨d,hd,e⟩:=hf.hd k h;have hdf:dfn p hs[k].id=d:=by unfold dfn;rw[hd];rfl
   have ek:d.kind=hs[k].kind:=by rw[<-e];rfl
   have es:d.slots=hs[k].slots:=by rw[<-e];rfl
   unfold jH at he ⊢;split at he
   .simp at he
   .rename_i hv;rw[if_neg hv];rw[if_neg (show ¬(cO hs[k].id).k=0 by simp[cO,Typ.k]),if_neg (show ¬(cO hs[k].id).k=1 by simp[cO,Typ.k]),if_neg (show ¬(cO hs[k].id).k=2 by simp[cO,Typ.k])]at he ⊢;have hid:(cO hs[k].id).id=hs[k].id:=rfl;rw[hid,hdf,ek,es]at he ⊢;obtain⟨e1,e2,_⟩:=pM he;rw[e2];by_cases hz:rQ (hs[k].slots.map fun s=>jH p m n s.typ)=0
    .have hz0:=iH hz;have hp:∀z∈hs[k].slots.map (fun s=>jH p m n s.typ),0<z.a:=fun z hzm=>by obtain⟨s,hs',rfl⟩:=jA9.1 hzm;exact ih s hs' n (hz0 _ hzm)
     unfold aP at e1 ⊢;rw[if_neg (by simp[hz])]at e1 ⊢;rcases h2 with h2|⟨h2,h5⟩
     .rw[if_pos (by simp[h2])]at e1 ⊢;exact zLj _ 1 1 hp (by omega) e1
     .rw[if_neg (by simp[h2])]at e1 ⊢;exact(zJP _ 0 1 hp).2 (by intro e;rw[List.map_eq_nil_iff]at e;rw[e]at h5;simp at h5)
    .exact absurd e1 (by simp[aP,hz])
theorem zLd:∀(l acc:List wI),(∀x∈l,x≠[])->acc≠[]->l.foldl eG acc≠[]
 |[],acc,_,ha=>ha
 |a::l,acc,h,ha=>by
  refine zLd l (eG acc a) (fun x hx=>h x (jAk _ hx)) fun e=>?_
  have h1:=gL acc a;rw[e]at h1;have h2:0<acc.length:=List.length_pos_iff.2 ha;have h3:0<a.length:=List.length_pos_iff.2 (h a (jAm ..));have h4:=Nat.mul_pos h2 h3;simp at h1;omega
theorem zHJ(hf:Fit p hs)(hl:∀s∈l,TyOk hs 4 s.typ)(h:(jW p l).2=0):(jW p l).1≠[]:=by
 unfold jW at h⊢;split at h
 .rename_i he;exact absurd h he
 .rename_i he;rw[if_neg he];have he:(bY p 1 l).2=0:=by simpa using he
  have hall:=(oL p l 1 he).2;intro e;have e2:yI (dN p l)=[]:=jBx (by have h9:=(zBr rH (yI (dN p l))).length_eq;have e8:bQ rH (yI (dN p l))=[]:=e;rw[e8]at h9;exact h9.symm);refine zLd (dN p l) [[]] (fun x hx=>?_) (by simp) e2;obtain⟨s,hs',rfl⟩:=jA9.1 hx;obtain⟨m0,m1,hz⟩:=hall s hs';have h1:=zTx hf m0 (hl s hs') 24 hz;have h2:=mU p s.most m0 24 s.typ hz;intro e3;rw[e3]at h2;simp at h2;omega
theorem zAG(e:Exp):e∈y7 e:=by rw[gZ];simp
theorem zFH{k:Exp}:∀{l:wH},k∈l->k∈yU l
 |[],h=>by simp at h
 |e::l,h=>by
  rw[yU,jA6];rcases jA1.1 h with rfl|h
  .exact .inl (zAG _)
  .exact .inr (zFH h)
mutual
theorem zEW{e k:Exp}(hk:k∈e.kids):∀r:Exp,e∈y7 r->k∈y7 r
 | .mk i n m f t ks ns,h=>by
  rw[y7,jA1]at h⊢;rcases h with rfl|h
  .exact .inr (zFH hk)
  .exact .inr (zDC hk ks h)
theorem zDC{e k:Exp}(hk:k∈e.kids):∀l:wH,e∈yU l->k∈yU l
 |[],h=>by simp[yU]at h
 |r::l,h=>by
  rw[yU,jA6]at h⊢;rcases h with h|h
  .exact .inl (zEW hk r h)
  .exact .inr (zDC hk l h)
end
theorem tQ{ds:wS}{e:Exp}:e∈yE ds↔∃d∈ds,dU d.kind=true/\e∈y7 d.body:=by
 unfold yE;rw[List.mem_flatMap];constructor
 .rintro⟨d,hd,h⟩;by_cases hb:dU d.kind=true
  .rw[if_pos hb]at h;exact⟨d,hd,hb,h⟩
  .rw[if_neg hb]at h;simp at h
 .rintro⟨d,hd,hb,h⟩;exact⟨d,hd,by rw[if_pos hb];exact h⟩
theorem zFR{ds:wS}{e k:Exp}(h:e∈yE ds)(hk:k∈e.kids):k∈yE ds:=by obtain⟨d,hd,hb,h⟩:=tQ.1 h;exact tQ.2 ⟨d,hd,hb,zEW hk _ h⟩
def Cp(p q:Prg)(e e':Exp):Prop:=e'=e\/(e∈yE p.defs/\e'∈yE q.defs/\e'.id=e.id)
theorem Al.getD{α:Type}{R : α->α->Prop}{z : α}(hz:R z z){l m:List α}(h:Al R l m):∀i:Nat,R (l.getD i z) (m.getD i z):=by
 induction h with
 |nil=>intro i;simpa using hz
 |cons h _ ih =>
  intro i;cases i with
  |zero=>exact h
  |succ i=>simpa using ih i
theorem Al.headD{α:Type}{R : α->α->Prop}{z : α}(hz:R z z){l m:List α}(h:Al R l m):R (l.headD z) (m.headD z):=by
 cases h with
 |nil=>exact hz
 |cons h _=>exact h
theorem zNW{p q:Prg}:∀{l m:wH},bM uN l m=true->(∀k∈l,k∈yE p.defs)->(∀k∈m,k∈yE q.defs)->Al (Cp p q) l m
 |[],[],_,_,_=>.nil
 |[],_::_,h,_,_=>by simp[bM]at h
 |_::_,[],h,_,_=>by simp[bM]at h
 |a::l,b::m,h,h1,h2=>by simp only[bM,jA8,uN,decide_eq_true_eq]at h;exact .cons (.inr ⟨h1 a (by simp),h2 b (by simp),h.1.symm⟩) (zNW h.2 (fun k hk=>h1 k (by simp[hk])) fun k hk=>h2 k (by simp[hk]))
theorem Cp.same(hp:NdN p)(hq:NdN q){e e':Exp}(h:Cp p q e e')(hn:e.id∉nJ p.defs q.defs):e'.id=e.id/\e'.k=e.k/\e'.n=e.n/\e'.ref=e.ref/\Al (Cp p q) e.kids e'.kids:=by
 rcases h with rfl|⟨h1,h2,h3⟩
 .exact⟨rfl,rfl,rfl,rfl,Al.refl (fun _=>.inl rfl) _⟩
 .obtain⟨a,ha⟩:=zDc (idf:=Exp.id) h1;obtain⟨b,hb⟩:=zDc (idf:=Exp.id) h2;have ea:a=e:=hp.eq (vQ ha) h1 (zAb ha);have eb:b=e':=hq.eq (vQ hb) h2 (zAb hb);subst ea;subst eb;rw[h3]at hb;have hs:cH a b=true:=by
   cases hq2:cH a b with
   |true=>rfl
   |false =>
    refine(hn ?_).elim;unfold nJ;rw[yX,jA6];refine .inr ?_;rw[r8,r8,zKL];exact .inl ⟨a,ha,fun b' hb'=>by rw[hb]at hb';cases hb';exact hq2⟩
  simp only[cH,jA8,decide_eq_true_eq]at hs;obtain⟨s1,s2,s3,_,s5⟩:=hs;exact⟨h3,s1.symm,s2.symm,s3.symm,zNW s5 (fun k hk=>zFR h1 hk) fun k hk=>zFR h2 hk⟩
section
variable{p q:Prg}{ev ev':Evl}{c:wG}
def Off(c:wG)(s:XS):Prop:=∀x∈s.ns,x∉c
theorem Off.sub{s t:XS}(h:Off c t)(hs:nC s t):Off c s:=fun x hx=>h x (hs.2 x hx)
def zOV(p q:Prg)(c:wG)(ev ev':Evl):Prop:=∀e e' V s,Cp p q e e'->Off c (ev e V s).2->ev' e' V s=ev e V s
theorem zRy(h:zOV p q c ev ev')(hg:Grow ev)(V:wP){l m:wH}(hl:Al (Cp p q) l m):∀s,Off c (qQ ev V l s).2->qQ ev' V m s=qQ ev V l s:=by
 induction hl with
 |nil=>intro s _;rfl
 | @cons e e' l m h1 _ ih =>
  intro s ho;simp only[qQ]at ho ⊢;have h2:=h e e' V s h1 (ho.sub (hg.all V l _));rw[h2,ih _ ho]
theorem zOh(h:zOV p q c ev ev')(hg:Grow ev)(V:wP)(i:Id){b b':Exp}(hb:Cp p q b b'):∀(l:wI) (r:Val×XS),Off c (j5 ev V i b l r).2->j5 ev' V i b' l r=j5 ev V i b l r
 |[],r,_=>rfl
 |x::l,r,ho=>by simp only[j5]at ho ⊢;have h2:=h b b' (V++[⟨i,0,x⟩]++[⟨i,1,r.1⟩]) r.2 hb (ho.sub (hg.fold V i b l _));rw[h2,zOh h hg V i hb l _ ho]
theorem zNP(h:zOV p q c ev ev'){d d':Dfn}(hi:d'.id=d.id)(hs:d'.slots=d.slots)(hb:Cp p q d.body d'.body)(vs:wI)(s:XS)(ho:Off c (bU ev d vs s).2):bU ev' d' vs s=bU ev d vs s:=by
 unfold bU at ho ⊢;rw[hi,hs];split
 .rfl
 .rename_i hf;rw[if_neg hf]at ho;exact h _ _ _ _ hb ho
theorem zGO(hg:Grow ev)(e:Exp)(V:wP)(s:XS):nC (ev (e.kids.headD .zero) V s).2 (jK ev e V s).2:=by
 unfold jK;generalize ev (e.kids.headD .zero) V s=r at *
 repeat' split
 all_goals first
  |exact nC.rfl' _
  |exact hg _ _ _
  |exact(hg _ _ _).trans (hg.fold _ _ _ _ _)
theorem zPf(h:zOV p q c ev ev')(hg:Grow ev){e e':Exp}(hi:e'.id=e.id)(hk:e'.k=e.k)(hn:e'.n=e.n)(hks:Al (Cp p q) e.kids e'.kids)(V:wP)(s:XS)(ho:Off c (jK ev e V s).2):jK ev' e' V s=jK ev e V s:=by
 have hz:Cp p q .zero .zero:=.inl rfl;have h0:=h _ _ V s (hks.headD hz) (ho.sub (zGO hg e V s));unfold jK at ho ⊢;rw[h0,hk,hn,hi];generalize ev (e.kids.headD .zero) V s=r at *
 by_cases c0:r.2.fail≠0
 .rw[if_pos c0,if_pos c0]
 rw[if_neg c0]at ho ⊢;rw[if_neg c0];by_cases c1:e.k=5
 .rw[if_pos c1]at ho ⊢;rw[if_pos c1];exact h _ _ _ _ (hks.getD hz _) ho
 rw[if_neg c1]at ho ⊢;rw[if_neg c1];by_cases c2:e.k=6
 .rw[if_pos c2]at ho ⊢;rw[if_pos c2];exact h _ _ _ _ (hks.getD hz _) ho
 rw[if_neg c2]at ho ⊢;rw[if_neg c2];by_cases c3:e.k=8
 .rw[if_pos c3,if_pos c3]
 rw[if_neg c3]at ho ⊢;rw[if_neg c3];by_cases c4:e.k=10
 .rw[if_pos c4]at ho ⊢;rw[if_pos c4];exact h _ _ _ _ (hks.getD hz _) ho
 rw[if_neg c4]at ho ⊢;rw[if_neg c4];have h1:=h _ _ V r.2 (hks.getD hz 1) (ho.sub (hg.fold _ _ _ _ _));rw[h1];exact zOh h hg V e.id (hks.getD hz 2) _ _ ho
theorem zTJ(h:zOV p q c ev ev')(hg:Grow ev)(hd:∀r,(dfn q r).id=(dfn p r).id/\(dfn q r).slots=(dfn p r).slots/\Cp p q (dfn p r).body (dfn q r).body)(fl:Nat){e e':Exp}(hi:e'.id=e.id)(hk:e'.k=e.k)(hn:e'.n=e.n)(hr:e'.ref=e.ref)
 (hks:Al (Cp p q) e.kids e'.kids)(V:wP)(s:XS)(ho:Off c (qH p fl ev e V s).2):qH q fl ev' e' V s=qH p fl ev e V s:=by
 unfold qH at ho ⊢;rw[hk,hn,hr];by_cases c0:e.k=0
 .rw[if_pos c0,if_pos c0]
 rw[if_neg c0]at ho ⊢;rw[if_neg c0];by_cases c1:e.k=1
 .rw[if_pos c1,if_pos c1]
 rw[if_neg c1]at ho ⊢;rw[if_neg c1];by_cases c2:e.k=2
 .rw[if_pos c2,if_pos c2]
 rw[if_neg c2]at ho ⊢;rw[if_neg c2];by_cases c3:e.k=5\/e.k=6\/e.k=8\/e.k=10\/e.k=12
 .rw[if_pos c3]at ho ⊢;rw[if_pos c3];exact zPf h hg hi hk hn hks V s ho
 rw[if_neg c3]at ho ⊢;rw[if_neg c3];by_cases c4:e.k=3
 .rw[if_pos c4]at ho ⊢;rw[if_pos c4];rw[zRy h hg V hks s (ho.sub (hg.body _ _ _))];obtain⟨d1,d2,d3⟩:=hd e.ref;exact zNP h d1 d2 d3 _ _ ho
 rw[if_neg c4]at ho ⊢;rw[if_neg c4];have hal:Off c (qQ ev V e.kids s).2:=by
  revert ho
  repeat' split
  all_goals exact fun h=>h
 rw[zRy h hg V hks s hal]
end
theorem zVh(r:Val×XS):(lP r).ns=r.2.ns:=by unfold lP;split<;>rfl
theorem zOy{p q:Prg}(hp:NdN p)(hq:NdN q)(hd:∀r,(dfn q r).id=(dfn p r).id/\(dfn q r).slots=(dfn p r).slots/\Cp p q (dfn p r).body (dfn q r).body)(fl:Nat):∀n:Nat,zOV p q (nJ p.defs q.defs) (bC p fl n) (bC q fl n)
 | 0,e,e',V,s,_,_=>by rw[bC,bC]
 |n+1,e,e',V,s,hc,ho=>by
  rw[bC]at ho ⊢;rw[bC];by_cases hf:s.fail≠0
  .rw[if_pos hf,if_pos hf]
  rw[if_neg hf]at ho ⊢;rw[if_neg hf];by_cases hu:s.fuel<=0
  .rw[if_pos hu,if_pos hu]
  rw[if_neg hu]at ho ⊢;rw[if_neg hu];have ho1:Off (nJ p.defs q.defs) (qH p fl (bC p fl n) e V (fE e s)).2:=fun x hx=>ho x (by show x∈(lP _).ns;rw[zVh];exact hx)
  have hg:=zKS p fl n;have hgv:nC (fE e s) (qH p fl (bC p fl n) e V (fE e s)).2:=zGC (I:=nC (fE e s)) (zG3 _) (fun e V t ht=>ht.trans (hg e V t)) fl e V _ (nC.rfl' _);have hid:e.id∉nJ p.defs q.defs:=ho1 e.id (hgv.2 e.id (by show e.id∈s.ns++[e.id];simp));obtain⟨s1,s2,s3,s4,s5⟩:=hc.same hp hq hid;have ht:fE e' s=fE e s:=by unfold fE;rw[s1]
  rw[ht,zTJ (zOy hp hq hd fl n) hg hd fl s1 s2 s3 s4 s5 V _ ho1]
section
variable{p q:Prg}(hA:TwP p q)
include hA
variable{d:Dfn}
omit hA in
theorem TwP.cp{d':Dfn}(hd:d∈p.defs)(hd':d'∈q.defs)(h:TwD TwQ d d'):Cp p q d.body d'.body:=by
 cases hb:dU d.kind with
 |true =>
  have hk:d'.kind=d.kind:=by rw[h.eq];rfl
  exact .inr ⟨tQ.2 ⟨d,hd,hb,zAG _⟩,tQ.2 ⟨d',hd',by rw[hk];exact hb,zAG _⟩,h.q.1.1⟩
 |false=>exact .inl (h.no hb)
theorem TwP.dfn(r:Id):(dfn q r).id=(dfn p r).id/\(dfn q r).slots=(dfn p r).slots/\Cp p q (dfn p r).body (dfn q r).body:=by
 unfold Proofs.YtolkhapmieigcaaGreatDoor.dfn;rcases TwP.find hA r with ⟨h1,h2⟩|⟨d,d',h1,h2,h⟩
 .rw[h1,h2];exact⟨rfl,rfl,.inl rfl⟩
 .rw[h1,h2];refine⟨?_,?_,TwP.cp (yD h1).1 (yD h2).1 h⟩
  .show d'.id=d.id;rw[h.eq];rfl
  .show d'.slots=d.slots;rw[h.eq];rfl
theorem TwP.run(hp:NdN p){id:Id}{d':Dfn}(h1:qG p.defs id=some d)(h2:qG q.defs id=some d')(h:TwD TwQ d d')(vs:wI)(fuel:Int)(ho:Off (nJ p.defs q.defs) (eM p d vs fuel).2) :
 eM q d' vs fuel=eM p d vs fuel:=by
 have hi:d'.id=d.id:=by rw[h.eq];rfl
 have hs:d'.slots=d.slots:=by rw[h.eq];rfl
 unfold eM at ho ⊢;have hr:cS q d'.slots []=cS p d.slots []:=by rw[hs];exact zLh (TwP.to0 hA) (Al.refl (fun _=>⟨rfl,rfl,rfl⟩) _) []
 rw[hr];exact zNP (zOy hp (TwP.nd hA hp) (TwP.dfn hA) 1 fuel.toNat) hi hs (TwP.cp (yD h1).1 (yD h2).1 h) vs _ ho
theorem TwP.call(hp:NdN p){id:Id}(hd:qG p.defs id=some d)(hkd:dU d.kind=true)(vs:wI)(fuel:Int)(ho:∀x∈(j8 p id vs fuel).ns,x∉nJ p.defs q.defs) :
 j8 q id vs fuel=j8 p id vs fuel/\bF q id vs fuel=bF p id vs fuel:=by
 rcases TwP.find hA id with ⟨h1,h2⟩|⟨d0,d',h1,h2,h⟩
 .rw[h1]at hd;cases hd
 .rw[h1]at hd;cases hd;have hk:d'.kind=d.kind:=by rw[h.eq];rfl
  have hs:d'.slots=d.slots:=by rw[h.eq];rfl
  have hb:dG d'=true:=by unfold dG;rw[hk];exact rN hkd
  have hb0:=rN hkd;have hft:=zAZ (TwP.to0 hA) vs (d.slots.map Slt.typ);by_cases hl:vs.length=d.slots.length
  .cases hfl:aM p (d.slots.map Slt.typ) vs with
   |true =>
    rw[hfl]at hft;have hr:=TwP.run hA hp h1 h2 h vs fuel fun x hx=>ho x (by
     have:j8 p id vs fuel=zFw (eM p d vs fuel):=by simp[j8,h1,hkd,hl,hfl]
     rw[this];exact yX.2 hx)
    constructor
    .simp[j8,h1,h2,hk,hs,hkd,hl,hfl,hft,hr]
    .simp[bF,h1,h2,hb,hb0,hs,hl,hfl,hft,hr]
   |false =>
    rw[hfl]at hft;constructor
    .simp[j8,h1,h2,hk,hs,hkd,hl,hfl,hft]
    .simp[bF,h1,h2,hb,hb0,hs,hl,hfl,hft]
  .constructor
   .simp[j8,h1,h2,hk,hs,hkd,hl]
   .simp[bF,h1,h2,hb,hb0,hs,hl]
end
def zS0:Nat->Option wE:=fun|2=>k_ [0,0,0,2,2003,0,0,1003,0]|_=>none
theorem zQ8(x y:Id):my 43 [.agg (zS x),.agg (zS y)] [] (int (iM x y)) []:=by
 refine mq [] [.slot 4] func43 (by kernel_rfl) ?_
 (conv in kq _ _=>cbv)
 simp -implicitDefEqProofs [zS];refine qC (dH x.a y.a) (by simp) (by simp) ?_;simp -implicitDefEqProofs;refine qC (dH x.b y.b) (by simp) (by simp) ?_;simp -implicitDefEqProofs;refine qC (dH x.c y.c) (by simp) (by simp) ?_;simp -implicitDefEqProofs;refine qC (zO2 [aW x.a y.a,aW x.b y.b,aW x.c y.c]) (by simp) (by simp) ?_;simp -implicitDefEqProofs;exact zB 0 (by simp[iM])
theorem zU7:∀args w,(callFunc 43 args).run prog w=.ok (.enter 43 args) w:=enters_of func43 (by kernel_rfl) rfl
theorem qAc:zC9 prog 42 43 zS iM :=
 zT4 (k:=3) (fun _=>rfl) iZ zQ8 fun α _ enc hk h1 cf hO blk off cap d w hcmp hH hblk hsz =>
  Go.Proofs.AnyQ.slices_SortFunc zMO 3 isAgg32 sizeOf32 enc hk h1 cf hO 43 #[] blk off cap d w zU7 hcmp hH hblk hsz
theorem zL8(l:wG)(hmx:l.length<4611686018427387904):my 42 [.row 0 l.length,.clo 43 [] []] [.row false 32 3 l.length (zY l)] (.tup []) [.row false 32 3 l.length (zY (bQ iM l))]:=by
 have:=zG1 (sz:=3) (by omega) (fun _=>rfl) (fun b=>by simp[zS]) iZ 32 qAc zJg l hmx
 simpa only[zDK]using this
def tsD(l:wS):wG:=(l.filter fun d=>decide (d.kind=4)).map Dfn.id
@[simp]theorem qKk:tsD []=[]:=rfl
variable{i:Nat}
theorem zLD{l:wS}(h:i<l.length):tsD (l.take (i+1))=tsD (l.take i)++(if l[i].kind=4 then [l[i].id]else []):=by unfold tsD;rw[jA7 h,jCw,jBa];by_cases h4:l[i].kind=4<;>simp[h4]
theorem pY(l:wS):(tsD l).length<=l.length:=by unfold tsD;rw[jAb];exact jBp _ _
theorem zCy(p:Prg)(hL:p.defs.length<=1000000):my 13 [.agg (zI p)] [] (.sl (cT p).length (zY (cT p))) []:=by
 have e:cT p=bQ iM (tsD p.defs):=rfl;rw[e];have hlen:(bQ iM (tsD p.defs)).length=(tsD p.defs).length:=(fZ _).length_eq;have hle:(tsD p.defs).length<=p.defs.length:=pY p.defs;refine mq [] [.slot 2] func13 (by kernel_rfl) ?_
 (conv in kq _ _=>cbv)
 simp -implicitDefEqProofs [zI];intro hl;refine qI (S:=Nat) (fun i=>[(1,.ptr 0 0),(3,.row 1 (tsD (p.defs.take i)).length),(7,.sl p.defs.length (zQ p.defs)),(8,int p.defs.length),(9,int i)])
  (fun i=>[.box (zI p),.row false 32 3 (tsD (p.defs.take i)).length (zY (tsD (p.defs.take i)))])
  (fun i=>i<=p.defs.length) (fun i=>p.defs.length-i) 0 (by simp)
  ((jS (t:=3) (by simp) 32 3).trans (mw [0,1] 0 (by rfl) (by simp[zI]))) ?_
 intro i hi;by_cases h:i<p.defs.length
 .have hcd:=yA h;have hsn:=zLD h;have hll:=pY (p.defs.take i);have htl:(p.defs.take i).length<=i:=by simp;omega
  generalize tsD (p.defs.take i)=L at *
  have hw:=zZ h hl;generalize p.defs[i]=d at *
  by_cases hk:d.kind=4
  .rw[if_pos hk]at hsn;simp -implicitDefEqProofs [h,hcd,zJ,hk];refine⟨⟨by simp[maxLen];omega,by omega⟩,?_⟩;exact zO (i+1) h (by omega) (mw [0,1] 0 (by rfl) (by simp[zI,hsn,qO,fW,hw]))
  .rw[if_neg hk,jAt]at hsn;simp -implicitDefEqProofs [h,hcd,zJ,hk];exact zO (i+1) h (by omega) (mw [0,1] 0 (by rfl) (by simp[zI,hsn,hw]))
 .have hie:i=p.defs.length:=by omega
  subst hie;rw[jAs];have hs:=zL8 (tsD p.defs) (by omega);simp -implicitDefEqProofs;refine mr hs [1] (by simp) ?_;simp -implicitDefEqProofs;exact zB 1 (by simp[hlen])
def zS2(p:Prg)(t:Id):A:=.tup [.agg (zJ ((qG p.defs t).getD .zero)),bl (cF p t)]
theorem zIQ(p:Prg)(t:Id):cF p t=((qG p.defs t).isSome&&decide (((qG p.defs t).getD .zero).kind=4)):=by
 unfold cF testD;cases qG p.defs t with
 |none=>rfl
 |some d=>by_cases h:d.kind=4<;>simp[h]
theorem zEG(p:Prg)(t:Id):my 44 [.agg (zI p),.agg (zS t)] [] (zS2 p t) []:=by
 have hd:=lO p t;have he:=zIQ p t;unfold zS2;unfold dI at hd;generalize (qG p.defs t).getD .zero=d at *
 refine mn zS0 [] [.cell 4 31 true,.slot 5] func44 (by kernel_rfl) ?_
 (conv in zV _ _ _ _=>cbv)
 simp -implicitDefEqProofs [zI];refine mu hd (by simp[zI,zS]) ?_;cases hs:(qG p.defs t).isSome with
 |true =>
  rw[hs]at he;simp -implicitDefEqProofs [zJ];exact zB 0 (by simp[zJ,he])
 |false =>
  rw[hs]at he;simp -implicitDefEqProofs [zJ];exact zB 0 (by simp[zJ,he])
variable{x:wI}
theorem zF9(hx:x∈(jW p l).1):(bY p 1 l).2=0/\x∈yI (dN p l):=by
 unfold jW at hx;split at hx
 .simp at hx
 .rename_i h;exact⟨by simpa using h,(zBr _ _).mem_iff.1 hx⟩
theorem zMJ(hx:x∈(jW p l).1):x.length=l.length:=by have:=zHY (zF9 hx).2;rw[this];simp[dN]
theorem zBX(hx:x∈(jW p l).1):∀v∈x,qY v<=256/\eW v<=24:=by intro v hv;obtain⟨h0,h1⟩:=zF9 hx;obtain⟨q,hq,hvq⟩:=zNf h1 hv;obtain⟨s,hs,rfl⟩:=jA9.1 hq;obtain⟨m0,m1,he⟩:=(oL p l 1 h0).2 s hs;have a:=zEQ p s.most ⟨m0,m1⟩ 24 s.typ he v hvq;have b:=(eF p s.most ⟨m0,m1⟩ 24 s.typ he).2.2.2;omega
theorem vS(p:Prg)(l:List Slt):(jW p l).1.length<=4096:=by
 unfold jW;split
 .simp
 .rename_i h;have h:(bY p 1 l).2=0:=by simpa using h
  obtain⟨hk,_⟩:=oL p l 1 h;have hle:=zCQ p l 1 (by decide) (by decide);show (bQ rH (yI (dN p l))).length<=4096;rw[(zBr _ _).length_eq,yI,nT];simp only[jAc,jB4];omega
variable{fuel:Int}
theorem zFd(hf:Fit p hs)(t:Id)(vs:wI)(h0:0<=fuel)(hfu:fuel<=90000):(j8 p t vs fuel).ds.length<=100000/\(j8 p t vs fuel).ns.length<=100000:=by
 unfold j8;cases hd:qG p.defs t with
 |none=>simp
 |some d =>
  simp only;split
  .simp
  split
  .simp
  split
  .simp
  .have hdm:=(yD hd).1;obtain⟨_,_,_,_,sty⟩:=hf.slots d hdm;have hrl:RL p (cS p d.slots []):=RL.fold (fun(s:Slt) L=>yG p 10 s.typ L) d.slots [] (fun s hs' L hL=>((zLi hf ⟨0,0,[],[]⟩ rfl (sty s hs') 10 (by omega)) L hL).1) ⟨by simp,by simp⟩;have hL8:=hrl.len hf;have hBd:Bd 100000 fuel.toNat ⟨fuel,0,cS p d.slots [],[]⟩:=⟨by simp;omega,by simp only;omega,by simp only;omega,fun _=>by simp only;omega⟩;have hrB:=zFa (zCi (p:=p) 1 fuel.toNat) d vs _ hBd;have h1:=hrB.ds;have h2:=hrB.ns;have h3:=eE (eM p d vs fuel).2.ds;have h4:=eE (eM p d vs fuel).2.ns;change (eM p d vs fuel).2.ds.length+(eM p d vs fuel).2.fuel.toNat<=100000 at h1;change (eM p d vs fuel).2.ns.length+(eM p d vs fuel).2.fuel.toNat<=100000 at h2;show (aT (eM p d vs fuel).2.ds).length<=_/\(aT (eM p d vs fuel).2.ns).length<=_;omega
theorem zC0{p:Prg}{hs:wQ}(hf:Fit p hs)(t:Id){fuel:Int}(h0:0<=fuel)(hfu:fuel<=90000):∀(xs:List wI) (acc:Trc),
 (aJ p t fuel acc xs).1.defs.length<=acc.defs.length+100000*xs.length/\(aJ p t fuel acc xs).1.nodes.length<=acc.nodes.length+100000*xs.length
 |[],acc=>by simp[aJ]
 |x::xs,acc=>by
  obtain⟨c1,c2⟩:=zFd hf t x h0 hfu;unfold aJ;split
  .simp[trz]
  .have ih:=zC0 hf t h0 hfu xs (bV acc ⟨(j8 p t x fuel).ds,(j8 p t x fuel).ns⟩);have e1:=eE (acc.defs++(j8 p t x fuel).ds);have e2:=eE (acc.nodes++(j8 p t x fuel).ns);simp only[jA4]at e1 e2;simp only[bV,jAc]at ih ⊢;omega
theorem zLB(hf:Fit p hs)(t:Id)(h0:0<=fuel)(hfu:fuel<=90000):(lD p t fuel).1.defs.length<=409600000/\(lD p t fuel).1.nodes.length<=409600000:=by
 unfold lD;split
 .simp[trz]
 .rename_i d _;split
  .simp[trz]
  .have:=zC0 hf t h0 hfu (jW p d.slots).1 trz;have hm:=vS p d.slots;simp only[trz,jB4]at this ⊢;omega
theorem zBp(hf:Fit p hs)(t:Id)(h0:0<=fuel)(hfu:fuel<=90000):(yF p t fuel).1.defs.length<=409600000/\(yF p t fuel).1.nodes.length<=409600000:=by
 unfold yF;split
 .exact zLB hf t h0 hfu
 .simp[trz]
def kD(n:Int):Id:=⟨0,1,n⟩
def zSm(n r:Int):Exp:=.mk (kD 15) 5 0 .zero .zero [.mk (kD 12) 4 5 .zero .zero [.mk (kD 11) 0 9 .zero .zero [] [],.mk (kD 10) 2 0 (kD 4) .zero [] []] [],.mk (kD 13) 0 r .zero .zero [] [],.mk (kD 14) 0 n .zero .zero [] []] []
def uQ:Dfn:=⟨kD 1,4,.zero,⟨#[116]⟩,[⟨kD 3,⟨#[97]⟩,.zero,2,0⟩],.zero,.mk (kD 17) 3 0 (kD 2) .zero [.mk (kD 16) 2 0 (kD 3) .zero [] []] [],0,[]⟩
def vM(n r:Int):Dfn:=⟨kD 2,2,.zero,⟨#[102]⟩,[⟨kD 4,⟨#[120]⟩,.zero,0,0⟩],.zero,zSm n r,0,[]⟩
def exT(n r:Int):Prg:=⟨[],[uQ,vM n r]⟩
theorem zZe(n r:Int):qG (exT n r).defs (kD 2)=some (vM n r):=by rfl
theorem gG{n r:Int}(h1 : -1099511627776<=n/\n<=1099511627776)(h2 : -1099511627776<=r/\r<=1099511627776):Fit (exT n r) ((exT n r).defs.map Dfn.hd):=by
 refine⟨rfl,by simp[exT],by simp[exT,uQ,vM,kD],?_,?_,?_⟩
 .intro d hd;simp only[exT,jA1,jAr,or_false]at hd;rcases hd with rfl|rfl
  .exact⟨by simp[uQ],by simp[uQ],by simp[uQ],by simp[uQ],fun s hs=>by simp[uQ]at hs;subst hs;exact .int _⟩
  .exact⟨by simp[vM],by simp[vM],by simp[vM],by simp[vM],fun s hs=>by simp[vM]at hs;subst hs;exact .int _⟩
 .intro d hd;simp only[exT,jA1,jAr,or_false]at hd;rcases hd with rfl|rfl
  .simp[uQ]
  .simp[vM]
 .intro r' d hd hb;have hm:=(yD hd).1;simp only[exT,jA1,jAr,or_false]at hm;rcases hm with rfl|rfl
  .show WE (exT n r) [⟨kD 3,0,jT⟩] (.mk (kD 17) 3 0 (kD 2) .zero [.mk (kD 16) 2 0 (kD 3) .zero [] []] []) jT;refine .call _ _ _ _ _ _ _ (by simp) (vM n r) (zZe n r) rfl rfl fun j hj=>?_
   have:j=0:=by simp at hj;omega
   subst this;exact .var _ _ _ _ _ _ _ (by simp[fC];rfl)
  .show WE (exT n r) [⟨kD 4,0,jT⟩] (zSm n r) jT;refine .ite _ _ _ _ _ _ _ _ _ _ (.op _ _ _ _ _ _ _ (by simp) [jT,jT] j9 .less rfl fun j hj=>?_) (.int _ _ _ _ _ _ h2.1 h2.2) (.int _ _ _ _ _ _ h1.1 h1.2);have:j=0\/j=1:=by simp at hj;omega
   rcases this with rfl|rfl
   .exact .int _ _ _ _ _ _ (by decide) (by decide)
   .exact .var _ _ _ _ _ _ _ (by simp[fC])
theorem cD(n r:Int):FineP (exT n r):=by
 refine FineP.mk' (by simp[exT]) (by simp[exT]) fun d hd=>?_
 simp only[exT,jA1,jAr,or_false]at hd;rcases hd with rfl|rfl
 .exact⟨by simp[uQ],by simp[uQ],by simp[uQ,Exp.nice,bO],by simp[uQ,tmps,jJ]⟩
 .exact⟨by simp[vM],by simp[vM],by simp[vM,zSm,Exp.nice,bO],by simp[vM,zSm,tmps,jJ]⟩
theorem nZ(n r:Int):cT (exT n r)=[kD 1]:=by unfold cT;rw[pX iZ];rfl
theorem zPz(n r:Int):cT (bP (exT n r))=[kD 1]:=by unfold cT;rw[pX iZ];rfl
def zKj:List wI:=[[.mk 0 0 []],[.mk 0 (-1) []],[.mk 0 1 []],[.mk 0 (-2) []],[.mk 0 2 []]]
theorem zZf(n r:Int):jW (exT n r) uQ.slots=(zKj,0):=by unfold jW;rw[pX tM.ord];kernel_rfl
def uR:Trc:=⟨[kD 1,kD 2],[kD 10,kD 11,kD 12,kD 14,kD 15,kD 16,kD 17]⟩
theorem zKk(n r:Int):∀v∈zKj,j8 (exT n r) (kD 1) v 50=⟨.mk 0 n [],uR.defs,uR.nodes,0⟩:=by intro v hv;simp only[zKj,jA1,jAr,or_false]at hv;rcases hv with rfl|rfl|rfl|rfl|rfl<;>(unfold j8;simp only[zFw,i7];kernel_rfl)
theorem zP0:bV trz uR=uR:=by unfold bV;simp only[i7];rfl
theorem zBK:bV uR uR=uR:=by unfold bV;simp only[i7];rfl
variable{d:Dfn}
theorem zKl{n:Int}(hd:testD q (kD 1)=some d)(hi:jW q d.slots=(zKj,0))(hc:∀v∈zKj,j8 q (kD 1) v 50=⟨.mk 0 n [],uR.defs,uR.nodes,0⟩):yF q (kD 1) 50=(uR,0):=by
 have e:∀(xs:List wI) (acc:Trc),(∀v∈xs,v∈zKj)->(acc=trz/\xs≠[]\/acc=uR)->aJ q (kD 1) 50 acc xs=(uR,0):=by
  intro xs;induction xs with
  |nil =>
   intro acc _ h;rcases h with ⟨_,h⟩|h
   .exact absurd rfl h
   .rw[aJ,h]
  |cons x xs ih =>
   intro acc hx h;have hj:bV acc uR=uR:=by
    rcases h with ⟨h,_⟩|h
    .rw[h];exact zP0
    .rw[h];exact zBK
   rw[aJ,hc x (hx x (jAm ..)),if_neg (by simp)];show aJ q (kD 1) 50 (bV acc uR) xs=_;rw[hj];exact ih uR (fun v hv=>hx v (jAk _ hv)) (.inr rfl)
 have hh:cF q (kD 1)=true:=by unfold cF;rw[hd];rfl
 unfold yF lD;rw[if_pos hh,hd];simp only;rw[hi,if_neg (by simp)];exact e zKj trz (fun v hv=>hv) (.inl ⟨rfl,by simp[zKj]⟩)
theorem zFx(n r:Int):yF (exT n r) (kD 1) 50=(uR,0):=zKl (d:=uQ) rfl (zZf n r) (zKk n r)
theorem zWX(n r:Int):yF (bP (exT n r)) (kD 1) 50=(uR,0):=zKl (q:=bP (exT n r)) (d:=lU uQ) rfl (by unfold jW;rw[pX tM.ord];kernel_rfl) fun v hv=>by rw[zDG (lT _)];exact zKk n r v hv
theorem zE6(n r:Int):oJ (exT 7 5) (exT 7 6)=[kD 13]/\oJ (exT 7 5) (exT 8 5)=[kD 14]/\oJ (exT 7 5) (exT 9 5)=[kD 14]:=by unfold oJ;simp only[<-sX,i7];exact⟨by kernel_rfl,by kernel_rfl,by kernel_rfl⟩
theorem nM(n r:Int):cF (exT n r) (kD 1)=true/\cF (bP (exT n r)) (kD 1)=true:=⟨rfl,rfl⟩
theorem zUJ:ofT (exT 7 5) (exT 7 6) (bP (exT 7 5)) (kD 1) 50=((false,false),0):=by have h:oJ (exT 7 5) (bP (exT 7 5))=[]:=(zIc _).1;unfold ofT;rw[zFx,zFx,zWX,(zE6 0 0).1,h,(nM 7 5).1,(nM 7 6).1,(nM 7 5).2];simp only[zBK];rfl
theorem zOc:ofT (exT 7 5) (exT 8 5) (bP (exT 7 5)) (kD 1) 50=((true,false),0):=by have h:oJ (exT 7 5) (bP (exT 7 5))=[]:=(zIc _).1;unfold ofT;rw[zFx,zFx,zWX,(zE6 0 0).2.1,h,(nM 7 5).1,(nM 8 5).1,(nM 7 5).2];simp only[zBK];rfl
theorem zUK:ofT (exT 7 5) (exT 8 5) (exT 9 5) (kD 1) 50=((true,true),0):=by unfold ofT;rw[zFx,zFx,zFx,(zE6 0 0).2.1,(zE6 0 0).2.2,(nM 7 5).1,(nM 8 5).1,(nM 9 5).1];simp only[zBK];rfl
theorem zUL:ofT (exT 7 5) (exT 7 5) (exT 7 5) (kD 2) 50=((false,false),6):=by
 have h:cF (exT 7 5) (kD 2)=false:=rfl;have hs:yF (exT 7 5) (kD 2) 50=(trz,0):=by unfold yF;rw[if_neg (by rw[h];simp)]
 unfold ofT;rw[hs,h];rfl
theorem zOd:aT ([kD 1]++[kD 1]++[kD 1])=[kD 1]:=by rw[i7];rfl
theorem zUH:zAE (exT 7 5) (exT 8 5) (bP (exT 7 5)) 50=[]:=by unfold zAE;rw[nZ,nZ,zPz,zOd];simp[uK,zOc]
theorem zUI:zAE (exT 7 5) (exT 8 5) (exT 9 5) 50=[kD 1]:=by unfold zAE;rw[nZ,nZ,nZ,zOd];simp[uK,zUK]
def pK(r:Trc×Int):A:=.tup [.agg (yY r.1),int r.2]
theorem zJ5(p:Prg)(t:Id)(fuel:Int){X:List wI}(h:i<X.length)(acc:Trc):aJ p t fuel acc (X.drop i) =
 if (j8 p t X[i] fuel).e≠0 then (trz,(j8 p t X[i] fuel).e)else aJ p t fuel (bV acc ⟨(j8 p t X[i] fuel).ds,(j8 p t X[i] fuel).ns⟩) (X.drop (i+1)):=by
 rw[jB6 h,aJ]
theorem zD1(hf:Fit p hs)(t:Id)(fuel:Int)(h0:0<=fuel)(hfu:fuel<=90000):my 15 [.agg (zI p),.agg (zS t),int fuel] [] (pK (lD p t fuel)) []:=by
 have hP:=eP p;have hh:=zEG p t;have hsm:Sml p:=fun d hd=>by have:=(hf.slots d hd).2.1;omega
 refine mq [] [.cell 6 2 true,.slot 7] func15 (by kernel_rfl) ?_
 (conv in kq _ _=>cbv)
 simp -implicitDefEqProofs [hP];refine mu hh (by simp[hP,zS,zS2]) ?_;unfold zS2 cF lD;cases hd:testD p t with
 |none =>
  generalize (qG p.defs t).getD .zero=d;simp -implicitDefEqProofs [zJ];exact zB 0 (by simp[pK,trz,yY])
 |some d =>
  obtain⟨hfd,hk⟩:=bT hd;have hri:=zAd p hsm d.slots (by have:=(hf.slots d (yD hfd).1).2.1;omega);have hsml:=fun x hx=>zBX (p:=p) (l:=d.slots) (x:=x) hx
  have hmany:=vS p d.slots;rw[hfd];simp only[jBt];generalize jW p d.slots=R at *
  simp -implicitDefEqProofs [zJ];refine mu hri (by simp[hP]) ?_;by_cases he:R.2=0
  .rw[show (if R.2=0 then aJ p t fuel trz R.1 else (trz,R.2))=aJ p t fuel trz R.1 from if_pos he];generalize R.1=X at *
   simp -implicitDefEqProofs [he];intro hl;refine qI (S:=Nat×Trc) (fun s=>[(2,int fuel),(3,.ptr 0 0),(4,.ptr 1 0),(6,.ptr 2 0),(12,.ptr 3 0),(38,.sl X.length (jG X)),(39,int X.length),(40,int s.1)])
    (fun s=>[.box (zI p),.box (zS t),.box (yY trz),.box (yY s.2)])
    (fun s=>s.1<=X.length/\aJ p t fuel trz X=aJ p t fuel s.2 (X.drop s.1)/\s.2.defs.length<=100000*s.1/\s.2.nodes.length<=100000*s.1) (fun s=>X.length-s.1) (0,trz) ⟨by simp,by simp,by simp[trz],by simp[trz]⟩
    (mw [0,1,2,4] 0 (by rfl) (by simp[hP,zS,yY,trz])) ?_
   rintro⟨i,acc⟩ ⟨hi,hgo,hl1,hl2⟩;simp only at hi hgo hl1 hl2;by_cases h:i<X.length
   .have rc:=zTA hf t X[i] fuel hfu (hsml _ (jA0 h));obtain⟨c1,c2⟩:=zFd hf t X[i] h0 hfu;rw[zJ5 p t fuel h]at hgo;have hcd:=zDN h;have hne:¬X=[]:=fun e=>by rw[e]at h;simp at h
    have hw:=zZ h hl;generalize j8 p t X[i] fuel=r at *
    generalize X[i]=x at *
    simp -implicitDefEqProofs [hP,zS,h,hcd,hne];refine mu rc (by simp[hP,zS,oN,zN]) ?_;by_cases hr:r.e=0
    .rw[if_neg (by simp[hr])]at hgo;have rj:=zIZ acc ⟨r.ds,r.ns⟩ (by simp only;omega) (by simp only;omega);have j1:=eE (acc.defs++r.ds);have j2:=eE (acc.nodes++r.ns);simp only[jA4]at j1 j2;simp -implicitDefEqProofs [oN,zN,hr,yY];refine mu rj (by simp[yY]) ?_;simp -implicitDefEqProofs [yY];exact zO (i+1,bV acc ⟨r.ds,r.ns⟩) ⟨h,hgo,by simp only[bV];omega,by simp only[bV];omega⟩ (by simp only;omega) (mw [0,1,2,3] 0 (by rfl) (by simp[hP,zS,yY,trz,bV,hw]))
    .rw[if_pos hr]at hgo;rw[hgo];simp -implicitDefEqProofs [oN,zN,hr,yY];exact zB 0 (by simp[pK,yY,trz])
   .have hie:i=X.length:=by omega
    subst hie;rw[List.drop_length,aJ]at hgo;rw[hgo];simp -implicitDefEqProofs [hP,zS,yY];exact zB 0 (by simp[pK,yY])
  .rw[show (if R.2=0 then aJ p t fuel trz R.1 else (trz,R.2))=(trz,R.2) from if_neg he];simp -implicitDefEqProofs [he];exact zB 0 (by simp[pK,yY,trz])
@[simp]theorem zszN:(ByteArray.mk (Array.mk [122]))=⟨#[122]⟩:=rfl
theorem zsz:(⟨#[122]⟩:ByteArray).size=1:=rfl
theorem zI9{D:wS}{x:Dfn}(h:D[i]?=some x):zQ (D.take (i+1))=zQ (D.take i)++zJ x:=by obtain⟨hi,rfl⟩:=jA5.1 h;rw[jA7 hi,mC];simp[mM]
theorem zIA{D:List Slt}{x:Slt}(h:D[i]?=some x):qP (D.take (i+1))=qP (D.take i)++aF x:=by obtain⟨hi,rfl⟩:=jA5.1 h;rw[jA7 hi,zGQ];simp[zDM]
theorem zOE(p:Prg)(hL:p.defs.length<=100)(hs:∀d∈p.defs,d.slots.length<=100)(hn:∀d∈p.defs,NmD d):my 24 [.agg (zI p)] [] (.agg (zI (bP p))) []:=by
 have hP:=eP p;have hz:=zsz;obtain⟨D,hD⟩:∃D,D=p.defs.map lU:=⟨_,rfl⟩;have hDl:D.length=p.defs.length:=by rw[hD,jAb]
 have hDg:∀(i:Nat) (h:i<p.defs.length),D[i]?=some (lU p.defs[i]):=fun i h=>by rw[hD,jBi,jA2 h];rfl
 have hres:zI (bP p)=[.sl p.mods.length (qA p.mods),.sl p.defs.length (zQ D)]:=by rw[hD];simp[zI,bP]
 rw[hres];clear hD;refine mj [53] [] [] [.cell 2 2 true] func24 (by kernel_rfl) ?_
 (conv in kH _ _ _=>cbv)
 simp -implicitDefEqProofs [hP];refine qI (S:=Nat) (fun i=>[(1,.ptr 0 0),(2,.ptr 1 0),(3,.ptr 2 0),(4,int i)])
  (fun i=>[.box (zI p),.box [.nil,.nil],.box [.sl p.mods.length (qA p.mods),.row 3 i],.row false 42 31 i (zQ (D.take i))]) (fun i=>i<=p.defs.length) (fun i=>p.defs.length-i) 0 (by simp)
  ((yN (l:=2) (o:=1) rfl rfl 42 31).trans (mw [0,1,2,3] 0 (by rfl) (by simp[hP]))) ?_
 intro i hi;by_cases h:i<p.defs.length
 .have hcd:=yA h;have hdg:=hDg i h;obtain⟨hd1,hd2⟩:=hn _ (jA0 h);have hds:=hs _ (jA0 h);have hne:¬p.defs=[]:=fun e=>by rw[e]at h;simp at h
  have hw:=yK i (by omega);generalize p.defs[i]=d at *
  obtain⟨SS,hSS⟩:∃SS,SS=d.slots.map zGk:=⟨_,rfl⟩;have hSl:SS.length=d.slots.length:=by rw[hSS,jAb]
  have hSg:∀(i:Nat) (h:i<d.slots.length),SS[i]?=some (zGk d.slots[i]):=fun i h=>by rw[hSS,jBi,jA2 h];rfl
  have hrd:lU d=⟨d.id,d.kind,d.mod,d.name++⟨#[122]⟩,SS,d.res,d.body,w64 (d.place+3),[]⟩:=by rw[hSS];rfl
  rw[hrd]at hdg;clear hSS hrd;have hts:=zI9 hdg;have hm31:i*31+31<=p.defs.length*31:=by omega
  simp -implicitDefEqProofs [h,hcd,hne,zJ,hP]
  intros
  refine⟨by omega,?_⟩;refine qI (S:=Nat) (fun k=>[(1,.ptr 0 0),(2,.ptr 1 0),(3,.ptr 2 0),(4,int i),(5,.ptr 4 0),(6,.row 5 k),(7,int k)])
   (fun k=>[.box (zI p),.box [.nil,.nil],.box [.sl p.mods.length (qA p.mods),.row 3 i],.row false 42 31 i (zQ (D.take i)),.box (zJ ⟨d.id,d.kind,d.mod,d.name++⟨#[122]⟩,d.slots,d.res,d.body,w64 (d.place+3),[]⟩),.row false 74 11 k (qP (SS.take k))])
   (fun k=>k<=d.slots.length) (fun k=>d.slots.length-k) 0 (by simp)
   ((jS (t:=6) (by simp) 74 11).trans (mw [0,1,2,3,4,5] 0 (by rfl) (by simp[hP,zJ,w64]))) ?_
  intro k hk;by_cases h2:k<d.slots.length
  .have hcs:=qW h2;have hsg:=hSg k h2;have hsz:=hd2 _ (jA0 h2);have hne2:¬d.slots=[]:=fun e=>by rw[e]at h2;simp at h2
   have hw2:=yK k (by omega);generalize d.slots[k]=s at *
   have hrs:zGk s=⟨s.id,s.name++⟨#[122]⟩,s.typ,s.most,s.place⟩:=rfl;rw[hrs]at hsg;have hts2:=zIA hsg;simp -implicitDefEqProofs [h2,hcs,hne2,aF,hP,zJ]
   intros
   refine⟨by omega,?_⟩;refine⟨⟨by simp[maxLen];omega,by omega⟩,?_⟩;exact zO (k+1) h2 (by omega) (mw [0,1,2,3,4,5] 0 (by rfl) (by simp[hP,hts2,aF,zJ,hw2]))
  .have hke:k=d.slots.length:=by omega
   subst hke;have hall:SS.take d.slots.length=SS:=jAl (by omega);rw[hall];simp -implicitDefEqProofs [zJ]
   intros
   refine⟨_,_,zM (l:=[(1,.ptr 0 0),(2,.ptr 1 0),(3,.ptr 2 0),(4,int i),(5,.ptr 4 0),(6,.sl d.slots.length (qP SS))])
    (U':=[.box (zI p),.box [.nil,.nil],.box [.sl p.mods.length (qA p.mods),.row 3 i],.row false 42 31 i (zQ (D.take i)),.box (zJ ⟨d.id,d.kind,d.mod,d.name++⟨#[122]⟩,d.slots,d.res,d.body,w64 (d.place+3),[]⟩)]) [0,1,2,3,4] 1 (by simp) (by decide) (by simp[hP,zJ]) (by simp),?_⟩
   simp -implicitDefEqProofs [zJ];refine⟨⟨by simp[maxLen];omega,by omega⟩,?_⟩;exact zO (i+1) h (by omega) (mw [0,1,2,3] 0 (by rfl) (by simp[hP,hts,zJ,hSl,hw]))
 .have hie:i=p.defs.length:=by omega
  subst hie;have hall:D.take p.defs.length=D:=jAl (by omega);rw[hall];simp -implicitDefEqProofs [hP]
  intros
  exact zB 1 (by simp)
def woD(t:Id)(l:wS):wS:=l.filter fun d=>decide (d.id≠t)
@[simp]theorem qK1(t:Id):woD t []=[]:=rfl
variable{t:Id}
theorem zJ8{l:wS}(h:i<l.length):woD t (l.take (i+1))=woD t (l.take i)++(if l[i].id=t then []else [l[i]]):=by unfold woD;rw[jA7 h,jCw];by_cases h2:l[i].id=t<;>simp[h2]
theorem zEI(p:Prg)(hL:p.defs.length<=100)(t:Id):my 27 [.agg (zI p),.agg (zS t)] [] (.agg (zI (woP p t))) []:=by
 have hP:=eP p;refine mq [] [.cell 4 2 true] func27 (by kernel_rfl) ?_
 (conv in kq _ _=>cbv)
 simp -implicitDefEqProofs [hP];refine qI (S:=Nat) (fun i=>[(2,.ptr 0 0),(3,.ptr 1 0),(4,.ptr 2 0),(5,.ptr 3 0),(6,int i)])
  (fun i=>[.box (zI p),.box (zS t),.box [.nil,.nil],.box [.sl p.mods.length (qA p.mods),.row 4 (woD t (p.defs.take i)).length],.row false 42 31 (woD t (p.defs.take i)).length (zQ (woD t (p.defs.take i)))])
  (fun i=>i<=p.defs.length) (fun i=>p.defs.length-i) 0 (by simp)
  ((yN (l:=3) (o:=1) rfl rfl 42 31).trans (mw [0,1,2,3,4] 0 (by rfl) (by simp[hP,zS]))) ?_
 intro i hi;have hfl:(woD t (p.defs.take i)).length<=i:=jAz (jBp _ _) (by simp;omega);by_cases h:i<p.defs.length
 .have hcd:=yA h;have hts:=zJ8 (t:=t) h;have hne:¬p.defs=[]:=fun e=>by rw[e]at h;simp at h
  have hw:=yK i (by omega);generalize woD t (p.defs.take i)=L at *
  generalize p.defs[i]=d at *
  by_cases hx:d.id=t
  .rw[if_pos hx,jAt]at hts;simp -implicitDefEqProofs [h,hcd,hne,zJ,hP,zS,hx]
   intros
   exact zO (i+1) h (by omega) (mw [0,1,2,3,4] 0 (by rfl) (by simp[hP,hts,zS,hw]))
  .rw[if_neg hx]at hts;simp -implicitDefEqProofs [h,hcd,hne,zJ,hP,zS,hx]
   intros
   refine⟨⟨by simp[maxLen];omega,by omega⟩,?_⟩;exact zO (i+1) h (by omega) (mw [0,1,2,3,4] 0 (by rfl) (by simp[hP,hts,zS,mC,mM,zJ,hw]))
 .have hie:i=p.defs.length:=by omega
  subst hie;rw[jAs];simp -implicitDefEqProofs [hP]
  intros
  exact zB 1 (by simp[zI,show woP p t=⟨p.mods,woD t p.defs⟩ from rfl])
theorem zMf{P:Program} {U:St}{f:FuncId}{l n:Nat}{e:TypeId}{sz:Nat}{cs:wF}(post:wF)(hU:U[l]?=some (.row false e sz n cs)){Q:Out->St->Prop}(h:aK P f (.sl n cs::post) (U.set l (.row true e sz n cs)) Q):aK P f (.row l n::post) U Q:=by
 intro H L w vs hs hvs;obtain⟨v,vs',rfl,h1,h2⟩:=z8 hvs;obtain⟨H',hn,hr⟩:=zJi hs hU h1;refine(h H' L w (v::vs') hn.st (qN hr (qE.mono hn.step.hle hn.lle post h2))).mono fun e w' hh=>?_
 obtain⟨o,U',H2,L2,g1,g2,g3⟩:=hh;exact⟨o,U',H2,L2,g1,hn.trans g2,g3⟩
theorem zNs(p:Prg)(hL:p.defs.length<=100):my 11 [.agg (zI p)] [] (.row 0 (aT (iL p)).length) [.row false 32 3 (aT (iL p)).length (zY (aT (iL p)))]:=by
 have hP:=eP p;have hts0:iL p=tsD p.defs:=rfl;rw[hts0];refine mq [] [.slot 2] func11 (by kernel_rfl) ?_
 (conv in kq _ _=>cbv)
 simp -implicitDefEqProofs [hP];refine qI (S:=Nat) (fun i=>[(1,.ptr 0 0),(3,.row 1 (aT (tsD (p.defs.take i))).length),(4,int i)])
  (fun i=>[.box (zI p),.row false 32 3 (aT (tsD (p.defs.take i))).length (zY (aT (tsD (p.defs.take i))))]) (fun i=>i<=p.defs.length) (fun i=>p.defs.length-i) 0 (by simp)
  ((jS (t:=3) (by simp) 32 3).trans (mw [0,1] 0 (by rfl) (by simp[hP,i7]))) ?_
 intro i hi;have hle:=jAz (eE (tsD (p.defs.take i))) (pY (p.defs.take i));rw[jAv]at hle;by_cases h:i<p.defs.length
 .have hcd:=yA h;have hts:=zLD h;have hss:=pW (tsD (p.defs.take i));have hne:¬p.defs=[]:=fun e=>by rw[e]at h;simp at h
  have hw:=yK i (by omega);have hsn:=zQ0 (tsD (p.defs.take i)) p.defs[i].id;generalize tsD (p.defs.take i)=L at *
  generalize p.defs[i]=d at *
  by_cases hk:d.kind=4
  .rw[if_pos hk]at hts;have hi17:=zPP hss d.id (by omega);generalize aT L=X at *
   simp -implicitDefEqProofs [h,hcd,hne,zJ,hP,hk]
   intros
   refine zMf _ rfl ?_;refine mr hi17 [] (by simp[zS]) ?_;simp -implicitDefEqProofs;exact zO (i+1) h (by omega) (mw [0,2] 0 (by rfl) (by simp[hP,hts,hsn,hw]))
  .rw[if_neg hk,jAt]at hts;simp -implicitDefEqProofs [h,hcd,hne,zJ,hP,hk]
   intros
   exact zO (i+1) h (by omega) (mw [0,1] 0 (by rfl) (by simp[hP,hts,hw]))
 .have hie:i=p.defs.length:=by omega
  subst hie;rw[jAs];simp -implicitDefEqProofs [hP]
  intros
  exact mv [1] 0 (by rfl) (by simp)
theorem zIg(p:Prg)(hL:p.defs.length<=100):my 11 [.agg (zI p)] [] (.sl (aT (iL p)).length (zY (aT (iL p)))) []:=zVG (zNs p hL)
theorem zVI(p:Prg)(hL:p.defs.length<=1000000)(t:Id):my 30 [.agg (zI p),.agg (zS t)] [] (bl (cF p t)) []:=by
 have hd:=sC p hL t;have he:=zIQ p t;unfold dI at hd;generalize (qG p.defs t).getD .zero=d at *
 refine mq [] [.slot 4] func30 (by kernel_rfl) ?_
 (conv in kq _ _=>cbv)
 simp -implicitDefEqProofs [zI];refine mu hd (by simp[zI,zS]) ?_;cases hs:(qG p.defs t).isSome with
 |true =>
  rw[hs]at he;simp -implicitDefEqProofs [zJ];exact zB 0 (by simp[he])
 |false =>
  rw[hs]at he;simp -implicitDefEqProofs [zJ];exact zB 0 (by simp[he])
theorem zTq(t:Id):InvX (fun s=>t∈s.ds) :=
 ⟨fun e s h _=>h,fun d s h=>jA6.2 (.inl h),fun x s h=>h⟩
variable{f:Int}
theorem zHt{vs:wI}(he:(j8 p t vs f).e=0):t∈(j8 p t vs f).ds:=by
 unfold j8 at he ⊢;cases hd:qG p.defs t with
 |none=>rw[hd]at he;simp at he
 |some d =>
  rw[hd]at he;simp only at he ⊢;split at he
  .simp at he
  rename_i h1;split at he
  .simp at he
  rename_i h2;split at he
  .simp at he
  rename_i h3;rw[if_neg h1,if_neg h2,if_neg h3];show t∈aT (eM p d vs f).2.ds;rw[yX];unfold eM bU;rw[if_neg (by simp)];refine oD (zTq t) 1 f.toNat d.body _ _ ?_;have:=(yD hd).2;simp[this]
theorem zOk{p:Prg}{t:Id}{f:Int}:∀(xs:List wI) (acc:Trc),(aJ p t f acc xs).2=0 ->
 (∀x∈acc.defs,x∈(aJ p t f acc xs).1.defs)/\(∀x∈acc.nodes,x∈(aJ p t f acc xs).1.nodes) /\
 ∀v∈xs,(j8 p t v f).e=0/\(∀x∈(j8 p t v f).ds,x∈(aJ p t f acc xs).1.defs)/\∀x∈(j8 p t v f).ns,x∈(aJ p t f acc xs).1.nodes
 |[],acc,_=>⟨fun _ h=>h,fun _ h=>h,fun v hv=>by simp at hv⟩
 |y::ys,acc,h=>by
  unfold aJ at h⊢;by_cases he:(j8 p t y f).e=0
  .rw[if_neg (by simp[he])]at h⊢;obtain⟨k1,k2,k3⟩:=zOk ys _ h;refine⟨fun x hx=>k1 x (yX.2 (jA6.2 (.inl hx))),fun x hx=>k2 x (yX.2 (jA6.2 (.inl hx))),fun v hv=>?_⟩;rcases jA1.1 hv with rfl|hv
   .exact⟨he,fun x hx=>k1 x (yX.2 (jA6.2 (.inr hx))),fun x hx=>k2 x (yX.2 (jA6.2 (.inr hx)))⟩
   .exact k3 v hv
  .rw[if_pos he]at h;exact absurd h he
variable{b:Prg}
theorem zAn(hd:testD b t=some d)(h:(yF b t f).2=0):(jW b d.slots).2=0 /\
 ∀v∈(jW b d.slots).1,(j8 b t v f).e=0/\(∀x∈(j8 b t v f).ds,x∈(yF b t f).1.defs)/\∀x∈(j8 b t v f).ns,x∈(yF b t f).1.nodes:=by
 have hh:cF b t=true:=by unfold cF;rw[hd];rfl
 have e:yF b t f=if (jW b d.slots).2≠0 then (trz,(jW b d.slots).2)else aJ b t f trz (jW b d.slots).1:=by unfold yF;rw[if_pos hh];unfold lD;rw[hd]
 rw[e]at h⊢;by_cases hi:(jW b d.slots).2=0
 .rw[if_neg (by simp[hi])]at h⊢;exact⟨hi,(zOk _ _ h).2.2⟩
 .rw[if_pos hi]at h;exact absurd h hi
theorem zHT{T:Trc}{ids:wG}(h:fV T ids=false):∀x∈ids,x∉T.defs/\x∉T.nodes:=by
 intro x hx;unfold fV at h;rw[List.any_eq_false]at h;have:=h x hx
 simpa using this
theorem zTo(h:bM gU l m=true):sameI l m:=by
 induction l generalizing m with
 |nil=>cases m with
  |nil=>rfl
  |cons y m=>simp[bM]at h
 |cons x l ih=>cases m with
  |nil=>simp[bM]at h
  |cons y m =>
   simp only[bM,jA8,gU,decide_eq_true_eq]at h;obtain⟨⟨_,h2,h3⟩,h4⟩:=h;have:=ih h4;unfold sameI at this ⊢;rw[jAd,jAd,this,(gJ _ _).1 h2,h3]
theorem zAB(hf:Fit b hs)(hd:testD b t=some d)(h:(yF b t f).2=0)(ha:fV (yF b t f).1 (oJ b q)=false) :
 ∃d',testD q t=some d'/\qG q.defs t=some d'/\sameI d.slots d'.slots:=by
 obtain⟨hfd,hk⟩:=bT hd;obtain⟨hi,hv⟩:=zAn hd h;have hne:=zHJ hf (hf.slots d (yD hfd).1).2.2.2.2 hi;obtain⟨v,hvm⟩:=List.exists_mem_of_ne_nil _ hne;obtain⟨c0,c1,_⟩:=hv v hvm;have ht:=c1 t (zHt c0);have hn:t∉oJ b q:=fun hx=>(zHT ha t hx).1 ht
 unfold oJ at hn;rw[<-sX,yX,zEg]at hn;have hn1:t∉zAw Dfn.id yQ b.defs q.defs:=fun hx=>hn (by simp[hx])
 rw[gT]at hn1;have hex:∃d',qG q.defs t=some d'/\yQ d d'=true:=by
  cases hq:qG q.defs t with
  |none=>exact absurd ⟨d,hfd,fun b' hb'=>by rw[show aH Dfn.id q.defs t=qG q.defs t from rfl,hq]at hb';cases hb'⟩ hn1
  |some d' =>
   refine⟨d',rfl,?_⟩;cases hs':yQ d d' with
   |true=>rfl
   |false=>exact absurd ⟨d,hfd,fun b' hb'=>by rw[show aH Dfn.id q.defs t=qG q.defs t from rfl,hq]at hb';cases hb';exact hs'⟩ hn1
 obtain⟨d',h1,h2⟩:=hex;simp only[yQ,jA8,decide_eq_true_eq]at h2;refine⟨d',?_,h1,zTo h2.2.1⟩;unfold testD;rw[h1,Option.filter_some,if_pos (by simp[<-h2.1,hk])]
theorem zRv(h:Al SameS l m):m.map Slt.typ=l.map Slt.typ:=h.map fun _ _ h=>h.typ
theorem zOW(h:AlG SameSG l m):m.map Slt.typ=l.map Slt.typ:=h.map fun _ _ h=>h.typ
theorem TwP.sameI(hA:TwP p q):SameI p q :=
 ⟨fun t=>xM (TwP.to0 hA) 24 t,fun r=>(xY (TwP.to0 hA) r).kind,fun r=>zRv (xY (TwP.to0 hA) r).slots⟩
theorem fH.sameI(hA:fH p q):SameI p q :=
 ⟨fun t=>uF (fH.to0 hA) 24 t,fun r=>(sZ (fH.to0 hA) r).kind,fun r=>zOW (sZ (fH.to0 hA) r).slots⟩
theorem SameI.trans{r:Prg}(h:SameI p q)(k:SameI q r):SameI p r :=
 ⟨fun t=>(k.valid t).trans (h.valid t),fun x=>(k.kind x).trans (h.kind x),fun x=>(k.types x).trans (h.types x)⟩
theorem zJM(hA:fH p q)(id:Id)(vs:wI)(fuel:Int):bF q id vs fuel=bF p id vs fuel:=by
 unfold bF;rcases mP hA id with ⟨h1,h2⟩|⟨d,d',h1,h2,h⟩
 .rw[h1,h2]
 .rw[h1,h2];have hm:d'.slots.map Slt.typ=d.slots.map Slt.typ:=h.slots.map fun _ _ h=>h.typ
  simp only[dG,h.kind,h.slots.len,hm,pO (fH.to0 hA),eM,zCp (fH.to0 hA) h.slots,zAI (zBg hA 1 fuel.toNat) h];rfl
theorem zGs(a d:Dfn):yQ a (lU d)=yQ a d:=by
 have h:∀(l m:List Slt),bM gU l (m.map zGk)=bM gU l m:=by
  intro l;induction l with
  |nil=>intro m;cases m<;>rfl
  |cons x l ih=>intro m;cases m with
   |nil=>rfl
   |cons y m=>simp only[jAd,bM,ih];rfl
 simp only[yQ,lU,h];rfl
theorem zSr(q:Prg)(x:Id):qG (bP q).defs x=(qG q.defs x).map lU:=by show List.find? _ (q.defs.map lU)=(List.find? _ q.defs).map lU;rw[List.find?_map];rfl
theorem zUt(b q:Prg):∀x∈oJ b q,x∈oJ b (bP q):=by
 intro x hx;unfold oJ at *
 rw[<-sX,yX,zEg]at hx ⊢;have hn:yE (bP q).defs=yE q.defs:=by unfold yE bP;rw[List.flatMap_map];rfl
 rw[hn];have hl:∀y,aH Dfn.id (bP q).defs y=(aH Dfn.id q.defs y).map lU:=fun y=>zSr q y
 have h1:∀y,y∈zAw Dfn.id yQ b.defs q.defs->y∈zAw Dfn.id yQ b.defs (bP q).defs:=fun y hy=>by rw[gT]at hy ⊢;obtain⟨a,ha,hb⟩:=hy;refine⟨a,ha,fun b' hb'=>?_⟩;rw[hl,jAf]at hb';obtain⟨c,hc,rfl⟩:=hb';rw[zGs];exact hb c hc
 have h2:∀y,y∈zAw Dfn.id yQ q.defs b.defs->y∈zAw Dfn.id yQ (bP q).defs b.defs:=fun y hy=>by rw[gT]at hy ⊢;obtain⟨a,ha,hb⟩:=hy;refine⟨lU a,by rw[hl,ha];rfl,fun b' hb'=>?_⟩;rw[pU,zGs,pU];exact hb b' hb'
 simp only[jA6]at hx ⊢;rcases hx with (hx|hx)|(hx|hx)
 .exact .inl (.inl (h1 x hx))
 .exact .inl (.inr hx)
 .exact .inr (.inl (h2 x hx))
 .exact .inr (.inr hx)
def zC8(b q:Prg):Prop:=∃q0,TwP b q0/\(q=q0\/q=bP q0)
theorem zC8.sameI(h:zC8 b q):SameI b q:=by
 obtain⟨q0,h0,rfl|rfl⟩:=h
 .exact h0.sameI
 .exact(TwP.sameI h0).trans (fH.sameI (lT q0))
theorem zC8.call(h:zC8 b q)(hp:NdN b)(hd:qG b.defs t=some d)(hk:dU d.kind=true)(vs:wI)(f:Int)(ho:∀x∈(j8 b t vs f).ns,x∉oJ b q) :
 j8 q t vs f=j8 b t vs f/\bF q t vs f=bF b t vs f:=by
 obtain⟨q0,h0,rfl|rfl⟩:=h
 .exact TwP.call h0 hp hd hk vs f ho
 .have:=TwP.call h0 hp hd hk vs f fun x hx hc=>ho x hx (zUt b q0 x hc)
  rw[zDG (lT q0),zJM (lT q0)];exact this
theorem zQC(hf:Fit b hs)(hp:NdN b)(hq:zC8 b q)(hd:testD b t=some d)(h:(yF b t f).2=0)(ha:fV (yF b t f).1 (oJ b q)=false) :
 ∃d',testD q t=some d'/\qG q.defs t=some d'/\jW q d'.slots=jW b d.slots/\∀v∈(jW b d.slots).1,bF q t v f=bF b t v f:=by
 obtain⟨d',h1,h2,h3⟩:=zAB hf hd h ha;obtain⟨hfd,hk⟩:=bT hd;refine⟨d',h1,h2,zIW hq.sameI h3,fun v hv=>?_⟩;obtain⟨_,_,c2⟩:=(zAn hd h).2 v hv;exact(hq.call hp hfd (by rw[hk];decide) v f fun x hx hc=>(zHT ha x hc).2 (c2 x hx)).2
@[simp]theorem qJy{a b c a' b' c':Bool}:zCW [.b,.b,.b] false (.agg [.lit (.bool a),.lit (.bool b),.lit (.bool c)]) (.agg [.lit (.bool a'),.lit (.bool b'),.lit (.bool c')])=some (.lit (.bool ((a==a')&&((b==b')&&(c==c'))))):=by cases a<;>cases b<;>cases c<;>cases a'<;>cases b'<;>cases c'<;>simp[zCW,yP,fX,dE]
@[simp]theorem qJx{a b a' b':Bool}:zCW [.b,.b] false (.agg [.lit (.bool a),.lit (.bool b)]) (.agg [.lit (.bool a'),.lit (.bool b')])=some (.lit (.bool ((a==a')&&(b==b')))):=by cases a<;>cases b<;>cases a'<;>cases b'<;>simp[zCW,yP,fX,dE]
def vH(r:(Bool×Bool)×Int):A:=.tup [.agg [bl r.1.1,bl r.1.2],int r.2]
def rL(b l r:Trc×Int)(i:Nat):wF:=yY (if 0<i then b.1 else trz)++yY (if 1<i then l.1 else trz)++yY (if 2<i then r.1 else trz)
def ofI(b l r:Trc×Int)(i:Nat):Prop:=i<=3/\(0<i->b.2=0)/\(1<i->l.2=0)/\(2<i->r.2=0)
def lZ(b l r:Bool)(i:Nat):wF:=[bl (decide (0<i)&&b),bl (decide (1<i)&&l),bl (decide (2<i)&&r)]
theorem zD0{l r:Prg}{hb hl hr:wQ}(fb:Fit b hb)(fl:Fit l hl)(fr:Fit r hr)(nb:FineP b)(nl:FineP l)(nr:FineP r)(t:Id)(fuel:Int)(h0:0<=fuel)(hfu:fuel<=90000) :
 my 20 [.agg (zI b),.agg (zI l),.agg (zI r),.agg (zS t),int fuel] [] (vH (ofT b l r t fuel)) []:=by
 have hPb:zI b=[.sl b.mods.length (qA b.mods),.sl b.defs.length (zQ b.defs)]:=rfl;have hPl:zI l=[.sl l.mods.length (qA l.mods),.sl l.defs.length (zQ l.defs)]:=rfl;have hPr:zI r=[.sl r.mods.length (qA r.mods),.sl r.defs.length (zQ r.defs)]:=rfl;have wb:=zEG b t;have wl:=zEG l t;have wr:=zEG r t;have tb:=zD1 fb t fuel h0 hfu;have tl:=zD1 fl t fuel h0 hfu;have tr:=zD1 fr t fuel h0 hfu;have kb:=zBp fb t h0 hfu;have rF:=zBp fl t h0 hfu;have kr:=zBp fr t h0 hfu;have c1:=zFg b l nb.small.1 nl.small.1 nb.small.2.1 nl.small.2.1;have c2:=zFg b r nb.small.1 nr.small.1 nb.small.2.1 nr.small.2.1;have sb:yF b t fuel=if cF b t then lD b t fuel else (trz,0):=rfl
 have sl:yF l t fuel=if cF l t then lD l t fuel else (trz,0):=rfl
 have sr:yF r t fuel=if cF r t then lD r t fuel else (trz,0):=rfl
 have hof:ofT b l r t fuel=if (yF b t fuel).2≠0 then ((false,false),(yF b t fuel).2)
  else if (yF l t fuel).2≠0 then ((false,false),(yF l t fuel).2)
  else if (yF r t fuel).2≠0 then ((false,false),(yF r t fuel).2)
  else if (!cF b t&&!cF l t&&!cF r t)=true then ((false,false),6)
  else ((fV (bV (yF b t fuel).1 (yF r t fuel).1) (nJ b.defs l.defs)||(!cF b t&&cF l t&&!cF r t),fV (bV (yF b t fuel).1 (yF l t fuel).1) (nJ b.defs r.defs)||(!cF b t&&!cF l t&&cF r t)),0):=rfl
 rw[hof];clear hof;unfold zS2 at wb wl wr;generalize (qG b.defs t).getD .zero=db at *
 generalize (qG l.defs t).getD .zero=dl at *
 generalize (qG r.defs t).getD .zero=dr at *
 generalize cF b t=xb at *
 generalize cF l t=xl at *
 generalize cF r t=xr at *
 generalize lD b t fuel=vb at *
 generalize lD l t fuel=vl at *
 generalize lD r t fuel=vr at *
 generalize yF b t fuel=zb at *
 generalize yF l t fuel=zl at *
 generalize yF r t fuel=zr at *
 generalize nJ b.defs l.defs=gl at *
 generalize nJ b.defs r.defs=gr at *
 generalize hV:(if zb.2≠0 then ((false,false),zb.2)else if zl.2≠0 then ((false,false),zl.2)else if zr.2≠0 then ((false,false),zr.2)else if (!xb&&!xl&&!xr)=true then ((false,false),6)else ((fV (bV zb.1 zr.1) gl||(!xb&&xl&&!xr),fV (bV zb.1 zl.1) gr||(!xb&&!xl&&xr)),(0:Int)))=V;have w2:IntKind.i64.wrap 1=1:=by decide
 have w3:IntKind.i64.wrap 2=2:=by decide
 have w4:IntKind.i64.wrap 3=3:=by decide
 refine mq [] [.cell 10 2 true,.slot 11] func20 (by kernel_rfl) ?_
 (conv in kq _ _=>cbv)
 simp -implicitDefEqProofs [hPb,hPl,hPr]
 intros
 refine qI (S:=Nat) (fun i=>[(4,int fuel),(5,.ptr 0 0),(6,.ptr 1 0),(7,.ptr 2 0),(8,.ptr 3 0),(10,.ptr 4 0),(12,.ptr 5 0),(13,.ptr 6 0),(23,.sl 3 (zI b++zI l++zI r)),(24,int 3),(25,int i)])
  (fun i=>[.box (zI b),.box (zI l),.box (zI r),.box (zS t),.box [bl false,bl false],.box (rL zb zl zr i),.box (lZ xb xl xr i)])
  (fun i=>ofI zb zl zr i) (fun i=>3-i) 0 ⟨by omega,fun h=>by omega,fun h=>by omega,fun h=>by omega⟩
  (mw [0,1,2,3,4,5,6] 0 (by rfl) (by simp[hPb,hPl,hPr,zS,rL,lZ,yY,trz])) ?_
 rintro i ⟨hi,inv0,inv1,inv2⟩;by_cases h:i<3
 .rcases (by omega:i=0\/i=1\/i=2)with rfl|rfl|rfl
  .simp -implicitDefEqProofs [hPb,hPl,hPr,rL,lZ,yY,trz];refine mu wb (by simp[hPb,zS]) ?_;cases xb with
   |false =>
    simp only[jAg,if_false]at sb;simp -implicitDefEqProofs [zJ];exact zO 1 ⟨by omega,fun _=>by rw[sb],fun h=>by omega,fun h=>by omega⟩ (by omega) (mw [0,1,2,3,4,5,6] 0 (by rfl) (by simp[hPb,hPl,hPr,zS,rL,lZ,yY,trz,sb,w2,w3,w4]))
   |true =>
    simp only[if_true]at sb;rw[<-sb]at tb;simp -implicitDefEqProofs [zJ,hPb,hPl,hPr,zS];refine mu tb (by simp[hPb,zS,pK,yY]) ?_;by_cases he:zb.2=0
    .simp -implicitDefEqProofs [pK,yY,he];exact zO 1 ⟨by omega,fun _=>he,fun h=>by omega,fun h=>by omega⟩ (by omega) (mw [0,1,2,3,4,5,6] 0 (by rfl) (by simp[hPb,hPl,hPr,zS,rL,lZ,yY,trz,w2,w3,w4]))
    .simp -implicitDefEqProofs [pK,yY,he];exact zB 0 (by simp[vH,<-hV,he])
  .have gb:=inv0 (by omega);simp -implicitDefEqProofs [hPb,hPl,hPr,rL,lZ,yY,trz];refine mu wl (by simp[hPl,zS]) ?_;cases xl with
   |false =>
    simp only[jAg,if_false]at sl;simp -implicitDefEqProofs [zJ];exact zO 2 ⟨by omega,fun _=>inv0 (by omega),fun _=>by rw[sl],fun h=>by omega⟩ (by omega) (mw [0,1,2,3,4,5,6] 0 (by rfl) (by simp[hPb,hPl,hPr,zS,rL,lZ,yY,trz,sl,w2,w3,w4]))
   |true =>
    simp only[if_true]at sl;rw[<-sl]at tl;simp -implicitDefEqProofs [zJ,hPb,hPl,hPr,zS];refine mu tl (by simp[hPl,zS,pK,yY]) ?_;by_cases he:zl.2=0
    .simp -implicitDefEqProofs [pK,yY,he];exact zO 2 ⟨by omega,fun _=>inv0 (by omega),fun _=>he,fun h=>by omega⟩ (by omega) (mw [0,1,2,3,4,5,6] 0 (by rfl) (by simp[hPb,hPl,hPr,zS,rL,lZ,yY,trz,w2,w3,w4]))
    .simp -implicitDefEqProofs [pK,yY,he];exact zB 0 (by simp[vH,<-hV,he,gb])
  .have gb:=inv0 (by omega);have gl:=inv1 (by omega);simp -implicitDefEqProofs [hPb,hPl,hPr,rL,lZ,yY,trz];refine mu wr (by simp[hPr,zS]) ?_;cases xr with
   |false =>
    simp only[jAg,if_false]at sr;simp -implicitDefEqProofs [zJ];exact zO 3 ⟨by omega,fun _=>inv0 (by omega),fun _=>inv1 (by omega),fun _=>by rw[sr]⟩ (by omega) (mw [0,1,2,3,4,5,6] 0 (by rfl) (by simp[hPb,hPl,hPr,zS,rL,lZ,yY,trz,sr,w2,w3,w4]))
   |true =>
    simp only[if_true]at sr;rw[<-sr]at tr;simp -implicitDefEqProofs [zJ,hPb,hPl,hPr,zS];refine mu tr (by simp[hPr,zS,pK,yY]) ?_;by_cases he:zr.2=0
    .simp -implicitDefEqProofs [pK,yY,he];exact zO 3 ⟨by omega,fun _=>inv0 (by omega),fun _=>inv1 (by omega),fun _=>he⟩ (by omega) (mw [0,1,2,3,4,5,6] 0 (by rfl) (by simp[hPb,hPl,hPr,zS,rL,lZ,yY,trz,w2,w3,w4]))
    .simp -implicitDefEqProofs [pK,yY,he];exact zB 0 (by simp[vH,<-hV,he,gb,gl])
 .have hie:i=3:=by omega
  subst hie;have gb:=inv0 (by omega);have gl2:=inv1 (by omega);have gr2:=inv2 (by omega);rw[if_neg (by simp[gb]),if_neg (by simp[gl2]),if_neg (by simp[gr2])]at hV;have j1:=zIZ zb.1 zr.1 (by omega) (by omega);have j2:=zIZ zb.1 zl.1 (by omega) (by omega);have d1:=eE (zb.1.defs++zr.1.defs);have d2:=eE (zb.1.nodes++zr.1.nodes);have d3:=eE (zb.1.defs++zl.1.defs);have d4:=eE (zb.1.nodes++zl.1.nodes);simp only[jA4]at d1 d2 d3 d4;have a1:=zNM (bV zb.1 zr.1) gl _ rfl (by simp only[bV,jA4];omega);have a2:=zNM (bV zb.1 zl.1) gr _ rfl (by simp only[bV,jA4];omega);change Ret _ _ _ _ (.agg (yY (bV zb.1 zr.1))) _ at j1;change Ret _ _ _ _ (.agg (yY (bV zb.1 zl.1))) _ at j2;change Ret _ _ _ _ (bl (fV (bV zb.1 zr.1) gl)) _ at a1;change Ret _ _ _ _ (bl (fV (bV zb.1 zl.1) gr)) _ at a2;generalize bV zb.1 zr.1=q1 at *
  generalize bV zb.1 zl.1=q2 at *
  generalize fV q1 gl=y1 at *
  generalize fV q2 gr=y2 at *
  unfold yY at j1 j2 a1 a2;by_cases hx:(!xb&&!xl&&!xr)=true
  .rw[if_pos hx]at hV;have hxb:xb=false:=by revert hx;cases xb<;>simp
   have hxl:xl=false:=by revert hx;cases xb<;>cases xl<;>simp
   have hxr:xr=false:=by revert hx;cases xb<;>cases xl<;>cases xr<;>simp
   simp -implicitDefEqProofs [rL,lZ,yY,hxb,hxl,hxr];exact zB 0 (by simp[vH,<-hV])
  .rw[if_neg hx]at hV;have hx2:((xb==false)&&((xl==false)&&(xr==false)))=false:=by revert hx;cases xb<;>cases xl<;>cases xr<;>simp
   have hx3:(!xb&&(!xl&&!xr))=false:=by revert hx;cases xb<;>cases xl<;>cases xr<;>simp
   simp -implicitDefEqProofs [rL,lZ,yY,hx2,hx3,hPb,hPl,hPr];refine qC c1 (by simp[hPb,hPl]) (by simp) ?_;simp -implicitDefEqProofs [hPb,hPl,hPr];refine qC c2 (by simp[hPb,hPr]) (by simp) ?_;simp -implicitDefEqProofs;refine qC j1 (by simp) (by simp) ?_;simp -implicitDefEqProofs;refine qC a1 (by simp) (by simp) ?_;cases y1
   all_goals
    simp -implicitDefEqProofs;refine qC j2 (by simp) (by simp) ?_;simp -implicitDefEqProofs;refine qC a2 (by simp) (by simp) ?_;cases y2
    all_goals
     simp -implicitDefEqProofs;exact zB 0 (by rw[<-hV];cases xb<;>cases xl<;>cases xr<;>simp[vH])
def zLS:K:=(G [M 39 3,kBi 40 39 7 .quo,kC 41 14 [(kt 40),(kc 12)],M 17 41] (Z (G [M 42 17,kQi 43 42 0 false,M 44 43,T 44 false (M 45 17),T 44 false (kQi 46 45 3 false),kPt 47 44 46,M 48 47,T 48 false (M 49 17),T 48 false (kQi 50 49 4 false),kPt 51 48 50] (Y 51 (K.ops [J 52 12 2,J 53 16 3,kC 54 27 [(kt 52),(kt 53)],S 12 54 2]) ks)) (Z (G [M 55 17,kQi 56 55 1 false,M 57 56,T 57 false (M 58 17),T 57 false (kQi 59 58 3 false),kPt 60 57 59] (Y 60 (K.ops [J 61 13 2,J 62 16 3,kC 63 27 [(kt 61),(kt 62)],S 13 63 2]) ks)) (Z (G [M 64 17,kQi 65 64 2 false,M 66 65,T 66 false (M 67 17),T 66 false (kQi 68 67 4 false),kPt 69 66 68] (Y 69 (K.ops [J 70 14 2,J 71 16 3,kC 72 27 [(kt 70),(kt 71)],S 14 72 2]) ks)) (Z (G [M 73 17,kQi 74 73 5 false] (Y 74 (K.ops [J 75 13 2,kC 76 24 [(kt 75)],S 13 76 2]) ks)) (Z (K.dops [(0,2004,J 77 12 2),(1,2004,J 78 13 2),(2,2004,J 79 14 2),(3,2004,J 80 16 3),(4,1004,S 8 77 2),(5,1004,S 9 78 2),(6,1004,S 10 79 2),(7,1004,S 11 80 3)]) kr))))))
def zWt:K:=G [kZ 8 [kl,kl],kZ 9 [kl,kl],kZ 10 [kl,kl],kZ 11 [ki,ki,ki]] (G [M 18 0,kC 19 10 [(kt 18)],kZ 12 [kl,kl],S 12 19 2] (G [J 20 12 2,M 21 1,kC 22 52 [(kt 20),(kt 21),(kc 3)],kZ 13 [kl,kl],S 13 22 2] (G [J 23 12 2,M 24 2,kC 25 52 [(kt 23),(kt 24),(kc 3)],kZ 14 [kl,kl],S 14 25 2] (G [J 26 12 2,kC 27 11 [(kt 26)],M 15 27] (G [kb 28 [ki,ki,ki] [(0,1,(kc 5))],kZ 16 [ki,ki,ki],S 16 28 3] (Z (G [M 29 15,kN 30 29,kBi 31 30 0 .gtr] (Y 31 (K.ops [M 32 15,M 33 3,M 34 15,kN 35 34,kC 36 14 [(kt 33),(kt 35)],kX 37 32 36 3,J 38 37 3,S 16 38 3]) ks)) (K.wk zLS)))))))
def qFK:Nat->Option wE:=fun|17=>k_ [2004,2004,2004,2004,1004,1004,1004,1004]|_=>none
theorem qE2:kx f19 qFK zWt:=mz (by kernel_rfl)
def uV(P:Prg)(how:Int):Id:=if aT (iL P)=[]then ⟨5,0,0⟩ else (aT (iL P)).getD (jY how (aT (iL P)).length).toNat ⟨5,0,0⟩
def sdB(P:Prg)(t:Id)(n:Int):Prg:=if n=0\/n=3\/n=4 then woP P t else P
def sdL(L:Prg)(t:Id)(n:Int):Prg:=if n=1\/n=3 then woP L t else if n=5 then bP L else L
def sdR(R:Prg)(t:Id)(n:Int):Prg:=if n=2\/n=4 then woP R t else R
structure Sdp(m:Nat)(q:Prg):Prop where
 fit:∃hs,Fit q hs
 fine:FineP q
 len:m<=q.defs.length
theorem Sdp.le8{m:Nat}(h:Sdp m q):q.defs.length<=100:=by obtain⟨hs,hf⟩:=h.fit;exact hf.len8
theorem zTO(t:Id):∀(l:wS),(l.Pairwise fun a b=>a.id≠b.id)->l.length<=(l.filter fun d=>decide (d.id≠t)).length+1
 |[],_=>by simp
 |d::l,h=>by
  obtain⟨h1,h2⟩:=jC2.1 h;by_cases e:d.id=t
  .have:l.filter (fun d=>decide (d.id≠t))=l:=List.filter_eq_self.2 fun x hx=>by
    have:=h1 x hx;rw[e]at this
    simpa using fun e2=>this e2.symm
   rw[List.filter_cons_of_neg (by simp[e]),this];simp
  .rw[List.filter_cons_of_pos (by simpa using e)];have:=zTO t l h2;simp only[jAc];omega
theorem Sdp.wo{m:Nat}(h:Sdp (m+1) q)(ht:∀d∈q.defs,d.id=t->d.kind=4):Sdp m (woP q t):=by obtain⟨hs,hf⟩:=h.fit;exact⟨⟨_,zVU hf ht⟩,zTN h.fine t,by have:=zTO t q.defs hf.nd;have:=h.len;show m<=(q.defs.filter _).length;omega⟩
theorem Sdp.less{m n:Nat}(h:Sdp m q)(hn:n<=m):Sdp n q:=⟨h.fit,h.fine,jAz hn h.len⟩
theorem Sdp.ren{m:Nat}(h:Sdp m q):Sdp m (bP q):=by obtain⟨hs,hf⟩:=h.fit;exact⟨⟨_,zAm hf⟩,tW h.fine,by simpa[bP]using h.len⟩
variable{P:Prg}
theorem Sdp.B(h:Sdp 5 P)(ht:∀d∈P.defs,d.id=t->d.kind=4)(n:Int):Sdp 4 (sdB P t n):=by
 unfold sdB;split
 .exact h.wo ht
 .exact h.less (by omega)
theorem Sdp.L(h:Sdp 5 P)(ht:∀d∈P.defs,d.id=t->d.kind=4)(n:Int):Sdp 4 (sdL P t n):=by
 unfold sdL;split
 .exact h.wo ht
 .split
  .exact(h.less (by omega)).ren
  .exact h.less (by omega)
theorem Sdp.R(h:Sdp 5 P)(ht:∀d∈P.defs,d.id=t->d.kind=4)(n:Int):Sdp 4 (sdR P t n):=by
 unfold sdR;split
 .exact h.wo ht
 .exact h.less (by omega)
section
variable{l:wC}(hl:∀x∈l,w64 x=x){P:Prg}(hP:PrgOk l P)
include hl hP
theorem PrgOk.snd:Sdp 5 P:=by obtain⟨h1,h2,_,_⟩:=hP.fine hl;exact⟨⟨_,hP.fit hl⟩,h1,h2⟩
theorem PrgOk.tst(how:Int)(hw:w64 how=how):∀d∈P.defs,d.id=uV P how->d.kind=4:=by
 intro d hd he;unfold uV at he;split at he
 .exfalso;have hm:d.hd∈P.defs.map Dfn.hd:=List.mem_map_of_mem hd;rw[hP.heads,hsV]at hm;obtain⟨k,hk,hke⟩:=jAe hm;rw[zK3]at hk;rw[mR _ _ hk]at hke;have:d.id.a=0:=by rw[show d.id=idR _ from (congrArg Hd.id hke).symm];rfl
  rw[he]at this;simp at this
 .rename_i hne;have hpos:0<(aT (iL P)).length:=List.length_pos_iff.2 hne;obtain⟨a0,a1⟩:=cX (k:=((aT (iL P)).length:Int)) hw (by omega);have hlt:(jY how (aT (iL P)).length).toNat<(aT (iL P)).length:=by omega
  rw[jC5,jA2 hlt]at he;have hmem:d.id∈iL P:=by rw[he];exact yX.1 (jA0 hlt)
  obtain⟨d0,hd0,hid⟩:=jA9.1 hmem;obtain⟨hd1,hk⟩:=List.mem_filter.1 hd0;have hnd:=(hP.fit hl).nd;have e1:=pN hnd (jAe hd).choose_spec.choose;have e:d0=d:=by
   obtain⟨i,hi,rfl⟩:=jAe hd;obtain⟨j,hj,rfl⟩:=jAe hd1;by_cases hij:i=j
   .subst hij;rfl
   .exfalso;rcases Nat.lt_or_gt_of_ne hij with h|h
    .exact jC0.1 hnd i j hi hj h hid.symm
    .exact jC0.1 hnd j i hj hi h hid
  rw[<-e]
  simpa using hk
theorem PrgOk.tw(a:wC)(ha:∀x∈a,w64 x=x)(m:Nat):Sdp 5 ⟨P.mods,eJ a P.defs m⟩/\(∀d∈eJ a P.defs m,NmD d)/\TwP P ⟨P.mods,eJ a P.defs m⟩:=by obtain⟨h1,h2,_,_⟩:=hP.fine hl;have hA:=zVQ P a ha m;exact⟨⟨⟨_,hA.fit (hP.fit hl)⟩,zG5 a h1 m,by simp only[sM];exact h2⟩,zBs a hP.names (fun d hd _ _=>hd) m,hA⟩
end
theorem TwP.tst(hA:TwP P q)(h:∀d∈P.defs,d.id=t->d.kind=4):∀d∈q.defs,d.id=t->d.kind=4:=by intro d hd he;obtain⟨a,ha,hs⟩:=Al.mem (TwP.to0 hA) hd;rw[hs.kind];exact h a ha (by rw[<-hs.id];exact he)
theorem qNZ(P L R:Prg)(h1:P.defs.length<=100)(h2:L.defs.length<=100)(h3:R.defs.length<=100)(hs:∀d∈L.defs,d.slots.length<=100)(hn:∀d∈L.defs,NmD d)(t:Id)(how:Int)(hw:w64 how=how) :
 wpK prog 0 zLS (fin [RS.cell 8 2 true,RS.cell 9 2 true,RS.cell 10 2 true,RS.cell 11 3 true] (sP 0 (.tup [.agg (zI (sdB P t (jY (IntKind.i64.wrap (how.tdiv 7)) 12))),.agg (zI (sdL L t (jY (IntKind.i64.wrap (how.tdiv 7)) 12))),.agg (zI (sdR R t (jY (IntKind.i64.wrap (how.tdiv 7)) 12))),.agg (zS t)]) []))
  (jO [(3,int how),(8,.ptr 0 0),(9,.ptr 1 0),(10,.ptr 2 0),(11,.ptr 3 0),(12,.ptr 4 0),(13,.ptr 5 0),(14,.ptr 6 0),(16,.ptr 7 0)])
  [.box [.nil,.nil],.box [.nil,.nil],.box [.nil,.nil],.box [int 0,int 0,int 0],.box (zI P),.box (zI L),.box (zI R),.box (zS t)]:=by
 have hE:∀q:Prg,zI q=[.sl q.mods.length (qA q.mods),.sl q.defs.length (zQ q.defs)]:=fun _=>rfl
 have ra:=nW (IntKind.i64.wrap (how.tdiv 7)) 12 (by omega);obtain⟨b0,b1⟩:=cX (n:=IntKind.i64.wrap (how.tdiv 7)) (k:=12) (by simp only[w64,IntKind.wrap_i64];omega) (by omega);generalize jY (IntKind.i64.wrap (how.tdiv 7)) 12=n at *
 have wB:=zEI P h1 t;have wL:=zEI L h2 t;have wR:=zEI R h3 t;have wN:=zOE L h2 hs hn;unfold zLS;simp -implicitDefEqProofs;refine mu ra (by simp) ?_;rcases (by omega:n=0\/n=1\/n=2\/n=3\/n=4\/n=5\/6<=n)with rfl|rfl|rfl|rfl|rfl|rfl|h6
 .simp -implicitDefEqProofs [hE,zS];refine mu wB (by simp[hE,zS]) ?_;simp -implicitDefEqProofs [hE,zS];exact zB 0 (by simp[sdB,sdL,sdR,hE,zS])
 .simp -implicitDefEqProofs [hE,zS];refine mu wL (by simp[hE,zS]) ?_;simp -implicitDefEqProofs [hE,zS];exact zB 0 (by simp[sdB,sdL,sdR,hE,zS])
 .simp -implicitDefEqProofs [hE,zS];refine mu wR (by simp[hE,zS]) ?_;simp -implicitDefEqProofs [hE,zS];exact zB 0 (by simp[sdB,sdL,sdR,hE,zS])
 .simp -implicitDefEqProofs [hE,zS];refine mu wB (by simp[hE,zS]) ?_;simp -implicitDefEqProofs [hE,zS];refine mu wL (by simp[hE,zS]) ?_;simp -implicitDefEqProofs [hE,zS];exact zB 0 (by simp[sdB,sdL,sdR,hE,zS])
 .simp -implicitDefEqProofs [hE,zS];refine mu wB (by simp[hE,zS]) ?_;simp -implicitDefEqProofs [hE,zS];refine mu wR (by simp[hE,zS]) ?_;simp -implicitDefEqProofs [hE,zS];exact zB 0 (by simp[sdB,sdL,sdR,hE,zS])
 .simp -implicitDefEqProofs [hE,zS];refine mu wN (by simp[hE,zS]) ?_;simp -implicitDefEqProofs [hE,zS];exact zB 0 (by simp[sdB,sdL,sdR,hE,zS])
 .have e0:¬n=0:=by omega
  have e1:¬n=1:=by omega
  have e2:¬n=2:=by omega
  have e3:¬n=3:=by omega
  have e4:¬n=4:=by omega
  have e5:¬n=5:=by omega
  simp -implicitDefEqProofs [hE,zS,e0,e1,e2,e3,e4,e5];exact zB 0 (by simp[sdB,sdL,sdR,hE,zS,e0,e1,e2,e3,e4,e5])
def sdA(P:Prg)(a b:wC)(how:Int):A:=.tup [.agg (zI (sdB P (uV P how) (jY (IntKind.i64.wrap (how.tdiv 7)) 12))),.agg (zI (sdL ⟨P.mods,eJ a P.defs (zAx a 3)⟩ (uV P how) (jY (IntKind.i64.wrap (how.tdiv 7)) 12))),
 .agg (zI (sdR ⟨P.mods,eJ b P.defs (zAx b 3)⟩ (uV P how) (jY (IntKind.i64.wrap (how.tdiv 7)) 12))),.agg (zS (uV P how))]
theorem zTu(l a b:wC)(how:Int)(hl:∀x∈l,w64 x=x)(ha:∀x∈a,w64 x=x)(hb:∀x∈b,w64 x=x)(hw:w64 how=how) :
 ∃P,PrgOk l P/\my 19 [.sl l.length (aQ l),.sl a.length (aQ a),.sl b.length (aQ b),int how] [] (sdA P a b how) []:=by
 obtain⟨P,hP,rP⟩:=zO7 l hl;refine⟨P,hP,?_⟩;have hs:=hP.snd hl;obtain⟨fP,p5,p8,pm⟩:=hP.fine hl;have rq:=zIt P fP (by omega) a ha 3 (by omega);have rt:=zIt P fP (by omega) b hb 3 (by omega);obtain⟨sL,nL,_⟩:=hP.tw hl a ha (zAx a 3);obtain⟨sR,_,_⟩:=hP.tw hl b hb (zAx b 3);have rts:=zIg P hs.le8;have hN:=fun t=>qNZ P ⟨P.mods,eJ a P.defs (zAx a 3)⟩ ⟨P.mods,eJ b P.defs (zAx b 3)⟩ hs.le8 sL.le8 sR.le8 (fun d hd=>by have:=(sL.fine.slots d hd).2;omega) nL t how hw
 have hE:∀q:Prg,zI q=[.sl q.mods.length (qA q.mods),.sl q.defs.length (zQ q.defs)]:=fun _=>rfl
 obtain⟨V,hV⟩:∃V,V=sdA P a b how:=⟨_,rfl⟩;rw[<-hV];unfold sdA uV at hV;generalize (⟨P.mods,eJ a P.defs (zAx a 3)⟩:Prg)=L at *
 generalize (⟨P.mods,eJ b P.defs (zAx b 3)⟩:Prg)=R at *
 have hXl:(aT (iL P)).length<=100:=jAz (eE _) (jAz (pY P.defs) hs.le8);generalize aT (iL P)=X at *
 refine zK func19 rfl qE2 (rs:=[.cell 8 2 true,.cell 9 2 true,.cell 10 2 true,.cell 11 3 true]) (by kernel_rfl) ?_;unfold zWt;simp -implicitDefEqProofs;refine mu rP (by simp[hE]) ?_;simp -implicitDefEqProofs [hE];refine mu rq (by simp[hE]) ?_;simp -implicitDefEqProofs [hE];refine mu rt (by simp[hE]) ?_;simp -implicitDefEqProofs [hE];refine mu rts (by simp[hE]) ?_;by_cases hx:X=[]
 .subst hx;rw[if_pos rfl]at hV;have hN5:=hN ⟨5,0,0⟩;rw[<-hV]at hN5;simp -implicitDefEqProofs;refine⟨_,_,kf [0,1,2,3,4,5,6,7] 0 (by rfl) ?_ ?_,hN5⟩
  .simp[hE,zS]
  .simp
 .have hpos:0<X.length:=List.length_pos_iff.2 hx;obtain⟨a0,a1⟩:=cX (k:=(X.length:Int)) hw (by omega);have rr:=nW how X.length (by omega);obtain⟨x,hxe⟩:∃x:Nat,jY how X.length=x:=⟨(jY how X.length).toNat,by omega⟩;rw[hxe]at rr a1;have hxl:x<X.length:=by omega
  have hgd:X.getD x ⟨5,0,0⟩=X[x]:=by rw[jC5,jA2 hxl];rfl
  rw[if_neg hx,hxe,jCq,hgd]at hV;have hcd:=jN hxl;have hNt:=hN X[x];rw[<-hV]at hNt;clear hV hN;generalize X[x]=t at *
  simp -implicitDefEqProofs [hpos,hx]
  intros
  refine mu rr (by simp) ?_;simp -implicitDefEqProofs [hxl,hx,hcd];refine⟨_,_,kf [0,1,2,3,4,5,6,7] 0 (by rfl) ?_ ?_,hNt⟩
  .simp[hE,zS]
  .simp
def reF(x d:Dfn):Dfn:=if d.id=x.id then x else d
def reD(x:Dfn)(l:wS):wS:=l.map (reF x)
def reP(p:Prg)(x:Dfn):Prg:=⟨p.mods,reD x p.defs⟩
@[simp]theorem qJS(x:Dfn):reD x []=[]:=rfl
@[simp]theorem zO9(x:Dfn)(l:wS):(reD x l).length=l.length:=by simp[reD]
theorem zJt{l:wS}{x:Dfn}(h:i<l.length):reD x (l.take (i+1))=reD x (l.take i)++[reF x l[i]]:=by unfold reD;rw[jA7 h,jBa,jDb]
theorem zLn(p:Prg)(hL:p.defs.length<=100)(x:Dfn):my 28 [.agg (zI p),.agg (zJ x)] [] (.agg (zI (reP p x))) []:=by
 have hP:=eP p;refine mq [] [.cell 4 2 true] func28 (by kernel_rfl) ?_
 (conv in kq _ _=>cbv)
 simp -implicitDefEqProofs [hP];refine qI (S:=Nat) (fun i=>[(2,.ptr 0 0),(3,.ptr 1 0),(4,.ptr 2 0),(5,.ptr 3 0),(6,int i)])
  (fun i=>[.box (zI p),.box (zJ x),.box [.nil,.nil],.box [.sl p.mods.length (qA p.mods),.row 4 i],.row false 42 31 i (zQ (reD x (p.defs.take i)))])
  (fun i=>i<=p.defs.length) (fun i=>p.defs.length-i) 0 (by simp)
  ((yN (l:=3) (o:=1) rfl rfl 42 31).trans (mw [0,1,2,3,4] 0 (by rfl) (by simp[hP,zJ]))) ?_
 intro i hi;by_cases h:i<p.defs.length
 .have hcd:=yA h;have hts:=zJt (x:=x) h;have hne:¬p.defs=[]:=fun e=>by rw[e]at h;simp at h
  have hw:=yK i (by omega);have hLl:(reD x (p.defs.take i)).length=i:=by simp;omega
  unfold reF at hts;generalize reD x (p.defs.take i)=L at *
  generalize p.defs[i]=d at *
  by_cases hx:d.id=x.id
  .rw[if_pos hx]at hts;simp -implicitDefEqProofs [h,hcd,hne,zJ,hP,hx,hLl]
   intros
   refine⟨⟨by simp[maxLen];omega,by omega⟩,?_⟩;exact zO (i+1) h (by omega) (mw [0,1,2,3,4] 0 (by rfl) (by simp[hP,hts,mC,mM,zJ,hw]))
  .rw[if_neg hx]at hts;simp -implicitDefEqProofs [h,hcd,hne,zJ,hP,hx,hLl]
   intros
   refine⟨⟨by simp[maxLen];omega,by omega⟩,?_⟩;exact zO (i+1) h (by omega) (mw [0,1,2,3,4] 0 (by rfl) (by simp[hP,hts,mC,mM,zJ,hw]))
 .have hie:i=p.defs.length:=by omega
  subst hie;rw[jAs];simp -implicitDefEqProofs [hP]
  intros
  exact zB 1 (by simp[zI,show reP p x=⟨p.mods,reD x p.defs⟩ from rfl])
theorem zTt(hf:Fit b hs)(hd:testD b t=some d)(h:(yF b t f).2=0):t∈(yF b t f).1.defs:=by obtain⟨hi,hv⟩:=zAn hd h;obtain⟨hfd,_⟩:=bT hd;obtain⟨v,hvm⟩:=List.exists_mem_of_ne_nil _ (zHJ hf (hf.slots d (yD hfd).1).2.2.2.2 hi);obtain⟨c0,c1,_⟩:=hv v hvm;exact c1 t (zHt c0)
theorem zUs(hd:qG b.defs t=some d)(hq:∀d',qG q.defs t=some d'->yQ d d'=false):t∈oJ b q:=by unfold oJ;rw[<-sX,yX,zEg];have:t∈zAw Dfn.id yQ b.defs q.defs:=gT.2 ⟨d,hd,hq⟩;simp[this]
theorem zTc(hf:Fit b hs)(hd:testD b t=some d)(hq:∀d',qG q.defs t=some d'->yQ d d'=false)(hself:oJ b b=[])(h:(ofT b q b t f).2=0):(ofT b q b t f).1=(true,false):=by
 have h1:(ofT b q b t f).1.2=false:=zV4 b q b t f hself rfl;have h2:(ofT b q b t f).1.1=true:=by
  have hb:cF b t=true:=by unfold cF;rw[hd];rfl
  unfold ofT at h⊢;by_cases s1:(yF b t f).2=0
  .by_cases s2:(yF q t f).2=0
   .simp only[s1,s2,ne_eq,not_true_eq_false,if_false,hb,Bool.not_true,Bool.false_and,Bool.and_false,jAg,Bool.or_false]at h⊢;have hm:=zTt hf hd s1;have hc:=zUs (bT hd).1 hq;unfold fV;rw[List.any_eq_true];refine⟨t,hc,?_⟩;simp[bV,yX,hm]
   .simp[s1,s2]at h
  .simp[s1]at h
 exact Prod.ext h2 h1
end Go.Proofs.YtolkhapmieigcaaGreatDoor

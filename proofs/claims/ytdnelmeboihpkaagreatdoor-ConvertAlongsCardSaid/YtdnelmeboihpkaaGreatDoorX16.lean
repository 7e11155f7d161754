/- Types of values and of programs' expressions; a run keeps them. -/
import Derived.Test.YtdnelmeboihpkaaGreatDoorX15
set_option linter.unusedVariables false
set_option maxHeartbeats 8000000
set_option maxRecDepth 100000
set_option linter.unusedSimpArgs false
open Go.Proofs.Tryz
namespace Go.Proofs.YtdnelmeboihpkaaGreatDoor
open Go.Abs
inductive TyV(p:Prg):Typ->Val->Prop
 |int (n:Int) (h1 : -1099511627776<=n) (h2:n<=1099511627776):TyV p jK (.mk 0 n [])
 |bool (n:Int) (h:n=0\/n=1):TyV p jR (.mk 1 n [])
 |list (t:Typ) (vs:List Val) (h:∀v∈vs,TyV p t v):TyV p (j8 t) (.mk 4 0 vs)
 |record (id:Id) (d:Dfn) (vs:List Val) (hd:jH p.defs id=some d) (hk:d.kind=0) (hl:vs.length=d.slots.length) (h:∀(j:Nat) (hj:j<vs.length),TyV p (d.slots[j]'(hl▸hj)).typ vs[j]):TyV p (yO id) (.mk 2 0 vs)
 |case (id:Id) (d:Dfn) (n:Nat) (v:Val) (hd:jH p.defs id=some d) (hk:d.kind=1) (hn:n<d.slots.length) (h:TyV p d.slots[n].typ v):TyV p (yO id) (.mk 3 n [v])
variable{p:Prg}{v:Val}
theorem TyV.int_inv(h:TyV p jK v):∃n:Int,v=.mk 0 n []/\-1099511627776<=n/\n<=1099511627776:=by
 generalize ht:jK=t at h;cases h with
 |int n h1 h2=>exact⟨n,rfl,h1,h2⟩
 |_=>simp at ht
theorem TyV.bool_inv(h:TyV p jR v):∃n:Int,v=.mk 1 n []/\(n=0\/n=1):=by
 generalize ht:jR=t at h;cases h with
 |bool n h=>exact⟨n,rfl,h⟩
 |_=>simp at ht
theorem TyV.list_inv{u:Typ}(h:TyV p (j8 u) v):∃vs:wI,v=.mk 4 0 vs/\∀x∈vs,TyV p u x:=by
 generalize ht:j8 u=t at h;cases h with
 |list t vs h =>
  simp only[Typ.mk.injEq,jBf,and_true,true_and]at ht;subst ht;exact⟨vs,rfl,h⟩
 |_=>simp at ht
theorem TyV.def_inv{r:Id}{d:Dfn}(hd:jH p.defs r=some d)(h:TyV p (yO r) v) :
 (d.kind=0/\∃(vs:wI) (hl:vs.length=d.slots.length),v=.mk 2 0 vs/\∀(j:Nat) (hj:j<vs.length),TyV p (d.slots[j]'(hl▸hj)).typ vs[j]) \/
 (d.kind=1/\∃(n:Nat) (x:Val) (hn:n<d.slots.length),v=.mk 3 n [x]/\TyV p d.slots[n].typ x):=by
 generalize ht:yO r=t at h;cases h with
 |record id d' vs hd' hk hl h =>
  simp only[Typ.mk.injEq,and_true,true_and]at ht;subst ht;rw[hd]at hd';cases hd';exact .inl ⟨hk,vs,hl,rfl,h⟩
 |case id d' n x hd' hk hn h =>
  simp only[Typ.mk.injEq,and_true,true_and]at ht;subst ht;rw[hd]at hd';cases hd';exact .inr ⟨hk,n,x,hn,rfl,h⟩
 |_=>simp at ht
inductive TyL(p:Prg):List Typ->List Val->Prop
 |nil:TyL p [] []
 |cons (t:Typ) (ts:List Typ) (v:Val) (vs:List Val) (h:TyV p t v) (hs:TyL p ts vs):TyL p (t::ts) (v::vs)
variable{ts:wS}{vs:wI}
theorem TyL.len(h:TyL p ts vs):vs.length=ts.length:=by
 induction h with
 |nil=>rfl
 |cons _ _ _ _ _ _ ih=>simp[ih]
theorem TyL.get(h:TyL p ts vs):∀(j:Nat) (hj:j<vs.length) (hj':j<ts.length),TyV p ts[j] vs[j]:=by
 induction h with
 |nil=>intro j hj;simp at hj
 |cons t ts v vs h hs ih =>
  intro j hj hj';cases j with
  |zero=>exact h
  |succ j=>exact ih j (by simpa using hj) (by simpa using hj')
theorem TyL.of{p:Prg}:∀{ts:wS} {vs:wI} (hl:vs.length=ts.length) (_:∀(j:Nat) (hj:j<vs.length),TyV p (ts[j]'(hl▸hj)) vs[j]),TyL p ts vs
 |[],[],_,_=>.nil
 |t::ts,v::vs,hl,h=>.cons t ts v vs (h 0 (by simp)) (TyL.of (by simpa using hl) fun j hj=>h (j+1) (by simpa using hj))
 |[],v::vs,hl,_=>by simp at hl
 |t::ts,[],hl,_=>by simp at hl
inductive OpT:Int->List Typ->Typ->Prop
 |arith (n:Int) (h1:0<=n) (h2:n<=4):OpT n [jK,jK] jK
 |less:OpT 5 [jK,jK] jR
 |same (u:Typ):OpT 6 [u,u] jR
 |andor (n:Int) (h:n=7\/n=8):OpT n [jR,jR] jR
 |not:OpT 9 [jR] jR
 |join (t:Typ):OpT 10 [j8 t,j8 t] (j8 t)
 |len (t:Typ):OpT 11 [j8 t] jK
variable{t:Typ}
theorem TyL.one(h:TyL p [t] vs):∃a,vs=[a]/\TyV p t a:=by
 cases h with
 |cons _ _ v vs h hs=>cases hs;exact⟨v,rfl,h⟩
theorem TyL.two{u:Typ}(h:TyL p [t,u] vs):∃a b,vs=[a,b]/\TyV p t a/\TyV p u b:=by
 cases h with
 |cons _ _ v vs h hs =>
  obtain⟨b,rfl,hb⟩:=hs.one;exact⟨v,b,rfl,h,hb⟩
theorem zBI(b:Bool):TyV p jR (dR b):=.bool _ (by cases b<;>simp)
theorem oR(n:Int) : -1099511627776<=bB n/\bB n<=1099511627776:=by
 unfold bB;split
 .omega
 .split<;>omega
variable{a b:Int}
theorem zIw(h1 : -1099511627776<=a)(h2:a<=1099511627776) : -1099511627776<=a.tdiv b/\a.tdiv b<=1099511627776:=by have h:=Int.natAbs_tdiv_le_natAbs a b;omega
theorem zPJ(h1 : -1099511627776<=a)(h2:a<=1099511627776)(hm:a.tmod b≠0)(hb:b≠0) : -1099511627775<=a.tdiv b:=by
 have hn:a.natAbs / b.natAbs=(a.tdiv b).natAbs:=by rw[Int.natAbs_tdiv];rfl
 have hb2:2<=b.natAbs:=by
  rcases jAx b.natAbs 2 with h|h
  .exfalso;have:b=1\/b = -1:=by omega
   rcases this with rfl|rfl
   .simp at hm
   .exact hm (by rw[Int.tmod_neg,Int.tmod_one])
  .exact h
 have:a.natAbs / b.natAbs<=a.natAbs / 2:=Nat.div_le_div_left hb2 (by omega);omega
theorem zL2(b:Int)(h1 : -1099511627776<=a)(h2:a<=1099511627776) : -1099511627776<=pZ a b/\pZ a b<=1099511627776:=by
 unfold pZ;have h:=zIw (b:=b) h1 h2;split
 .omega
 .rename_i hb;split
  .rename_i hc;have:=zPJ h1 h2 hc.1 hb;omega
  .omega
theorem zVb(a b:Int):zD3 a b=if b=0 then 0 else if a.tmod b≠0/\¬(a<0↔b<0)then a.tmod b+b else a.tmod b:=by
 unfold zD3 pZ;by_cases hb:b=0
 .simp[hb]
 .rw[if_neg hb,if_neg hb,if_neg hb];have:=Int.mul_tdiv_add_tmod a b;split
  .rw[Int.mul_sub];omega
  .omega
theorem zAC(h1 : -1099511627776<=b)(h2:b<=1099511627776) : -1099511627776<=zD3 a b/\zD3 a b<=1099511627776:=by
 rw[zVb];by_cases hb:b=0
 .simp[hb]
 .rw[if_neg hb];have h3:(a.tmod b).natAbs<b.natAbs:=by rw[Int.natAbs_tmod];exact Nat.mod_lt _ (by omega)
  have h4:0<=a->0<=a.tmod b:=Int.tmod_nonneg b;have h5:a<0->a.tmod b<=0:=fun h=>by have:=Int.tmod_nonneg (a:=-a) b (by omega);rw[Int.neg_tmod]at this;omega
  split<;>omega
theorem zMm{n a b:Int}(a1 : -1099511627776<=a)(a2:a<=1099511627776)(b1 : -1099511627776<=b)(b2:b<=1099511627776) : -1099511627776<=uA n a b/\uA n a b<=1099511627776:=by
 unfold uA;split
 .exact oR _
 .split
  .exact oR _
  .split
   .exact oR _
   .split
    .exact zL2 b a1 a2
    .exact zAC b1 b2
theorem eL:∀(l:wI),l.length<=qK l
 |[]=>by simp[qK]
 | .mk _ _ l'::l=>by have:=eL l;simp only[jA9,qK,zZ];omega
theorem zJN(h:zZ v<=256):v.kids.length<=255:=by
 cases v with
 |mk k n l =>
  have:=eL l;simp only[zZ]at h;simp only[Val.kids];omega
theorem qGM{n:Int}(h:OpT n ts t)(hv:TyL p ts vs)(hs:∀v∈vs,zZ v<=256):TyV p t (opV n vs)/\zZ (opV n vs)<=1000:=by
 cases h with
 |arith n h1 h2 =>
  obtain⟨a,b,rfl,ha,hb⟩:=hv.two;obtain⟨x,rfl,x1,x2⟩:=ha.int_inv;obtain⟨y,rfl,y1,y2⟩:=hb.int_inv;simp only[opV,if_pos h2];have:=zMm (n:=n) x1 x2 y1 y2;exact⟨.int _ this.1 this.2,by simp[zZ,qK]⟩
 |less =>
  obtain⟨a,b,rfl,ha,hb⟩:=hv.two;exact⟨zBI _,by simp[opV,dR,zZ,qK]⟩
 |same u =>
  obtain⟨a,b,rfl,ha,hb⟩:=hv.two;exact⟨zBI _,by simp[opV,dR,zZ,qK]⟩
 |andor n h =>
  obtain⟨a,b,rfl,ha,hb⟩:=hv.two;rcases h with rfl|rfl<;>exact⟨zBI _,by simp[opV,dR,zZ,qK]⟩
 |not =>
  obtain⟨a,rfl,ha⟩:=hv.one;exact⟨zBI _,by simp[opV,dR,zZ,qK]⟩
 |join t =>
  obtain⟨a,b,rfl,ha,hb⟩:=hv.two;obtain⟨x,rfl,hx⟩:=ha.list_inv;obtain⟨y,rfl,hy⟩:=hb.list_inv;refine⟨.list _ _ fun v hv=>?_,?_⟩
  .rcases jAc.1 hv with h|h
   .exact hx v h
   .exact hy v h
  .have h1:=hs (.mk 4 0 x) (by simp);have h2:=hs (.mk 4 0 y) (by simp);simp only[zZ]at h1 h2;simp[opV,Val.kids,zZ,dC];omega
 |len t =>
  obtain⟨a,rfl,ha⟩:=hv.one;have:=zJN (hs a (by simp));exact⟨.int _ (by omega) (by omega),by simp[opV,zZ,qK]⟩
inductive WE(p:Prg):List Bnd->Exp->Typ->Prop
 |int (env i n r u ns) (h1 : -1099511627776<=n) (h2:n<=1099511627776):WE p env (.mk i 0 n r u [] ns) jK
 |bool (env i n r u ns) (h:n=0\/n=1):WE p env (.mk i 1 n r u [] ns) jR
 |var (env i n r u ns t) (h:fI env r n=some t):WE p env (.mk i 2 n r u [] ns) t
 |call (env i n r u ks ns) (hn:ks.length<=32768) (d:Dfn) (hd:jH p.defs r=some d) (hk:d.kind=2) (hl:ks.length=(d.slots.map Slt.typ).length) (hw:∀(j:Nat) (hj:j<ks.length),WE p env ks[j] ((d.slots.map Slt.typ)[j]'(hl▸hj))) :
  WE p env (.mk i 3 n r u ks ns) d.res
 |op (env i n r u ks ns) (hn:ks.length<=32768) (ts:List Typ) (t:Typ) (ho:OpT n ts t) (hl:ks.length=ts.length) (hw:∀(j:Nat) (hj:j<ks.length),WE p env ks[j] (ts[j]'(hl▸hj))):WE p env (.mk i 4 n r u ks ns) t
 |ite (env i n r u a b c ns t) (ha:WE p env a jR) (hb:WE p env b t) (hc:WE p env c t):WE p env (.mk i 5 n r u [a,b,c] ns) t
 |lets (env i n r u a b ns v t) (hf:∀x∈env,x.id≠i) (ha:WE p env a v) (hb:WE p (env++[⟨i,0,v⟩]) b t):WE p env (.mk i 6 n r u [a,b] ns) t
 |record (env i n r u ks ns) (hn:ks.length<=32768) (d:Dfn) (hd:jH p.defs r=some d) (hk:d.kind=0) (hl:ks.length=(d.slots.map Slt.typ).length) (hw:∀(j:Nat) (hj:j<ks.length),WE p env ks[j] ((d.slots.map Slt.typ)[j]'(hl▸hj))) :
  WE p env (.mk i 7 n r u ks ns) (yO r)
 |field (env i r u a ns) (d:Dfn) (j:Nat) (hd:jH p.defs r=some d) (hk:d.kind=0) (hj:j<d.slots.length) (ha:WE p env a (yO r)):WE p env (.mk i 8 j r u [a] ns) d.slots[j].typ
 |case (env i r u a ns) (d:Dfn) (j:Nat) (hd:jH p.defs r=some d) (hk:d.kind=1) (hj:j<d.slots.length) (ha:WE p env a d.slots[j].typ):WE p env (.mk i 9 j r u [a] ns) (yO r)
 |mtch (env i n r u a ks ns) (d:Dfn) (t:Typ) (hf:∀x∈env,x.id≠i) (hd:jH p.defs r=some d) (hk:d.kind=1) (hl:ks.length=d.slots.length) (ha:WE p env a (yO r))
  (hw:∀(j:Nat) (hj:j<ks.length),WE p (env++[⟨i,j,(d.slots[j]'(hl▸hj)).typ⟩]) ks[j] t):WE p env (.mk i 10 n r u (a::ks) ns) t
 |list (env i n r u ks ns t) (hn:ks.length<=32768) (hw:∀(j:Nat) (hj:j<ks.length),WE p env ks[j] t):WE p env (.mk i 11 n r u ks ns) (j8 t)
 |fold (env i n r u l s b ns v t) (hf:∀x∈env,x.id≠i) (hl:WE p env l (j8 v)) (hs:WE p env s t) (hb:WE p (env++[⟨i,0,v⟩]++[⟨i,1,t⟩]) b t):WE p env (.mk i 12 n r u [l,s,b] ns) t
theorem s8(B:wJ)(b:Bnd)(x:Id)(n:Int):fI (B++[b]) x n=if b.id=x/\b.n=n then some b.typ else fI B x n:=by
 unfold fI;rw[List.reverse_append,List.reverse_singleton,jCu,jD7];by_cases h1:b.id=x
 .by_cases h2:b.n=n<;>simp[h1,h2]
 .simp[h1]
inductive EnvT(p:Prg):List Bnd->List EVar->Prop
 |nil:EnvT p [] []
 |snoc (B:List Bnd) (V:List EVar) (b:Bnd) (v:EVar) (h:EnvT p B V) (hi:v.id=b.id) (hn:v.n=b.n) (ht:TyV p b.typ v.v) (hz:zZ v.v<=256):EnvT p (B++[b]) (V++[v])
variable{B:wJ}{V:wO}
theorem EnvT.find(h:EnvT p B V){x:Id}{n:Int}:fI B x n=some t->TyV p t (lF V x n)/\zZ (lF V x n)<=256:=by
 induction h with
 |nil=>intro h;simp[fI]at h
 |snoc B V b v h hi hn ht hz ih =>
  rw[s8,zAz,hi,hn];split
  .intro e;cases e;exact⟨ht,hz⟩
  .exact ih
theorem EnvT.push(h:EnvT p B V){i:Id}{n:Int}(ht:TyV p t v/\zZ v<=256):EnvT p (B++[⟨i,n,t⟩]) (V++[⟨i,n,v⟩]):=.snoc _ _ _ _ h rfl rfl ht.1 ht.2
theorem EnvT.len(h:EnvT p B V):V.length=B.length:=by
 induction h with
 |nil=>rfl
 |snoc _ _ _ _ _ _ _ _ _ ih=>simp[ih]
theorem EnvT.ids(h:EnvT p B V){i:Id}:(∀b∈B,b.id≠i)->∀v∈V,v.id≠i:=by
 induction h with
 |nil=>simp
 |snoc B V b v h hi hn ht hz ih =>
  intro hb x hx;rcases jAc.1 hx with hx|hx
  .exact ih (fun y hy=>hb y (jBm _ hy)) x hx
  .rw[jAo.1 hx,hi];exact hb b (by simp)
theorem EnvT.args:∀{ss:List Slt} {vs:wI},TyL p (ss.map Slt.typ) vs->(∀v∈vs,zZ v<=256)->EnvT p (ss.map fun s=>⟨s.id,0,s.typ⟩) (cG ss vs):=by
 intro ss;induction ss using m9 with
 |nil =>
  intro vs h _;cases h;exact .nil
 |snoc ss s ih =>
  intro vs h hz;have hl:=h.len;simp only[jAb,jA5,jAz]at hl;obtain⟨ws,w,rfl⟩:∃ws w,vs=ws++[w]:=⟨vs.dropLast,vs.getLast (fun e=>by rw[e]at hl;simp at hl),(List.dropLast_concat_getLast _).symm⟩;simp only[jA5,jAz]at hl;have h1:TyL p (ss.map Slt.typ) ws:=TyL.of (by simp;omega) fun j hj=>by have:=h.get j (by simp;omega) (by simp;omega);rw[jBn hj]at this;rw[jAt]at this ⊢;rw[jBn (by omega)]at this;exact this
  have h2:TyV p s.typ w:=by
   have:=h.get ss.length (by simp;omega) (by simp);rw[jC1 (by omega)]at this
   simpa[show ss.length-ws.length=0 by omega]using this
  have e:cG (ss++[s]) (ws++[w])=cG ss ws++[⟨s.id,0,w⟩]:=by unfold cG;rw[List.zipWith_append (by omega)];rfl
  rw[e,jC0];exact(ih h1 fun v hv=>hz v (jBm _ hv)).push ⟨h2,hz w (by simp)⟩
def zKV(p:Prg):Prop:=∀(r:Id) (d:Dfn),jH p.defs r=some d->fA d=true->WE p (eO d) d.body d.res
section
variable{p:Prg}{ev:Evl}
def pB(ev:Evl):Prop:=∀e V s,s.fail≠0->ev e V s=(vz,s)
def Snd(p:Prg)(ev:Evl):Prop:=∀e B V s t,WE p B e t->EnvT p B V->(ev e V s).2.fail=0->TyV p t (ev e V s).1/\zZ (ev e V s).1<=256
theorem vZ(h:pB ev)(V:wO):∀(l:wG) (s:XS),s.fail≠0->(jG ev V l s).2=s
 |[],s,_=>rfl
 |e::l,s,hs=>by simp only[jG,h e V s hs];exact vZ h V l s hs
variable{s:XS}
theorem zNg(h:pB ev){V:wO}{e:Exp}{l:wG}(hs:(jG ev V (e::l) s).2.fail=0):(ev e V s).2.fail=0:=by
 by_cases hf:(ev e V s).2.fail=0
 .exact hf
 .simp only[jG]at hs;rw[vZ h V l _ hf]at hs;exact hs
theorem nS(h:pB ev)(V:wO)(i:Id)(b:Exp):∀(l:wI) (r:Val×XS),r.2.fail≠0->(j7 ev V i b l r).2=r.2
 |[],r,_=>rfl
 |x::l,r,hs=>by simp only[j7,h _ _ _ hs];exact nS h V i b l _ hs
theorem mW(h:pB ev)(k:Snd p ev){B:wJ}{V:wO}(hV:EnvT p B V):∀(l:wG) (ts:wS) (s:XS) (hl:l.length=ts.length),(∀(j:Nat) (hj:j<l.length),WE p B l[j] (ts[j]'(hl▸hj))) ->
 (jG ev V l s).2.fail=0->TyL p ts (jG ev V l s).1/\∀v∈(jG ev V l s).1,zZ v<=256
 |[],[],s,_,_,_=>⟨.nil,by simp[jG]⟩
 |[],t::ts,s,hl,_,_=>by simp at hl
 |e::l,[],s,hl,_,_=>by simp at hl
 |e::l,t::ts,s,hl,hw,hs=>by
  have h1:=k e B V s t (hw 0 (by simp)) hV (zNg h hs);have h2:=mW h k hV l ts (ev e V s).2 (by simpa using hl) (fun j hj=>hw (j+1) (by simpa using hj)) (by simpa only[jG]using hs);simp only[jG];refine⟨.cons _ _ _ _ h1.1 h2.1,fun v hv=>?_⟩;rcases jA3.1 hv with rfl|hv
  .exact h1.2
  .exact h2.2 v hv
theorem zBs(h:pB ev)(k:Snd p ev){B:wJ}{V:wO}(hV:EnvT p B V){i:Id}{b:Exp}{u t:Typ}(hb:WE p (B++[⟨i,0,u⟩]++[⟨i,1,t⟩]) b t):∀(l:wI) (r:Val×XS),(∀x∈l,TyV p u x/\zZ x<=256) ->
 (r.2.fail=0->TyV p t r.1/\zZ r.1<=256)->(j7 ev V i b l r).2.fail=0->TyV p t (j7 ev V i b l r).1/\zZ (j7 ev V i b l r).1<=256
 |[],r,_,hr,hs=>hr hs
 |x::l,r,hl,hr,hs=>by
  simp only[j7]at hs ⊢;have h0:r.2.fail=0:=by
   by_cases hf:r.2.fail=0
   .exact hf
   .have e:=nS h V i b l (vz,r.2) hf;rw[h _ _ _ hf,e]at hs;exact hs
  exact zBs h k hV hb l _ (fun y hy=>hl y (jAm _ hy)) (fun hf=>k b _ _ _ t hb ((hV.push (hl x (by simp))).push (hr h0)) hf) hs
variable{v:Val}
theorem rX{c:Bool}(h:s.fail=0):zf c s v=v:=by simp[zf,h]
theorem zSV(h:zZ v<=10000000)(hb:¬zDx v):zZ v<=256:=by have h1:=nL v (by omega);unfold zDx at hb;omega
theorem iW{x:Val}(h:zZ v<=256)(hx:x∈v.kids):zZ x<=256:=by have:=y4 hx;omega
theorem zK7{l:wI}(h:∀v∈l,zZ v<=256)(hl:l.length<=32768):qK l<=8388608:=by have:=xP h;have:l.length*256<=32768*256:=jB8 _ hl;omega
theorem up{t:Typ}(h:TyV p t v/\zZ v<=256):TyV p t v/\zZ v<=10000000:=⟨h.1,by omega⟩
theorem zTp(hp:zKV p)(fl:Nat)(h:pB ev)(k:Snd p ev){e:Exp}{B:wJ}{V:wO}{t:Typ}(he:WE p B e t)(hV:EnvT p B V)(hs:(qM p fl ev e V s).2.fail=0):TyV p t (qM p fl ev e V s).1/\zZ (qM p fl ev e V s).1<=10000000:=by
 cases he with
 |int _ i n r u ns h1 h2=>exact⟨.int n h1 h2,by simp[qM,zZ,qK]⟩
 |bool _ i n r u ns h=>exact⟨.bool n h,by simp[qM,zZ,qK]⟩
 |var _ i n r u ns _ h =>
  have:=hV.find h;exact⟨this.1,by simp only[qM];simp;omega⟩
 |call _ i n r u ks ns hn d hd hk hl hw =>
  have e:qM p fl ev (.mk i 3 n r u ks ns) V s=bX ev d (jG ev V ks s).1 (jG ev V ks s).2:=by simp[qM,dfn,hd]
  rw[e]at hs ⊢;unfold bX at hs ⊢;by_cases hf:(jG ev V ks s).2.fail=0
  .rw[if_neg (by simp[hf])]at hs ⊢;have ha:=mW h k hV ks _ s hl hw hf;exact up (k _ _ _ _ _ (hp r d hd (by simp[fA,hk])) (EnvT.args ha.1 ha.2) hs)
  .rw[if_pos hf]at hs;exact(hf hs).elim
 |op _ i n r u ks ns hn ts _ ho hl hw =>
  have e:qM p fl ev (.mk i 4 n r u ks ns) V s=(zf true (jG ev V ks s).2 (opV n (jG ev V ks s).1),(jG ev V ks s).2):=by simp[qM]
  rw[e]at hs ⊢;have ha:=mW h k hV ks _ s hl hw hs;rw[rX hs];have:=qGM ho ha.1 ha.2;exact⟨this.1,by simp only;omega⟩
 |record _ i n r u ks ns hn d hd hk hl hw =>
  have e:qM p fl ev (.mk i 7 n r u ks ns) V s=(zf (fl==1) (jG ev V ks s).2 (.mk 2 0 (jG ev V ks s).1),(jG ev V ks s).2):=by simp[qM]
  rw[e]at hs ⊢;obtain⟨ha,hz⟩:=mW h k hV ks _ s hl hw hs;rw[rX hs];have hlen:=ha.len;rw[jAb]at hlen;refine⟨.record _ d _ hd hk hlen fun j hj=>?_,by have:=zK7 hz (by rw[fK];exact hn);simp only[zZ];omega⟩;have:=ha.get j hj (by rw[jAb];omega)
  rwa[jAt]at this
 |case _ i r u a ns d j hd hk hj ha =>
  have e:qM p fl ev (.mk i 9 j r u [a] ns) V s=(zf (fl==1) (ev a V s).2 (.mk 3 j [(ev a V s).1]),(ev a V s).2):=by simp[qM,jG]
  rw[e]at hs ⊢;rw[rX hs];have:=k a B V s _ ha hV hs;exact⟨.case _ d j _ hd hk hj this.1,by simp only[zZ,qK];omega⟩
 |list _ i n r u ks ns t hn hw =>
  have e:qM p fl ev (.mk i 11 n r u ks ns) V s=(zf (fl==1) (jG ev V ks s).2 (.mk 4 0 (jG ev V ks s).1),(jG ev V ks s).2):=by simp[qM]
  rw[e]at hs ⊢;obtain⟨ha,hz⟩:=mW h k hV ks (List.replicate ks.length t) s (by simp) (fun j hj=>by rw[List.getElem_replicate];exact hw j hj) hs;rw[rX hs];refine⟨.list _ _ fun v hv=>?_,by have:=zK7 hz (by rw[fK];exact hn);simp only[zZ];omega⟩;obtain⟨j,hj,rfl⟩:=jAn hv;have:=ha.get j hj (by rw[<-ha.len];exact hj)
  rwa[List.getElem_replicate]at this
 |ite _ i n r u a b c ns _ ha hb hc =>
  have e:qM p fl ev (.mk i 5 n r u [a,b,c] ns) V s=if (ev a V s).2.fail≠0 then (vz,(ev a V s).2)else ev ([a,b,c].getD (if (ev a V s).1.n=1 then 1 else 2) .zero) V (ev a V s).2:=by simp[qM,jW]
  rw[e]at hs ⊢;by_cases hf:(ev a V s).2.fail=0
  .rw[if_neg (by simp[hf])]at hs ⊢;by_cases hn:(ev a V s).1.n=1
   .simp only[if_pos hn]at hs ⊢;exact up (k b B V _ _ hb hV hs)
   .simp only[if_neg hn]at hs ⊢;exact up (k c B V _ _ hc hV hs)
  .rw[if_pos hf]at hs;exact(hf hs).elim
 |lets _ i n r u a b ns v _ hfr ha hb =>
  have e:qM p fl ev (.mk i 6 n r u [a,b] ns) V s=if (ev a V s).2.fail≠0 then (vz,(ev a V s).2)else ev b (V++[⟨i,0,(ev a V s).1⟩]) (ev a V s).2:=by simp[qM,jW]
  rw[e]at hs ⊢;by_cases hf:(ev a V s).2.fail=0
  .rw[if_neg (by simp[hf])]at hs ⊢;exact up (k b _ _ _ _ hb (hV.push (k a B V s _ ha hV hf)) hs)
  .rw[if_pos hf]at hs;exact(hf hs).elim
 |field _ i r u a ns d j hd hk hj ha =>
  have e:qM p fl ev (.mk i 8 j r u [a] ns) V s=if (ev a V s).2.fail≠0 then (vz,(ev a V s).2)else ((ev a V s).1.kids.getD j vz,(ev a V s).2):=by simp[qM,jW]
  rw[e]at hs ⊢;by_cases hf:(ev a V s).2.fail=0
  .rw[if_neg (by simp[hf])]at hs ⊢;obtain⟨hty,hz⟩:=k a B V s _ ha hV hf;rcases hty.def_inv hd with ⟨_,vs,hl,h1,h2⟩|⟨h1,_⟩
   .rw[h1]at hz ⊢;have hjl:j<vs.length:=by omega
    simp only[Val.kids,jB7,jA1 hjl,jBe];exact up ⟨h2 j hjl,iW hz (jA0 hjl)⟩
   .omega
  .rw[if_pos hf]at hs;exact(hf hs).elim
 |mtch _ i n r u a ks ns d _ hfr hd hk hl ha hw =>
  have e:qM p fl ev (.mk i 10 n r u (a::ks) ns) V s=if (ev a V s).2.fail≠0 then (vz,(ev a V s).2)else ev ((a::ks).getD (1+(ev a V s).1.n).toNat .zero) (V++[⟨i,(ev a V s).1.n,(ev a V s).1.kids.headD vz⟩]) (ev a V s).2:=by simp[qM,jW]
  rw[e]at hs ⊢;by_cases hf:(ev a V s).2.fail=0
  .rw[if_neg (by simp[hf])]at hs ⊢;obtain⟨hty,hz⟩:=k a B V s _ ha hV hf;rcases hty.def_inv hd with ⟨h1,_⟩|⟨_,m,x,hm,h1,h2⟩
   .omega
   .have hmk:m<ks.length:=by omega
    have e2:(1+(m:Int)).toNat=m+1:=by omega
    rw[h1]at hs hz ⊢;simp only[Val.n,Val.kids,jD2,e2,List.getD_cons_succ,jB7,jBo,jA1 hmk,jBe]at hs ⊢;exact up (k _ _ _ _ _ (hw m hmk) (hV.push ⟨h2,iW hz (by simp[Val.kids])⟩) hs)
  .rw[if_pos hf]at hs;exact(hf hs).elim
 |fold _ i n r u l s' b ns v _ hfr hl' hs' hb =>
  have e:qM p fl ev (.mk i 12 n r u [l,s',b] ns) V s=if (ev l V s).2.fail≠0 then (vz,(ev l V s).2)else j7 ev V i b (ev l V s).1.kids (ev s' V (ev l V s).2):=by simp[qM,jW]
  rw[e]at hs ⊢;by_cases hf:(ev l V s).2.fail=0
  .rw[if_neg (by simp[hf])]at hs ⊢;obtain⟨hty,hz⟩:=k l B V s _ hl' hV hf;obtain⟨vs,h1,h2⟩:=hty.list_inv;rw[h1]at hs hz ⊢;exact up (zBs h k hV hb vs _ (fun x hx=>⟨h2 x hx,iW hz hx⟩) (fun hg=>k s' B V _ _ hs' hV hg) hs)
  .rw[if_pos hf]at hs;exact(hf hs).elim
theorem gY(p:Prg)(fl:Nat):∀m,pB (aM p fl m)
 | 0=>fun e V s h=>by rw[aM,if_pos h]
 |m+1=>fun e V s h=>by rw[aM,if_pos h]
theorem rI(hp:zKV p)(fl:Nat):∀m,Snd p (aM p fl m)
 | 0=>fun e B V s t he hV hs=>by
  rw[aM]at hs;split at hs
  .rename_i h;exact(h hs).elim
  .simp[tT]at hs
 |m+1=>fun e B V s t he hV hs=>by
  rw[aM]at hs ⊢;split at hs
  .rename_i h;exact(h hs).elim
  .split at hs
   .simp[tT]at hs
   .rename_i h1 h2;rw[if_neg h1,if_neg h2];simp only[uU]at hs ⊢;have hk:gD (qM p fl (aM p fl m) e V (mV e s))=(qM p fl (aM p fl m) e V (mV e s)).2/\(qM p fl (aM p fl m) e V (mV e s)).2.fail=0/\¬zDx (qM p fl (aM p fl m) e V (mV e s)).1:=by
     unfold gD at hs ⊢;split at hs
     .simp[mJ]at hs
     .rename_i h3;rw[if_neg h3];exact⟨rfl,hs,fun hb=>h3 ⟨hs,hb⟩⟩
    rw[rX hs];have:=zTp hp fl (gY p fl m) (rI hp fl m) he hV hk.2.1;exact⟨this.1,zSV this.2 hk.2.2⟩
end
structure Gm where
 at_:Int
 next:Int
def Gm.tick(m:Gm):Gm:=⟨m.at_+1,m.next⟩
def bD(m:Gm)(k n:Int)(r:Id)(ks:wG):Exp×Gm:=(.mk (idR m.next) k n r .zero ks [],⟨m.at_,m.next+1⟩)
def zFR(m:Gm)(k:Nat)(d s:Id):Exp×Gm:=bD (bD m 2 0 s []).2 8 k d [(bD m 2 0 s []).1]
def tY(n:Nat)(x:Int)(i:Nat):Nat:=(i+x.toNat) % n
def zAe(ss:List Slt)(t x:Int):wC :=
 if 4<x then ((List.range ss.length).find? fun i=>match ss[tY ss.length x i]? with|some s=>decide (s.typ.k=t)|none=>false).map (tY ss.length x)else none
theorem zEw{ss:List Slt}{t x:Int}{k:Nat}(h:zAe ss t x=some k):∃s,ss[k]?=some s/\s.typ.k=t:=by
 unfold zAe at h;split at h
 .rw[jAh]at h;obtain⟨i,h1,rfl⟩:=h;have h2:=jD9 h1;split at h2
  .exact⟨_,by assumption,by simpa using h2⟩
  .cases h2
 .cases h
section
variable(l:wB)
def gN(m:Gm)(n:Int):Int:=atV l m.at_ n
def u4(t:Int)(m:Gm):Exp×Gm:=if t=1 then bD m.tick 1 (gN l m 2) Id.zero []else bD m.tick 0 (gN l m 4-1) Id.zero []
def zOF(f:Gm->Exp×Gm)(m:Gm)(n:Int):Exp×Gm:=bD (f (f m).2).2 4 n Id.zero [(f m).1,(f (f m).2).1]
def gIf(f g:Gm->Exp×Gm)(m:Gm):Exp×Gm:=bD (g (g (f m).2).2).2 5 0 Id.zero [(f m).1,(g (f m).2).1,(g (g (f m).2).2).1]
def sQ(d:Dfn)(s:Id)(t:Int)(m:Gm):Exp×Gm :=
 match zAe d.slots t (gN l m 12)with
 |some k=>zFR m.tick k d.id s
 |none=>u4 l t m.tick
def cJ(d:Dfn)(s:Id):Nat->Int->Gm->Exp×Gm
 | 0,t,m=>sQ l d s t m
 |n+1,t,m =>
  match zAe d.slots t (gN l m 12)with
  |some k=>zFR m.tick k d.id s
  |none =>
   if gN l m 12<3/\t=0 then zOF (cJ d s n t) m.tick (gN l m 12)
   else if gN l m 12<2 then zOF (cJ d s n t) m.tick (7+gN l m 12)
   else if gN l m 12=3 then gIf (sQ l d s 1) (cJ d s n t) m.tick
   else u4 l t m.tick
def xU(to from_:Dfn)(s:Id)(i:Nat)(m:Gm):Exp×Gm :=
 match to.slots[i]?,from_.slots[i]? with
 |some u,some v=>if v.typ.k=u.typ.k then (if 0<gN l m 3 then zFR m.tick i from_.id s else cJ l from_ s 2 u.typ.k m.tick)else cJ l from_ s 2 u.typ.k m
 |some u,none=>cJ l from_ s 2 u.typ.k m
 |none,_=>(.zero,m)
def fP(to from_:Dfn)(s:Id):Nat->Gm->wG×Gm
 | 0,m=>([],m)
 |n+1,m=>((fP to from_ s n m).1++[(xU l to from_ s n (fP to from_ s n m).2).1],(xU l to from_ s n (fP to from_ s n m).2).2)
def sR(to from_:Dfn)(s:Id)(m:Gm):Exp×Gm:=bD (fP l to from_ s to.slots.length m).2 7 0 to.id (fP l to from_ s to.slots.length m).1
theorem rB(to from_:Dfn)(s:Id)(m:Gm):∀n,(fP l to from_ s n m).1.length=n
 | 0=>rfl
 |n+1=>by simp[fP,rB to from_ s m n]
def tK(t:Int):Typ:=if t=1 then jR else jK
structure Flat(p:Prg)(d:Dfn):Prop where
 find:jH p.defs d.id=some d
 kind:d.kind=0
 flat:∀s∈d.slots,s.typ=jK\/s.typ=jR
 few:d.slots.length<=6
theorem Flat.typ{p:Prg}{d:Dfn}(h:Flat p d){s:Slt}(hs:s∈d.slots):s.typ=tK s.typ.k/\(s.typ.k=0\/s.typ.k=1):=by rcases h.flat s hs with e|e<;>rw[e]<;>simp[tK,Typ.k]
end
def zV0(p:Prg)(t:Typ):Prop:=t=jK\/t=jR\/∃d,Flat p d/\t=yO d.id
inductive WF(p:Prg)(B:List Bnd):Exp->Typ->Prop
 |int (i n r u ns) (h1 : -1099511627776<=n) (h2:n<=1099511627776):WF p B (.mk i 0 n r u [] ns) jK
 |bool (i n r u ns) (h:n=0\/n=1):WF p B (.mk i 1 n r u [] ns) jR
 |var (i n r u ns t) (h:fI B r n=some t) (ht:zV0 p t):WF p B (.mk i 2 n r u [] ns) t
 |arith (i n r u a b ns) (h1:0<=n) (h2:n<=4) (ha:WF p B a jK) (hb:WF p B b jK):WF p B (.mk i 4 n r u [a,b] ns) jK
 |andor (i n r u a b ns) (h:n=7\/n=8) (ha:WF p B a jR) (hb:WF p B b jR):WF p B (.mk i 4 n r u [a,b] ns) jR
 |ite (i n r u a b c ns t) (ha:WF p B a jR) (hb:WF p B b t) (hc:WF p B c t):WF p B (.mk i 5 n r u [a,b,c] ns) t
 |record (i n r u ks ns) (hn:ks.length<=32768) (d:Dfn) (hd:Flat p d) (hr:d.id=r) (hl:ks.length=(d.slots.map Slt.typ).length) (hw:∀(j:Nat) (hj:j<ks.length),WF p B ks[j] ((d.slots.map Slt.typ)[j]'(hl▸hj))) :
  WF p B (.mk i 7 n r u ks ns) (yO r)
 |field (i r u a ns) (d:Dfn) (j:Nat) (hd:Flat p d) (hr:d.id=r) (hj:j<d.slots.length) (ha:WF p B a (yO r)):WF p B (.mk i 8 j r u [a] ns) d.slots[j].typ
theorem WF.flat{e:Exp}(h:WF p B e t):zV0 p t:=by
 induction h with
 |int=>exact .inl rfl
 |bool=>exact .inr (.inl rfl)
 |var _ _ _ _ _ _ _ ht=>exact ht
 |arith=>exact .inl rfl
 |andor=>exact .inr (.inl rfl)
 |ite _ _ _ _ _ _ _ _ _ _ _ _ _ h _=>exact h
 |record _ _ _ _ _ _ _ d hd hr _ _ _=>exact .inr (.inr ⟨d,hd,by rw[hr]⟩)
 |field _ _ _ _ _ d j hd _ hj _ _ =>
  rcases hd.flat _ (jA0 hj)with e|e<;>rw[e]
  .exact .inl rfl
  .exact .inr (.inl rfl)
theorem WF.we{e:Exp}(h:WF p B e t):WE p B e t:=by
 induction h with
 |int i n r u ns h1 h2=>exact .int _ _ _ _ _ _ h1 h2
 |bool i n r u ns h=>exact .bool _ _ _ _ _ _ h
 |var i n r u ns t h ht=>exact .var _ _ _ _ _ _ _ h
 |arith i n r u a b ns h1 h2 _ _ ha hb =>
  exact .op _ _ _ _ _ _ _ (by simp) [jK,jK] jK (.arith n h1 h2) rfl fun j hj=>by
   match j,hj with
   | 0,_=>exact ha
   | 1,_=>exact hb
 |andor i n r u a b ns h _ _ ha hb =>
  exact .op _ _ _ _ _ _ _ (by simp) [jR,jR] jR (.andor n h) rfl fun j hj=>by
   match j,hj with
   | 0,_=>exact ha
   | 1,_=>exact hb
 |ite _ _ _ _ _ _ _ _ _ _ _ _ ha hb hc=>exact .ite _ _ _ _ _ _ _ _ _ _ ha hb hc
 |record i n r u ks ns hn d hd hr hl _ ih=>subst hr;exact .record _ _ _ _ _ _ _ hn d hd.find hd.kind hl ih
 |field i r u a ns d j hd hr hj _ ih=>subst hr;exact .field _ _ _ _ _ _ d j hd.find hd.kind hj ih
theorem zJ3{l:wB}(hl:∀x∈l,w64 x=x)(m:Gm){t:Int}(ht:t=0\/t=1)(B:wJ):WF p B (u4 l t m).1 (tK t):=by
 have h4:=jT hl (i:=m.at_) (most:=4) (by omega);have h2:=jT hl (i:=m.at_) (most:=2) (by omega);rcases ht with rfl|rfl
 .exact .int _ _ _ _ _ (by unfold gN;omega) (by unfold gN;omega)
 .exact .bool _ _ _ _ _ (by unfold gN;omega)
theorem zN4{f:Gm->Exp×Gm}{t:Int}(ht:t=0\/t=1)(hf:∀m,WF p B (f m).1 (tK t)){n:Int}(hn:t=0/\0<=n/\n<=4\/t=1/\(n=7\/n=8))(m:Gm):WF p B (zOF f m n).1 (tK t):=by
 rcases hn with ⟨rfl,h⟩|⟨rfl,h⟩
 .exact .arith _ _ _ _ _ _ _ h.1 h.2 (hf _) (hf _)
 .exact .andor _ _ _ _ _ _ _ h (hf _) (hf _)
section
variable{l:wB}(hl:∀x∈l,w64 x=x){p:Prg}{d:Dfn}(hd:Flat p d)(s:Id)
include hd
theorem zHM(m:Gm){k:Nat}{u:Slt}(hk:d.slots[k]?=some u):WF p [⟨s,0,yO d.id⟩] (zFR m k d.id s).1 u.typ:=by obtain⟨hk',rfl⟩:=jA4.1 hk;exact .field _ _ _ _ _ d k hd rfl hk' (.var _ _ _ _ _ _ (by simp[fI]) (.inr (.inr ⟨d,hd,rfl⟩)))
include hl
theorem zG4(m:Gm){t:Int}(ht:t=0\/t=1):WF p [⟨s,0,yO d.id⟩] (sQ l d s t m).1 (tK t):=by
 unfold sQ;split
 .rename_i k hk;obtain⟨u,h1,h2⟩:=zEw hk;have h3:=zHM hd s m.tick h1;rw[(hd.typ (jBt h1)).1,h2]at h3;exact h3
 .exact zJ3 hl _ ht _
theorem rC:∀(n:Nat) (m:Gm) {t:Int},t=0\/t=1->WF p [⟨s,0,yO d.id⟩] (cJ l d s n t m).1 (tK t)
 | 0,m,_,ht=>zG4 hl hd s m ht
 |n+1,m,t,ht=>by
  have h12:0<=gN l m 12/\gN l m 12<12:=jT hl (by omega);unfold cJ;split
  .rename_i k hk;obtain⟨u,h1,h2⟩:=zEw hk;have h3:=zHM hd s m.tick h1;rw[(hd.typ (jBt h1)).1,h2]at h3;exact h3
  .split
   .rename_i h;exact zN4 ht (fun m=>rC n m ht) (.inl ⟨h.2,h12.1,by omega⟩) _
   .split
    .rename_i h0 h;have ht1:t=1:=by rcases ht with rfl|rfl;exact(h0 ⟨by omega,rfl⟩).elim;rfl
     exact zN4 ht (fun m=>rC n m ht) (.inr ⟨ht1,by omega⟩) _
    .split
     .exact .ite _ _ _ _ _ _ _ _ _ (zG4 hl hd s _ (.inr rfl)) (rC n _ ht) (rC n _ ht)
     .exact zJ3 hl _ ht _
theorem zUp{to:Dfn}(hto:Flat p to){i:Nat}(hi:i<to.slots.length)(m:Gm):WF p [⟨s,0,yO d.id⟩] (xU l to d s i m).1 to.slots[i].typ:=by
 have h1:=hto.typ (jA0 hi);have hp:=fun m=>rC hl hd s 2 m h1.2
 rw[<-h1.1]at hp;unfold xU;rw[jA1 hi];cases hv:d.slots[i]? with
 |none=>exact hp _
 |some v =>
  simp only;split
  .rename_i e;split
   .have h3:=zHM hd s m.tick hv;have h4:=(hd.typ (jBt hv)).1;rw[h4,e,<-h1.1]at h3;exact h3
   .exact hp _
  .exact hp _
theorem zJ1{to:Dfn}(hto:Flat p to)(m:Gm):∀(n:Nat),n<=to.slots.length->∀(j:Nat) (hj:j<(fP l to d s n m).1.length) (hj':j<to.slots.length),WF p [⟨s,0,yO d.id⟩] (fP l to d s n m).1[j] to.slots[j].typ
 | 0,_,j,hj,_=>by simp[fP]at hj
 |n+1,hn,j,hj,hj'=>by
  have hlen:=rB l to d s m n;by_cases h:j<n
  .have:=zJ1 hto m n (by omega) j (by omega) hj';simp only[fP];rw[jBn (by omega)];exact this
  .have hjn:j=n:=by rw[rB]at hj;omega
   subst hjn;simp only[fP];rw[jC1 (by omega)];simp only[hlen,jBx,jCw];exact zUp hl hd s hto hj' _
theorem zHN{to:Dfn}(hto:Flat p to)(m:Gm):WF p [⟨s,0,yO d.id⟩] (sR l to d s m).1 (yO to.id):=by
 have hlen:=rB l to d s m to.slots.length;have h6:=hto.few;exact .record _ _ _ _ _ _ (by omega) to hto rfl (by simp[hlen]) fun j hj=>by rw[jAt];exact zJ1 hl hd s hto m _ (jA _) j hj (by omega)
end
def isS(s:Id)(k:Exp):Bool:=decide (k.k=2)&&decide (k.ref=s)
mutual
def pV(s:Id):Exp->Bool->Bool
 | .mk _ k _ r _ ks _,field=>(decide (k=2)&&decide (r=s)&&!field)||hU s (decide (k=8)) ks
def hU(s:Id)(f:Bool):List Exp->Bool
 |[]=>false
 |e::l=>pV s e (f&&isS s e)||hU s f l
end
mutual
def zCx(s:Id):Exp->wB
 | .mk _ k n _ _ ks _=>zA4 s (decide (k=8)) n ks
def zA4(s:Id)(f:Bool)(n:Int):List Exp->wB
 |[]=>[]
 |e::l=>(if (f&&isS s e)=true then [n]else [])++zCx s e++zA4 s f n l
end
def qMW:List Int->Int->wB
 |[],n=>[n]
 |x::l,n=>if x<n then x::qMW l n else if x=n then x::l else n::x::l
structure Bn(c:Nat)(m:Int)(s:XS):Prop where
 ns:s.ns.length+s.fuel.toNat<=c
 ds:s.ds.length+s.fuel.toNat<=c
 fu:s.fuel<=m
structure Bd(c:Nat)(m:Int)(s:XS):Prop where
 ns:s.ns.length+s.fuel.toNat<=c
 ds:s.ds.length+s.fuel.toNat<=c
 fu:s.fuel<=m
 ok:s.fail=0->s.ds.length+s.fuel.toNat+1<=c
variable{c:Nat}{m:Int}{s:XS}
theorem Bd.bn(h:Bd c m s):Bn c m s:=⟨h.ns,h.ds,h.fu⟩
theorem Bd.mono{m':Int}(h:Bd c m s)(hm:m<=m'):Bd c m' s:=⟨h.ns,h.ds,by have:=h.fu;omega,h.ok⟩
theorem Bn.bad(h:Bn c m s)(hf:s.fail≠0):Bd c m s:=⟨h.ns,h.ds,h.fu,fun e=>(hf e).elim⟩
theorem Bn.fail(h:Bn c m s){x:Int}(hx:x≠0):Bd c m {s with fail:=x}:=⟨h.ns,h.ds,h.fu,fun e=>(hx e).elim⟩
theorem Bn.tick(h:Bn c m s)(e:Exp)(hf:¬s.fuel<=0):Bd c (m-1) (mV e s):=by obtain⟨h1,h2,h3⟩:=h;unfold mV;exact⟨by simp only[List.length_append,List.length_singleton];omega,by dsimp only;omega,by dsimp only;omega,fun _=>by dsimp only;omega⟩
theorem Bd.def(h:Bd c m s)(d:Id)(hf:s.fail=0):Bn c m {s with ds:=s.ds++[d]}:=by have:=h.ok hf;exact⟨h.ns,by simp only[jA5,jAz];omega,h.fu⟩
section
variable{p:Prg}{ev:Evl}{c:Nat}{m:Int}
theorem zD9(h:∀e V s,Bn c m s->Bd c m (ev e V s).2)(V:wO):∀(l:wG) (s:XS),Bd c m s->Bd c m (jG ev V l s).2
 |[],s,hs=>hs
 |e::l,s,hs=>by simp only[jG];exact zD9 h V l _ (h e V s hs.bn)
theorem zEy(h:∀e V s,Bn c m s->Bd c m (ev e V s).2)(V:wO)(i:Id)(b:Exp):∀(l:wI) (r:Val×XS),Bd c m r.2->Bd c m (j7 ev V i b l r).2
 |[],r,hs=>hs
 |e::l,r,hs=>by simp only[j7];exact zEy h V i b l _ (h _ _ _ hs.bn)
theorem zQG(h:∀e V s,Bn c m s->Bd c m (ev e V s).2)(d:Dfn)(vs:wI)(s:XS)(hs:Bd c m s):Bd c m (bX ev d vs s).2:=by
 unfold bX;split
 .exact hs
 .rename_i hf;exact h _ _ _ (hs.def d.id (by omega))
theorem zLj(h:∀e V s,Bn c m s->Bd c m (ev e V s).2)(e:Exp)(V:wO)(s:XS)(hs:Bd c m s):Bd c m (jW ev e V s).2:=by
 unfold jW;have h0:=h (e.kids.headD .zero) V s hs.bn;generalize ev (e.kids.headD .zero) V s=r at *
 repeat' split
 all_goals first
  |exact h0
  |exact h _ _ _ h0.bn
  |exact zEy h _ _ _ _ _ (h _ _ _ h0.bn)
theorem zPP(h:∀e V s,Bn c m s->Bd c m (ev e V s).2)(fl:Nat)(e:Exp)(V:wO)(s:XS)(hs:Bd c m s):Bd c m (qM p fl ev e V s).2:=by
 unfold qM;have h0:=zD9 h V e.kids s hs;generalize jG ev V e.kids s=r at *
 repeat' split
 all_goals first
  |exact hs
  |exact h0
  |exact zLj h _ _ _ hs
  |exact zQG h _ _ _ h0
theorem zU5{r:Val×XS}(h:Bd c m r.2):Bd c m (gD r):=by
 unfold gD;split
 .exact h.bn.fail (by decide)
 .exact h
theorem zEO(fl:Nat):∀(n:Nat) e V s,Bn c m s->Bd c m (aM p fl n e V s).2
 | 0,e,V,s,hs=>by
  rw[aM];split
  .rename_i h;exact hs.bad h
  .exact hs.fail (by decide)
 |n+1,e,V,s,hs=>by
  rw[aM];split
  .rename_i h;exact hs.bad h
  .split
   .exact hs.fail (by decide)
   .rename_i h;exact zU5 (zPP (zEO fl n) fl e V _ ((hs.tick e h).mono (by omega)))
end
def Eqv(r r':Val×XS):Prop:=r.2=r'.2/\(r.2.fail=0->r.1=r'.1)
theorem Eqv.rfl'(r:Val×XS):Eqv r r:=⟨rfl,fun _=>rfl⟩
theorem Eqv.eq{r r':Val×XS}(h:Eqv r r')(hf:r.2.fail=0):r'=r:=Prod.ext (h.2 hf).symm h.1.symm
section
variable{p:Prg}{f g:Evl}
end
@[simp]theorem qL5:zF prog 227=true:=by kernel_rfl
theorem zJe(n:Int):my 227 [int n] [] (int (bB n)) []:=by
 refine mq [] [.slot 2] func227 (by kernel_rfl) ?_
 (conv in kq _ _=>cbv)
 by_cases h1:n < -1099511627776
 .simp[h1];exact zA 0 (by simp[bB,h1,show ¬1099511627776<n by omega])
 .by_cases h2:1099511627776<n
  .simp[h1,h2];exact zA 0 (by simp[bB,h2])
  .simp[h1,h2];exact zA 0 (by simp[bB,h1,h2])
theorem eW(b:Bool):my 174 [bl b] [] (.agg (zC (dR b))) []:=by
 refine mq [] [.cell 2 3 true] func174 (by kernel_rfl) ?_
 (conv in kq _ _=>cbv)
 cases b with
 |true =>
  simp;exact zA 0 (by simp[zC,dR,Val.k,Val.n,Val.kids])
 |false =>
  simp;exact zA 0 (by simp[zC,dR,Val.k,Val.n,Val.kids])
def Rng(a:Int):Prop:=-1099511627776<=a/\a<=1099511627776
@[simp]theorem qLB:zF prog 226=true:=by kernel_rfl
@[simp]theorem qLC:zF prog 228=true:=by kernel_rfl
@[simp]theorem qLF:zF prog 229=true:=by kernel_rfl
@[simp]theorem qL8:zF prog 230=true:=by kernel_rfl
@[simp]theorem qLE:zF prog 231=true:=by kernel_rfl
theorem zTT(ha:Rng a)(hb:Rng b):my 226 [int a,int b] [] (int (bB (a+b))) []:=by
 obtain⟨a1,a2⟩:=ha;obtain⟨b1,b2⟩:=hb;refine mq [] [.slot 4] func226 (by kernel_rfl) ?_
 (conv in kq _ _=>cbv)
 have hw:=z8 (a+b) (by omega);simp[hw];refine mu (zJe (a+b)) (by simp) ?_;simp;exact zA 0 (by simp)
theorem zUb(ha:Rng a)(hb:Rng b):my 228 [int a,int b] [] (int (bB (a-b))) []:=by
 obtain⟨a1,a2⟩:=ha;obtain⟨b1,b2⟩:=hb;refine mq [] [.slot 4] func228 (by kernel_rfl) ?_
 (conv in kq _ _=>cbv)
 have hw:=z8 (a-b) (by omega);simp[hw];refine mu (zJe (a-b)) (by simp) ?_;simp;exact zA 0 (by simp)
theorem zOv{m n q:Nat}(hq:1099511627776 / n=q)(hn:0<n):(q<m->1099511627776<m*n)/\(¬q<m->m*n<=1099511627776):=by
 constructor
 .intro h;rw[<-hq]at h;exact(Nat.div_lt_iff_lt_mul hn).1 h
 .intro h;rw[<-hq]at h;have:=mt (Nat.div_lt_iff_lt_mul hn).2 h;omega
theorem zNW(a:Int)(h:a≠0):∃m:Nat,0<m/\(a=m\/a = -(m:Int)):=⟨a.natAbs,by omega,by omega⟩
theorem zO8(ha:Rng a)(hb:Rng b):my 229 [int a,int b] [] (int (bB (a*b))) []:=by
 obtain⟨a1,a2⟩:=ha;obtain⟨b1,b2⟩:=hb;refine mq [] [.slot 4] func229 (by kernel_rfl) ?_
 (conv in kq _ _=>cbv)
 by_cases h0:a=0
 .subst h0;simp;exact zA 0 (by simp[bB])
 by_cases h1:b=0
 .subst h1;simp[h0];exact zA 0 (by simp[bB])
 obtain⟨m,m0,hm⟩:=zNW a h0;obtain⟨n,n0,hn⟩:=zNW b h1;obtain⟨q,hq⟩:∃q:Nat,1099511627776 / n=q:=⟨_,rfl⟩;obtain⟨c1,c2⟩:=zOv (m:=m) hq n0;have hqd:Int.tdiv 1099511627776 (n:Int)=(q:Int):=by rw[tdN (by omega),<-hq];rfl
 have hqle:q<=1099511627776:=by rw[<-hq];exact Nat.div_le_self _ _
 have wq:=z8 (q:Int) (by omega);have wm:=z8 (m:Int) (by omega);have wn:=z8 (n:Int) (by omega);have wm':IntKind.i64.wrap (-(m:Int)) = -m:=IntWalk.i64_in _ (by omega);have wn':IntKind.i64.wrap (-(n:Int)) = -n:=IntWalk.i64_in _ (by omega);have x1:¬((m:Int) < -m):=by omega
 have x2:(-(m:Int))<m:=by omega
 have y1:¬((n:Int) < -n):=by omega
 have y2:(-(n:Int))<n:=by omega
 have z1:¬((m:Int)<0):=by omega
 have z2:(-(m:Int))<0:=by omega
 have z3:¬((n:Int)<0):=by omega
 have z4:(-(n:Int))<0:=by omega
 have m1:¬m=0:=by omega
 have n1:¬n=0:=by omega
 have p0:(m:Int)*n=((m*n:Nat):Int):=by push_cast;rfl
 generalize hmn:m*n=s at *
 by_cases hc:(q:Int)<m
 .have hs:=c1 (by omega);have k1:bB (s:Int)=1099511627776:=by unfold bB;rw[if_pos (by omega)]
  have k2:bB (-(s:Int)) = -1099511627776:=by unfold bB;rw[if_neg (by omega),if_pos (by omega)]
  rcases hm with rfl|rfl<;>rcases hn with rfl|rfl<;>simp[m1,n1,wm,wn,wm',wn',x1,x2,y1,y2,z1,z2,z3,z4,m0,n0,hqd,wq,hc]<;>exact zA 0 (by simp[Int.neg_mul,Int.mul_neg,p0,k1,k2])
 .have hs:=c2 (by omega);have k1:bB (s:Int)=s:=by unfold bB;rw[if_neg (by omega),if_neg (by omega)]
  have k2:bB (-(s:Int)) = -s:=by unfold bB;rw[if_neg (by omega),if_neg (by omega)]
  have w1:=z8 (s:Int) (by omega);have w2:=z8 (-(s:Int)) (by omega);rcases hm with rfl|rfl<;>rcases hn with rfl|rfl<;>simp[m1,n1,wm,wn,wm',wn',x1,x2,y1,y2,z1,z2,z3,z4,m0,n0,hqd,wq,hc]<;>exact zA 0 (by simp[Int.neg_mul,Int.mul_neg,p0,k1,k2,w1,w2])
theorem zEq(ha:Rng a)(hb:Rng b):my 230 [int a,int b] [] (int (pZ a b)) []:=by
 obtain⟨a1,a2⟩:=ha;refine mq [] [.slot 4] func230 (by kernel_rfl) ?_
 (conv in kq _ _=>cbv)
 by_cases h1:b=0
 .subst h1;simp;exact zA 0 (by simp[pZ])
 have ht:=zIw (b:=b) a1 a2;have w1:=z8 (a.tdiv b) (by omega);have w2:=z8 (a.tdiv b-1) (by omega);have e:pZ a b=if a.tmod b≠0/\¬(a<0↔b<0)then a.tdiv b-1 else a.tdiv b:=by unfold pZ;rw[if_neg h1]
 rw[e];by_cases hm:a.tmod b=0
 .simp[h1,hm,w1];exact zA 0 (by simp[hm])
 by_cases s1:a<0<;>by_cases s2:b<0<;>simp[h1,hm,w1,s1,s2,w2]<;>exact zA 0 (by simp[hm,s1,s2])
theorem zRt(ha:Rng a)(hb:Rng b):my 231 [int a,int b] [] (int (zD3 a b)) []:=by
 have hd:=zEq ha hb;refine mq [] [.slot 4] func231 (by kernel_rfl) ?_
 (conv in kq _ _=>cbv)
 by_cases h1:b=0
 .subst h1;simp;exact zA 0 (by simp[zD3])
 have hr:=zAC (a:=a) hb.1 hb.2;have e:zD3 a b=a-b*pZ a b:=by unfold zD3;rw[if_neg h1]
 obtain⟨a1,a2⟩:=ha;have w1:=z8 (b*pZ a b) (by omega);have w2:=z8 (a-b*pZ a b) (by omega);simp[h1];refine mu hd (by simp) ?_;simp[w1,w2];exact zA 0 (by simp[e])
def zKw:Go.Shelf.Ren:=⟨fun | 4=>204|n=>n,fun | 0=>0 | 3=>3 | 4=>4 | 9=>9 | 20=>20 | 22=>44 | 25=>46|n=>n,fun n=>n⟩
theorem zSe:Go.Proofs.Lays8.n4 prog zKw:={
 mixed:=by kernel_rfl,
 f4:=⟨f204.name,by decide,func204.trans (congrArg some (by kernel_rfl))⟩,
 t0:=underlying0,
 a0:=isAgg0,
 z0:=sizeOf0,
 v0:=zeroValue0,
 t3:=underlying3,
 a3:=isAgg3,
 z3:=sizeOf3,
 v3:=zeroValue3,
 t4:=underlying4,
 a4:=isAgg4,
 z4:=sizeOf4,
 v4:=zeroValue4,
 t9:=underlying9,
 a9:=isAgg9,
 z9:=sizeOf9,
 v9:=zeroValue9,
 t20:=underlying20,
 a20:=isAgg20,
 z20:=sizeOf20,
 v20:=zeroValue20,
 t22:=underlying44,
 a22:=isAgg44,
 z22:=sizeOf44,
 v22:=zeroValue44}
theorem zJ8(n:Nat)(hn:n<=1000000):my 204 [.nil,int n] [] (.row 0 0) [.row false 46 3 0 []] :=
 zOY (ρ:=zKw) (sz:=3) (bs:=40) (z:=.agg #[.int .i64 0,.int .i64 0,.slice none 0 0]) zSe (by kernel_rfl) rfl (by omega) (by omega) (by omega)
def cU(Ls:List wI):wE:=Ls.map fun l=>A.sl l.length (zR l)
theorem pI:∀(Ls:List wI),qV (cU Ls)
 |[]=>qV.nil
 |l::Ls=>by
  have h1:=pI Ls;have h2:=eD l;refine⟨?_,fun rf g=>?_⟩
  .show jO (A.sl l.length (zR l)::cU Ls)=_;simp[h1.1];rfl
  .show vwL rf g (A.sl l.length (zR l)::cU Ls)=_;simp[h1.2];rfl
@[simp]theorem zUI(l:List wI):jO (cU l)=cU l:=(pI l).1
@[simp]theorem qAh{rf g}(l:List wI):vwL rf g (cU l)=cU l:=(pI l).2 _ _
@[simp]theorem zWu(l:List wI):(cU l).length=l.length:=by simp[cU]
variable{Ls:List wI}
theorem zBa{i:Nat}(h:i<Ls.length):(cU Ls).drop i=.sl Ls[i].length (zR Ls[i])::cU (Ls.drop (i+1)):=by rw[cU,<-List.map_drop,jAp h];rfl
def oM(Ls:List wI):Nat:=Ls.flatten.length
theorem zHn{i:Nat}(h:i<Ls.length):oM (Ls.take (i+1))=oM (Ls.take i)+Ls[i].length:=by rw[oM,oM,jA8 h,jDl];simp
theorem zNZ(Ls:List wI)(i:Nat):oM (Ls.take i)<=oM Ls:=by
 have:Ls.flatten=(Ls.take i).flatten++(Ls.drop i).flatten:=by rw[<-jDl,jCb]
 rw[oM,oM,this,jA5];omega
theorem zFO(Ls:List wI)(hb:oM Ls<=1000000):my 196 [.sl Ls.length (cU Ls)] [] (.sl (oM Ls) (zR Ls.flatten)) []:=by
 refine mq [] [.slot 2] func196 (by kernel_rfl) ?_
 (conv in kq _ _=>cbv)
 simp;intro hl;refine qO (S:=Nat) (fun i=>[(0,.sl Ls.length (cU Ls)),(3,int (oM (Ls.take i))),(9,.sl Ls.length (cU Ls)),(10,int Ls.length),(11,int i)]) (fun s=>[]) (fun i=>i<=Ls.length) (fun i=>Ls.length-i) 0 (by simp)
  (mw [] 0 (by rfl) (by simp[oM])) ?_
 intro i hi;by_cases h:i<Ls.length
 .have ht:=zHn h;have hle:=zNZ Ls (i+1);have hw:IntKind.i64.wrap ((oM (Ls.take i):Int)+(Ls[i].length:Int))=(oM (Ls.take (i+1)):Nat):=by rw[ht];push_cast;exact IntWalk.i64_in _ (by omega)
  have h0:¬((oM (Ls.take (i+1)):Nat):Int)<0:=by omega
  simp[h,zBa h];intro _;simp[hw,h0];exact zS (i+1) h (by omega) (mw [] 0 (by rfl) (by simp[qF h hl]))
 .have hil:i=Ls.length:=by omega
  subst hil;have hI:¬(Ls.length:Int)<Ls.length:=by omega
  simp;refine mr (zJ8 (oM Ls) hb) [] (by simp) ?_;simp;intro _;refine qO (S:=Nat) (fun i=>[(6,.row 0 (oM (Ls.take i))),(25,.sl Ls.length (cU Ls)),(26,int Ls.length),(27,int i)]) (fun i=>[.row false 46 3 (oM (Ls.take i)) (zR (Ls.take i).flatten)]) (fun i=>i<=Ls.length) (fun i=>Ls.length-i) 0 (by simp)
   (mw [0] 0 (by rfl) (by simp[oM])) ?_
  intro i hi;by_cases h:i<Ls.length
  .have ht:=zHn h;have hle:=zNZ Ls (i+1);have hf:(Ls.take (i+1)).flatten=(Ls.take i).flatten++Ls[i]:=by rw[jA8 h,jDl];simp
   simp[h,zBa h];refine⟨⟨by simp[maxLen];omega,by omega⟩,?_⟩;exact zS (i+1) h (by omega) (mw [0] 0 (by rfl) (by simp[ht,hf,bS,qF h hl]))
  .have hil:i=Ls.length:=by omega
   subst hil;simp;exact zA 1 (by simp)
mutual
theorem zAo:∀(l:wI),qK l<=1000000->my 108 [.sl l.length (zR l)] [] (.sl l.length (zR l)) []
 |l,hz=>by
  have hl6:=eL l;refine mq [] [.slot 2] func108 (by kernel_rfl) ?_
  (conv in kq _ _=>cbv)
  simp;intro hl;refine qO (S:=Nat) (fun i=>[(3,.row 0 i),(6,.sl l.length (zR l)),(7,int l.length),(8,int i)]) (fun i=>[.row false 46 3 i (zR (l.take i))]) (fun i=>i<=l.length) (fun i=>l.length-i) 0 (by simp)
   ((yK (t:=3) (by simp) 46 3).trans (mw [0] 0 (by rfl) (by simp))) ?_
  intro i hi;by_cases h:i<l.length
  .have hk:=zCW l hz l[i] (jA0 h);have ht:zR (l.take (i+1))=zR (l.take i)++[.lit (.int .i64 l[i].k),.lit (.int .i64 l[i].n),.sl l[i].kids.length (zR l[i].kids)]:=by rw[jA8 h,bS];simp
   simp[h,qT h];refine mu hk (by simp) ?_;simp;refine⟨⟨by simp[maxLen];omega,by omega⟩,?_⟩;exact zS (i+1) h (by omega) (mw [0] 0 (by rfl) (by simp[ht,qF h hl]))
  .have hil:i=l.length:=by omega
   subst hil;simp;exact zA 1 (by simp)
theorem zCW:∀(l:wI),qK l<=1000000->∀x∈l,my 108 [.sl x.kids.length (zR x.kids)] [] (.sl x.kids.length (zR x.kids)) []
 |[],_,x,h=>by simp at h
 | .mk k n ks::l,hz,x,h=>by
  simp only[qK,zZ]at hz
  if e:x∈l then exact zCW l (by omega) x e
  else
   have:x=.mk k n ks:=(jA3.1 h).resolve_right e;subst this;exact zAo ks (by omega)
end
def qF9:Nat->Option wD:=fun|9=>k_ [0,2,2,0,2,2,301,302,0,0]|_=>none
@[simp]theorem qH5(b:Bool):(dR b).k=1:=rfl
@[simp]theorem qH6(b:Bool):(dR b).n=if b then 1 else 0:=rfl
@[simp]theorem zX1(b:Bool):(dR b).kids=[]:=rfl
@[simp]theorem zYI{env:Env}:ev env (.global 0)=.rptr [.clo 226 [] [],.clo 228 [] [],.clo 229 [] [],.clo 230 [] [],.clo 231 [] []]:=rfl
theorem aY:2<=maxLen:=by simp[maxLen]
theorem iY:1<=maxLen:=by simp[maxLen]
theorem zYG{n:Int}(h:OpT n ts t)(hv:TyL p ts vs)(hs:∀v∈vs,zZ v<=256):my 177 [int n,.sl vs.length (zR vs)] [] (.agg (zC (opV n vs))) []:=by
 refine ml qF9 [64] [] [] [.cell 4 3 true] func177 (by kernel_rfl) ?_
 (conv in kH _ _ _=>cbv)
 cases h with
 |arith n h1 h2 =>
  obtain⟨a,b,rfl,ha,hb⟩:=hv.two;obtain⟨x,rfl,hx⟩:=ha.int_inv;obtain⟨y,rfl,hy⟩:=hb.int_inv;have e:opV n [.mk 0 x [],.mk 0 y []]=.mk 0 (uA n x y) []:=by simp only[opV,if_pos h2];rfl
  rw[e];have hn:n=0\/n=1\/n=2\/n=3\/n=4:=by omega
  rcases hn with rfl|rfl|rfl|rfl|rfl
  .simp[Val.k,Val.n,Val.kids,aY,iY];refine qA (zTT hx hy) (by simp) (by simp) ?_;simp;exact zA 0 (by simp[zC,Val.k,Val.n,Val.kids,uA])
  .simp[Val.k,Val.n,Val.kids,aY,iY];refine qA (zUb hx hy) (by simp) (by simp) ?_;simp;exact zA 0 (by simp[zC,Val.k,Val.n,Val.kids,uA])
  .simp[Val.k,Val.n,Val.kids,aY,iY];refine qA (zO8 hx hy) (by simp) (by simp) ?_;simp;exact zA 0 (by simp[zC,Val.k,Val.n,Val.kids,uA])
  .simp[Val.k,Val.n,Val.kids,aY,iY];refine qA (zEq hx hy) (by simp) (by simp) ?_;simp;exact zA 0 (by simp[zC,Val.k,Val.n,Val.kids,uA])
  .simp[Val.k,Val.n,Val.kids,aY,iY];refine qA (zRt hx hy) (by simp) (by simp) ?_;simp;exact zA 0 (by simp[zC,Val.k,Val.n,Val.kids,uA])
 |less =>
  obtain⟨a,b,rfl,ha,hb⟩:=hv.two;obtain⟨x,rfl,hx⟩:=ha.int_inv;obtain⟨y,rfl,hy⟩:=hb.int_inv;simp[Val.k,Val.n,Val.kids,aY,iY];refine⟨_,_,yN 2,?_⟩;simp[Val.k,Val.n,Val.kids,aY,iY];refine mu (eW (decide (x<y))) (by simp[zC]) ?_;simp[zC];exact zA 0 (by by_cases hx0:x<y<;>simp[zC,opV,zQ,hx0])
 |same u =>
  obtain⟨a,b,rfl,ha,hb⟩:=hv.two;simp[aY];refine⟨_,_,yN 2,?_⟩;simp[aY];refine mu (zDB a b) (by simp[zC]) ?_;simp;refine mu (eW (decide (gU a b=0))) (by simp[zC]) ?_;simp[zC];exact zA 0 (by simp[zC,opV])
 |andor n h =>
  obtain⟨a,b,rfl,ha,hb⟩:=hv.two;obtain⟨x,rfl,hx⟩:=ha.bool_inv;obtain⟨y,rfl,hy⟩:=hb.bool_inv;rcases h with rfl|rfl
  .rcases hx with rfl|rfl<;>rcases hy with rfl|rfl
   .simp[Val.k,Val.n,Val.kids,aY];refine⟨_,_,yN 2,?_⟩;simp[Val.k,Val.n,Val.kids,aY];refine mu (eW false) (by simp[zC]) ?_;simp[zC];exact zA 0 (by simp[zC,opV,zQ])
   .simp[Val.k,Val.n,Val.kids,aY];refine⟨_,_,yN 2,?_⟩;simp[Val.k,Val.n,Val.kids,aY];refine mu (eW false) (by simp[zC]) ?_;simp[zC];exact zA 0 (by simp[zC,opV,zQ])
   .simp[Val.k,Val.n,Val.kids,aY];refine⟨_,_,yN 2,?_⟩;simp[Val.k,Val.n,Val.kids,aY];refine mu (eW false) (by simp[zC]) ?_;simp[zC];exact zA 0 (by simp[zC,opV,zQ])
   .simp[Val.k,Val.n,Val.kids,aY];refine⟨_,_,yN 2,?_⟩;simp[Val.k,Val.n,Val.kids,aY];refine mu (eW true) (by simp[zC]) ?_;simp[zC];exact zA 0 (by simp[zC,opV,zQ])
  .rcases hx with rfl|rfl<;>rcases hy with rfl|rfl
   .simp[Val.k,Val.n,Val.kids,aY];refine⟨_,_,yN 2,?_⟩;simp[Val.k,Val.n,Val.kids,aY];refine mu (eW false) (by simp[zC]) ?_;simp[zC];exact zA 0 (by simp[zC,opV,zQ])
   all_goals
    simp[Val.k,Val.n,Val.kids,aY];refine⟨_,_,yN 2,?_⟩;simp[Val.k,Val.n,Val.kids,aY];refine mu (eW true) (by simp[zC]) ?_;simp[zC];exact zA 0 (by simp[zC,opV,zQ])
 |not =>
  obtain⟨a,rfl,ha⟩:=hv.one;obtain⟨x,rfl,hx⟩:=ha.bool_inv;simp[Val.k,Val.n,Val.kids,aY,iY];refine mu (eW (decide (x=0))) (by simp[zC]) ?_;simp[zC];exact zA 0 (by by_cases hx0:x=0<;>simp[zC,opV,zQ,hx0])
 |join u =>
  obtain⟨a,b,rfl,ha,hb⟩:=hv.two;have h1:=hs a (by simp);have h2:=hs b (by simp);cases a with|mk k1 n1 l1 =>
  cases b with|mk k2 n2 l2 =>
  simp only[zZ]at h1 h2;have z1:=eL l1;have z2:=eL l2;have hc:my 196 [.sl 2 [.sl l1.length (zR l1),.sl l2.length (zR l2)]] [] (.sl (l1.length+l2.length) (zR (l1++l2))) []:=by simpa[cU,oM]using zFO [l1,l2] (by simp[oM];omega)
  have hk:=zAo (l1++l2) (by rw[dC];omega);rw[jA5]at hk;simp[Val.k,Val.n,Val.kids,aY,iY];refine⟨_,_,yN 2,?_⟩;simp[Val.k,Val.n,Val.kids,aY,iY];refine mu hc (by simp) ?_;simp;refine mu hk (by simp) ?_;simp;exact zA 0 (by simp[zC,opV,Val.k,Val.n,Val.kids])
 |len u =>
  obtain⟨a,rfl,ha⟩:=hv.one;simp[iY];exact fun _=>zA 0 (by simp[zC,opV,Val.k,Val.n,Val.kids])
def zAB(n:Nat):wB:=(List.range n).map fun(i:Nat)=>(i:Int)
def xM(s:Id)(e:Exp)(n:Nat):wB:=(zAB n).filter fun i=>pV s e false||decide (i∈zCx s e)
theorem zGX(ha:Rng a)(hb:b≠0):my 208 [int a,int b] [] (int (pZ a b)) []:=by
 obtain⟨a1,a2⟩:=ha;refine mq [] [.slot 4] func208 (by kernel_rfl) ?_
 (conv in kq _ _=>cbv)
 have ht:=zIw (b:=b) a1 a2;have w1:=z8 (a.tdiv b) (by omega);have w2:=z8 (a.tdiv b-1) (by omega);have e:pZ a b=if a.tmod b≠0/\¬(a<0↔b<0)then a.tdiv b-1 else a.tdiv b:=by unfold pZ;rw[if_neg hb]
 have hq:=Int.tdiv_mul_add_tmod a b;have habs:(a.tmod b).natAbs<=a.natAbs:=by rw[Int.natAbs_tmod];exact Nat.mod_le _ _
 have w3:=z8 (a.tdiv b*b) (by omega);have wa:=z8 a (by omega);rw[e];by_cases hm:a.tmod b=0
 .have e1:a.tdiv b*b=a:=by omega
  simp[hb,w1,wa,e1];exact zA 0 (by simp[hm])
 .have e1:¬a.tdiv b*b=a:=by omega
  by_cases s1:a<0<;>by_cases s2:b<0<;>simp[hb,w1,w3,e1,s1,s2,w2]<;>exact zA 0 (by simp[hm,s1,s2])
theorem zKx(ha:Rng a)(hb:Rng b):my 207 [int a,int b] [] (int (bB (a*b))) []:=by
 obtain⟨a1,a2⟩:=ha;obtain⟨b1,b2⟩:=hb;refine mq [] [.slot 4] func207 (by kernel_rfl) ?_
 (conv in kq _ _=>cbv)
 obtain⟨m,hm⟩:∃m:Nat,m=a.natAbs:=⟨_,rfl⟩;obtain⟨n,hn⟩:∃n:Nat,n=b.natAbs:=⟨_,rfl⟩;obtain⟨D,hD⟩:∃D:Nat,D=m / 1048576:=⟨_,rfl⟩;obtain⟨M,hM⟩:∃M:Nat,M=m % 1048576:=⟨_,rfl⟩;obtain⟨H,hH⟩:∃H:Nat,H=D*n:=⟨_,rfl⟩;obtain⟨R,hR⟩:∃R:Nat,R=M*n:=⟨_,rfl⟩;have hs:m*n=1048576*H+R:=by
  have:m=1048576*D+M:=by omega
  rw[hH,hR,<-Nat.mul_assoc,<-jB,<-this]
 have hHb:H<=1048576*1099511627776:=by rw[hH];exact Nat.mul_le_mul (by omega) (by omega)
 have hRb:R<=1048576*1099511627776:=by rw[hR];exact Nat.mul_le_mul (by omega) (by omega)
 have hd:(m:Int) / 1048576=(D:Int):=by omega
 have hd':Int.tdiv (m:Int) 1048576=(D:Int):=by rw[tdN (by omega)];omega
 have hr:(m:Int) % 1048576=(M:Int):=by omega
 have hr':Int.tmod (m:Int) 1048576=(M:Int):=by rw[tmN (by omega)];omega
 have wd:=z8 (D:Int) (by omega);have eH:(D:Int)*(n:Int)=(H:Int):=by rw[hH,Int.natCast_mul]
 have eR:(M:Int)*(n:Int)=(R:Int):=by rw[hR,Int.natCast_mul]
 have es:(m:Int)*(n:Int)=((1048576*H+R:Nat):Int):=by rw[<-hs,Int.natCast_mul]
 have wH:=z8 (H:Int) (by omega);have wR:=z8 (R:Int) (by omega);have wm:=z8 (m:Int) (by omega);have wn:=z8 (n:Int) (by omega);have w1:IntKind.i64.wrap (-1) = -1:=by decide
 have w1':IntKind.i64.wrap 1=1:=by decide
 have wc:IntKind.i64.wrap 1099511627776=1099511627776:=by decide
 have wc':IntKind.i64.wrap (-1099511627776) = -1099511627776:=by decide
 have z1:¬((m:Int)<0):=by omega
 have z3:¬((n:Int)<0):=by omega
 have hpos:bB (a*b)=if (a<0↔b<0)then bB ((1048576*H+R:Nat):Int)else-bB ((1048576*H+R:Nat):Int):=by
  have hneg:∀x:Int,bB (-x) = - bB x:=fun x=>by unfold bB;split<;>split<;>first|omega|(split<;>omega)
  by_cases s1:a<0<;>by_cases s2:b<0
  .have:a*b=(m:Int)*n:=by rw[show a = -(m:Int) by omega,show b = -(n:Int) by omega,Int.neg_mul_neg]
   rw[this,es,if_pos (by simp[s1,s2])]
  .have:a*b = -((m:Int)*n):=by rw[show a = -(m:Int) by omega,show b=(n:Int) by omega,Int.neg_mul]
   rw[this,es,hneg,if_neg (by simp[s1,s2])]
  .have:a*b = -((m:Int)*n):=by rw[show a=(m:Int) by omega,show b = -(n:Int) by omega,Int.mul_neg]
   rw[this,es,hneg,if_neg (by simp[s1,s2])]
  .have:a*b=(m:Int)*n:=by rw[show a=(m:Int) by omega,show b=(n:Int) by omega]
   rw[this,es,if_pos (by simp[s1,s2])]
 rw[hpos];have hS:IntKind.i64.wrap ((H:Int)*1048576)=(H:Int)*1048576\/1099511627776<(H:Int):=by
  rcases jAx 1099511627776 H with h|h
  .exact .inr (by omega)
  .exact .inl (IntWalk.i64_in _ (by omega))
 by_cases hc:1099511627776<(H:Int)
 .have k1:bB ((1048576*H+R:Nat):Int)=1099511627776:=by unfold bB;rw[if_pos (by omega)]
  rw[k1];by_cases s1:a<0<;>by_cases s2:b<0
  .have ea:a = -(m:Int):=by omega
   have eb:b = -(n:Int):=by omega
   have sa : -(m:Int)<0:=by omega
   have sb : -(n:Int)<0:=by omega
   have sa':0<m:=by omega
   have sb':0<n:=by omega
   subst ea eb;simp[sa,sb,sa',sb',wm,wn,w1,w1',hd,hd',wd,eH,wH,hc,wc];exact zA 0 (by simp[sa',sb'])
  .have ea:a = -(m:Int):=by omega
   have eb:b=(n:Int):=by omega
   have sa : -(m:Int)<0:=by omega
   have sa':0<m:=by omega
   subst ea eb;simp[sa,sa',z3,wm,wn,w1,w1',hd,hd',wd,eH,wH,hc,wc'];exact zA 0 (by simp[sa',z3])
  .have ea:a=(m:Int):=by omega
   have eb:b = -(n:Int):=by omega
   have sb : -(n:Int)<0:=by omega
   have sb':0<n:=by omega
   subst ea eb;simp[sb,sb',z1,wm,wn,w1,w1',hd,hd',wd,eH,wH,hc,wc'];exact zA 0 (by simp[sb',z1])
  .have ea:a=(m:Int):=by omega
   have eb:b=(n:Int):=by omega
   subst ea eb;simp[z1,z3,wm,wn,w1,w1',hd,hd',wd,eH,wH,hc,wc];exact zA 0 (by simp[z1,z3])
 .have hS:=hS.resolve_right hc;have hT:IntKind.i64.wrap ((H:Int)*1048576+(R:Int))=((1048576*H+R:Nat):Int):=by rw[IntWalk.i64_in _ (by omega)];omega
  have hcl:=oR ((1048576*H+R:Nat):Int);have rc:=zFe ((1048576*H+R:Nat):Int);generalize ((1048576*H+R:Nat):Int)=T at *
  have wT:=z8 (bB T) (by omega);have wT':IntKind.i64.wrap (-bB T) = -bB T:=IntWalk.i64_in _ (by omega);by_cases s1:a<0<;>by_cases s2:b<0
  .have ea:a = -(m:Int):=by omega
   have eb:b = -(n:Int):=by omega
   have sa':0<m:=by omega
   have sb':0<n:=by omega
   subst ea eb;simp[sa',sb',wm,wn,w1,w1',hd,hd',wd,eH,wH,hc,hr,hr',eR,wR,hS,hT];refine mu rc (by simp) ?_;simp[wT];exact zA 0 (by simp[sa',sb'])
  .have ea:a = -(m:Int):=by omega
   have eb:b=(n:Int):=by omega
   have sa':0<m:=by omega
   subst ea eb;simp[sa',z3,wm,wn,w1,w1',hd,hd',wd,eH,wH,hc,hr,hr',eR,wR,hS,hT];refine mu rc (by simp) ?_;simp[wT'];exact zA 0 (by simp[sa',z3])
  .have ea:a=(m:Int):=by omega
   have eb:b = -(n:Int):=by omega
   have sb':0<n:=by omega
   subst ea eb;simp[sb',z1,wm,wn,w1,w1',hd,hd',wd,eH,wH,hc,hr,hr',eR,wR,hS,hT];refine mu rc (by simp) ?_;simp[wT'];exact zA 0 (by simp[sb',z1])
  .have ea:a=(m:Int):=by omega
   have eb:b=(n:Int):=by omega
   subst ea eb;simp[z1,z3,wm,wn,w1,w1',hd,hd',wd,eH,wH,hc,hr,hr',eR,wR,hS,hT];refine mu rc (by simp) ?_;simp[wT];exact zA 0 (by simp[z1,z3])
theorem zZG{n:Int}(h:OpT n ts t)(hv:TyL p ts vs)(hs:∀v∈vs,zZ v<=256):my 200 [int n,.sl vs.length (zR vs)] [] (.agg (zC (opV n vs))) []:=by
 refine mq [] [.cell 4 3 true] func200 (by kernel_rfl) ?_
 (conv in kq _ _=>cbv)
 cases h with
 |arith n h1 h2 =>
  obtain⟨a,b,rfl,ha,hb⟩:=hv.two;obtain⟨x,rfl,hx⟩:=ha.int_inv;obtain⟨y,rfl,hy⟩:=hb.int_inv;have e:opV n [.mk 0 x [],.mk 0 y []]=.mk 0 (uA n x y) []:=by simp only[opV,if_pos h2];rfl
  rw[e];have hn:n=0\/n=1\/n=2\/n=3\/n=4:=by omega
  rcases hn with rfl|rfl|rfl|rfl|rfl
  .have hw:=z8 (x+y) (by omega);simp[zX,zQ,zH,hw];refine mu (zFe (x+y)) (by simp) ?_;simp;exact zA 0 (by simp[zC,zX,zQ,zH,uA])
  .have hw:=z8 (x-y) (by omega);simp[zX,zQ,zH,hw];refine mu (zFe (x-y)) (by simp) ?_;simp;exact zA 0 (by simp[zC,zX,zQ,zH,uA])
  .simp[zX,zQ,zH];refine mu (zKx hx hy) (by simp) ?_;simp;exact zA 0 (by simp[zC,zX,zQ,zH,uA])
  .by_cases hy0:y=0
   .simp[zX,zQ,zH,hy0];exact zA 0 (by simp[zC,zX,zQ,zH,uA,pZ])
   .simp[zX,zQ,zH,hy0];refine mu (zGX hx hy0) (by simp) ?_;simp;exact zA 0 (by simp[zC,zX,zQ,zH,uA])
  .by_cases hy0:y=0
   .simp[zX,zQ,zH,hy0];exact zA 0 (by simp[zC,zX,zQ,zH,uA,zD3])
   .have hr:=zAC (a:=x) hy.1 hy.2;have e:zD3 x y=x-y*pZ x y:=by unfold zD3;rw[if_neg hy0]
    have w1:=z8 (y*pZ x y) (by omega);have w2:=z8 (x-y*pZ x y) (by omega);simp[zX,zQ,zH,hy0];refine qA (zGX hx hy0) (by simp) (by simp) ?_;simp[w1,w2];exact zA 0 (by simp[zC,zX,zQ,zH,uA,e])
 |less =>
  obtain⟨a,b,rfl,ha,hb⟩:=hv.two;obtain⟨x,rfl,hx⟩:=ha.int_inv;obtain⟨y,rfl,hy⟩:=hb.int_inv;simp[zX,zQ,zH];refine mu (gF (decide (x<y))) (by simp[zC]) ?_;simp[zC];exact zA 0 (by by_cases hx0:x<y<;>simp[zC,opV,zQ,hx0])
 |same u =>
  obtain⟨a,b,rfl,ha,hb⟩:=hv.two;simp;refine mu (gQ a b) (by simp[zC]) ?_;simp;refine mu (gF (decide (gU a b=0))) (by simp[zC]) ?_;simp[zC];exact zA 0 (by simp[zC,opV])
 |andor n h =>
  obtain⟨a,b,rfl,ha,hb⟩:=hv.two;obtain⟨x,rfl,hx⟩:=ha.bool_inv;obtain⟨y,rfl,hy⟩:=hb.bool_inv;rcases h with rfl|rfl
  .rcases hx with rfl|rfl<;>rcases hy with rfl|rfl
   .simp[zX,zQ,zH];refine mu (gF false) (by simp[zC]) ?_;simp[zC];exact zA 0 (by simp[zC,opV,zQ])
   .simp[zX,zQ,zH];refine mu (gF false) (by simp[zC]) ?_;simp[zC];exact zA 0 (by simp[zC,opV,zQ])
   .simp[zX,zQ,zH];refine mu (gF false) (by simp[zC]) ?_;simp[zC];exact zA 0 (by simp[zC,opV,zQ])
   .simp[zX,zQ,zH];refine mu (gF true) (by simp[zC]) ?_;simp[zC];exact zA 0 (by simp[zC,opV,zQ])
  .rcases hx with rfl|rfl<;>rcases hy with rfl|rfl
   .simp[zX,zQ,zH];refine mu (gF false) (by simp[zC]) ?_;simp[zC];exact zA 0 (by simp[zC,opV,zQ])
   all_goals
    simp[zX,zQ,zH];refine mu (gF true) (by simp[zC]) ?_;simp[zC];exact zA 0 (by simp[zC,opV,zQ])
 |not =>
  obtain⟨a,rfl,ha⟩:=hv.one;obtain⟨x,rfl,hx⟩:=ha.bool_inv;simp[zX,zQ,zH];refine mu (gF (decide (x=0))) (by simp[zC]) ?_;simp[zC];exact zA 0 (by by_cases hx0:x=0<;>simp[zC,opV,zQ,hx0])
 |join u =>
  obtain⟨a,b,rfl,ha,hb⟩:=hv.two;have h1:=hs a (by simp);have h2:=hs b (by simp);cases a with|mk k1 n1 l1 =>
  cases b with|mk k2 n2 l2 =>
  simp only[zZ]at h1 h2;have z1:=eL l1;have z2:=eL l2;simp[zX,zQ,zH];exact⟨⟨by simp[maxLen];omega,by omega⟩,⟨by simp[maxLen];omega,by omega⟩,zA 1 (by simp[zC,opV,zX,zQ,zH])⟩
 |len u =>
  obtain⟨a,rfl,ha⟩:=hv.one;simp;exact fun _=>zA 0 (by simp[zC,opV,zX,zQ,zH])
end Go.Proofs.YtdnelmeboihpkaaGreatDoor

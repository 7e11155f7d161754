/-
  Types of values and of programs' expressions; a run keeps them.
  What tweaks and new names keep.
  What a run asks is bounded by its fuel; the three evaluators have the same states, and the same values where nothing fails.
-/
import Derived.Test.YthglhccibdlccaaGreatDoorX31
import Derived.Test.YthglhccibdlccaaGreatDoorX41
import Derived.Test.YthglhccibdlccaaGreatDoorX32
import Derived.Test.YthglhccibdlccaaGreatDoorX33
import Derived.Test.YthglhccibdlccaaGreatDoorX38
import Derived.Test.YthglhccibdlccaaGreatDoorX39
set_option linter.unusedVariables false
set_option linter.unusedSimpArgs false
namespace Go.Proofs.YthglhccibdlccaaGreatDoor
open Go.Abs
inductive TyV (p:Prg):Typ→Val→Prop
 | int (n:Int) (h1 : -1099511627776≤n) (h2:n≤1099511627776):TyV p jG (.mk 0 n [])
 | bool (n:Int) (h:n=0∨n=1):TyV p jN (.mk 1 n [])
 | list (t:Typ) (vs:List Val) (h:∀v∈vs,TyV p t v):TyV p (jH t) (.mk 4 0 vs)
 | record (id:Id) (d:Dfn) (vs:List Val) (hd:zAg p.defs id=some d) (hk:d.kind=0) (hl:vs.length=d.slots.length) (h:∀(j:Nat) (hj:j<vs.length),TyV p (d.slots[j]'(hl▸hj)).typ vs[j]):TyV p (zAy id) (.mk 2 0 vs)
 | case (id:Id) (d:Dfn) (n:Nat) (v:Val) (hd:zAg p.defs id=some d) (hk:d.kind=1) (hn:n<d.slots.length) (h:TyV p d.slots[n].typ v):TyV p (zAy id) (.mk 3 n [v])
theorem TyV.int_inv {p:Prg}{v:Val}(h:TyV p jG v):∃n:Int,v=.mk 0 n []∧-1099511627776≤n∧n≤1099511627776:=by
 generalize ht:jG=t at h;cases h with
 | int n h1 h2=>exact⟨n,rfl,h1,h2⟩
 | _=>simp at ht
theorem TyV.bool_inv {p:Prg}{v:Val}(h:TyV p jN v):∃n:Int,v=.mk 1 n []∧(n=0∨n=1):=by
 generalize ht:jN=t at h;cases h with
 | bool n h=>exact⟨n,rfl,h⟩
 | _=>simp at ht
theorem TyV.list_inv {p:Prg}{u:Typ}{v:Val}(h:TyV p (jH u) v):∃vs:List Val,v=.mk 4 0 vs∧∀x∈vs,TyV p u x:=by
 generalize ht:jH u=t at h;cases h with
 | list t vs h =>
  simp only[Typ.mk.injEq,List.cons.injEq,and_true,true_and]at ht;subst ht;exact⟨vs,rfl,h⟩
 | _=>simp at ht
theorem TyV.def_inv {p:Prg}{r:Id}{d:Dfn}{v:Val}(hd:zAg p.defs r=some d)(h:TyV p (zAy r) v) :
 (d.kind=0∧∃(vs:List Val) (hl:vs.length=d.slots.length),v=.mk 2 0 vs∧∀(j:Nat) (hj:j<vs.length),TyV p (d.slots[j]'(hl▸hj)).typ vs[j]) ∨
 (d.kind=1∧∃(n:Nat) (x:Val) (hn:n<d.slots.length),v=.mk 3 n [x]∧TyV p d.slots[n].typ x):=by
 generalize ht:zAy r=t at h;cases h with
 | record id d' vs hd' hk hl h =>
  simp only[Typ.mk.injEq,and_true,true_and]at ht;subst ht;rw[hd]at hd';cases hd';exact .inl ⟨hk,vs,hl,rfl,h⟩
 | case id d' n x hd' hk hn h =>
  simp only[Typ.mk.injEq,and_true,true_and]at ht;subst ht;rw[hd]at hd';cases hd';exact .inr ⟨hk,n,x,hn,rfl,h⟩
 | _=>simp at ht
inductive TyL (p:Prg):List Typ→List Val→Prop
 | nil:TyL p [] []
 | cons (t:Typ) (ts:List Typ) (v:Val) (vs:List Val) (h:TyV p t v) (hs:TyL p ts vs):TyL p (t::ts) (v::vs)
theorem TyL.len {p:Prg}{ts:List Typ}{vs:List Val}(h:TyL p ts vs):vs.length=ts.length:=by
 induction h with
 | nil=>rfl
 | cons _ _ _ _ _ _ ih=>simp[ih]
theorem TyL.get {p:Prg}{ts:List Typ}{vs:List Val}(h:TyL p ts vs):∀(j:Nat) (hj:j<vs.length) (hj':j<ts.length),TyV p ts[j] vs[j]:=by
 induction h with
 | nil=>intro j hj; simp at hj
 | cons t ts v vs h hs ih =>
  intro j hj hj';cases j with
  | zero=>exact h
  | succ j=>exact ih j (by simpa using hj) (by simpa using hj')
theorem TyL.of {p:Prg}:∀{ts:List Typ} {vs:List Val} (hl:vs.length=ts.length) (_:∀(j:Nat) (hj:j<vs.length),TyV p (ts[j]'(hl▸hj)) vs[j]),TyL p ts vs
 | [],[],_,_=>.nil
 | t::ts,v::vs,hl,h=>.cons t ts v vs (h 0 (by simp)) (TyL.of (by simpa using hl) fun j hj=>h (j+1) (by simpa using hj))
 | [],v::vs,hl,_=>by simp at hl
 | t::ts,[],hl,_=>by simp at hl
inductive OpT:Int→List Typ→Typ→Prop
 | arith (n:Int) (h1:0≤n) (h2:n≤4):OpT n [jG,jG] jG
 | less:OpT 5 [jG,jG] jN
 | same (u:Typ):OpT 6 [u,u] jN
 | andor (n:Int) (h:n=7∨n=8):OpT n [jN,jN] jN
 | not:OpT 9 [jN] jN
 | join (t:Typ):OpT 10 [jH t,jH t] (jH t)
 | len (t:Typ):OpT 11 [jH t] jG
theorem TyL.one {p:Prg}{t:Typ}{vs:List Val}(h:TyL p [t] vs):∃a,vs=[a]∧TyV p t a:=by
 cases h with
 | cons _ _ v vs h hs=>cases hs; exact⟨v,rfl,h⟩
theorem TyL.two {p:Prg}{t u:Typ}{vs:List Val}(h:TyL p [t,u] vs):∃a b,vs=[a,b]∧TyV p t a∧TyV p u b:=by
 cases h with
 | cons _ _ v vs h hs =>
  obtain⟨b,rfl,hb⟩:=hs.one;exact⟨v,b,rfl,h,hb⟩
theorem zHr {p:Prg}(b:Bool):TyV p jN (zB8 b):=.bool _ (by cases b<;>simp)
theorem zEN (n:Int) : -1099511627776≤zBy n∧zBy n≤1099511627776:=by
 unfold zBy;split
 ·omega
 ·split<;>omega
theorem zRc {a b:Int}(h1 : -1099511627776≤a)(h2:a≤1099511627776) : -1099511627776≤a.tdiv b∧a.tdiv b≤1099511627776:=by have h:=Int.natAbs_tdiv_le_natAbs a b;omega
theorem zS8 {a b:Int}(h1 : -1099511627776≤a)(h2:a≤1099511627776)(hm:a.tmod b≠0)(hb:b≠0) : -1099511627775≤a.tdiv b:=by
 have hn:a.natAbs / b.natAbs=(a.tdiv b).natAbs:=by rw[Int.natAbs_tdiv]; rfl
 have hb2:2≤b.natAbs:=by
  rcases Nat.lt_or_ge b.natAbs 2 with h | h
  ·exfalso;have:b=1∨b = -1:=by omega
   rcases this with rfl | rfl
   ·simp at hm
   ·exact hm (by rw[Int.tmod_neg,Int.tmod_one])
  ·exact h
 have:a.natAbs / b.natAbs≤a.natAbs / 2:=Nat.div_le_div_left hb2 (by omega);omega
theorem zPb {a:Int}(b:Int)(h1 : -1099511627776≤a)(h2:a≤1099511627776) : -1099511627776≤zFX a b∧zFX a b≤1099511627776:=by
 unfold zFX;have h:=zRc (b:=b) h1 h2;split
 ·omega
 ·rename_i hb;split
  ·rename_i hc;have:=zS8 h1 h2 hc.1 hb;omega
  ·omega
theorem zX9 (a b:Int):zMx a b=if b=0 then 0 else if a.tmod b≠0∧¬(a<0↔b<0) then a.tmod b+b else a.tmod b:=by
 unfold zMx zFX;by_cases hb:b=0
 ·simp[hb]
 ·rw[if_neg hb,if_neg hb,if_neg hb];have:=Int.mul_tdiv_add_tmod a b;split
  ·rw[Int.mul_sub]; omega
  ·omega
theorem zKb {a b:Int}(h1 : -1099511627776≤b)(h2:b≤1099511627776) : -1099511627776≤zMx a b∧zMx a b≤1099511627776:=by
 rw[zX9];by_cases hb:b=0
 ·simp[hb]
 ·rw[if_neg hb];have h3:(a.tmod b).natAbs<b.natAbs:=by rw[Int.natAbs_tmod]; exact Nat.mod_lt _ (by omega)
  have h4:0≤a→0≤a.tmod b:=Int.tmod_nonneg b;have h5:a<0→a.tmod b≤0:=fun h=>by have:=Int.tmod_nonneg (a:=-a) b (by omega);rw[Int.neg_tmod]at this;omega
  split<;>omega
theorem zPA {n a b:Int}(a1 : -1099511627776≤a)(a2:a≤1099511627776)(b1 : -1099511627776≤b)(b2:b≤1099511627776) : -1099511627776≤zKJ n a b∧zKJ n a b≤1099511627776:=by
 unfold zKJ;split
 ·exact zEN _
 ·split
  ·exact zEN _
  ·split
   ·exact zEN _
   ·split
    ·exact zPb b a1 a2
    ·exact zKb b1 b2
theorem zDl:∀(l:List Val),l.length≤qN l
 | []=>by simp[qN]
 | .mk _ _ l'::l=>by have:=zDl l; simp only[List.length_cons,qN,qB]; omega
theorem zUL {v:Val}(h:qB v≤256):v.kids.length≤255:=by
 cases v with
 | mk k n l =>
  have:=zDl l;simp only[qB]at h;simp only[Val.kids];omega
theorem qHM {p:Prg}{n:Int}{ts:List Typ}{t:Typ}(h:OpT n ts t){vs:List Val}(hv:TyL p ts vs)(hs:∀v∈vs,qB v≤256):TyV p t (opV n vs)∧qB (opV n vs)≤1000:=by
 cases h with
 | arith n h1 h2 =>
  obtain⟨a,b,rfl,ha,hb⟩:=hv.two;obtain⟨x,rfl,x1,x2⟩:=ha.int_inv;obtain⟨y,rfl,y1,y2⟩:=hb.int_inv;simp only[opV,if_pos h2];have:=zPA (n:=n) x1 x2 y1 y2;exact⟨.int _ this.1 this.2,by simp[qB,qN]⟩
 | less =>
  obtain⟨a,b,rfl,ha,hb⟩:=hv.two;exact⟨zHr _,by simp[opV,zB8,qB,qN]⟩
 | same u =>
  obtain⟨a,b,rfl,ha,hb⟩:=hv.two;exact⟨zHr _,by simp[opV,zB8,qB,qN]⟩
 | andor n h =>
  obtain⟨a,b,rfl,ha,hb⟩:=hv.two;rcases h with rfl | rfl<;>exact⟨zHr _,by simp[opV,zB8,qB,qN]⟩
 | not =>
  obtain⟨a,rfl,ha⟩:=hv.one;exact⟨zHr _,by simp[opV,zB8,qB,qN]⟩
 | join t =>
  obtain⟨a,b,rfl,ha,hb⟩:=hv.two;obtain⟨x,rfl,hx⟩:=ha.list_inv;obtain⟨y,rfl,hy⟩:=hb.list_inv;refine⟨.list _ _ fun v hv=>?_,?_⟩
  ·rcases List.mem_append.1 hv with h | h
   ·exact hx v h
   ·exact hy v h
  ·have h1:=hs (.mk 4 0 x) (by simp);have h2:=hs (.mk 4 0 y) (by simp);simp only[qB]at h1 h2;simp[opV,Val.kids,qB,zBE];omega
 | len t =>
  obtain⟨a,rfl,ha⟩:=hv.one;have:=zUL (hs a (by simp));exact⟨.int _ (by omega) (by omega),by simp[opV,qB,qN]⟩
inductive WE (p:Prg):List Bnd→Exp→Typ→Prop
 | int (env i n r u ns) (h1 : -1099511627776≤n) (h2:n≤1099511627776):WE p env (.mk i 0 n r u [] ns) jG
 | bool (env i n r u ns) (h:n=0∨n=1):WE p env (.mk i 1 n r u [] ns) jN
 | var (env i n r u ns t) (h:zBS env r n=some t):WE p env (.mk i 2 n r u [] ns) t
 | call (env i n r u ks ns) (hn:ks.length≤32768) (d:Dfn) (hd:zAg p.defs r=some d) (hk:d.kind=2) (hl:ks.length=(d.slots.map Slt.typ).length) (hw:∀(j:Nat) (hj:j<ks.length),WE p env ks[j] ((d.slots.map Slt.typ)[j]'(hl▸hj))) :
  WE p env (.mk i 3 n r u ks ns) d.res
 | op (env i n r u ks ns) (hn:ks.length≤32768) (ts:List Typ) (t:Typ) (ho:OpT n ts t) (hl:ks.length=ts.length) (hw:∀(j:Nat) (hj:j<ks.length),WE p env ks[j] (ts[j]'(hl▸hj))):WE p env (.mk i 4 n r u ks ns) t
 | ite (env i n r u a b c ns t) (ha:WE p env a jN) (hb:WE p env b t) (hc:WE p env c t):WE p env (.mk i 5 n r u [a,b,c] ns) t
 | lets (env i n r u a b ns v t) (hf:∀x∈env,x.id≠i) (ha:WE p env a v) (hb:WE p (env++[⟨i,0,v⟩]) b t):WE p env (.mk i 6 n r u [a,b] ns) t
 | record (env i n r u ks ns) (hn:ks.length≤32768) (d:Dfn) (hd:zAg p.defs r=some d) (hk:d.kind=0) (hl:ks.length=(d.slots.map Slt.typ).length) (hw:∀(j:Nat) (hj:j<ks.length),WE p env ks[j] ((d.slots.map Slt.typ)[j]'(hl▸hj))) :
  WE p env (.mk i 7 n r u ks ns) (zAy r)
 | field (env i r u a ns) (d:Dfn) (j:Nat) (hd:zAg p.defs r=some d) (hk:d.kind=0) (hj:j<d.slots.length) (ha:WE p env a (zAy r)):WE p env (.mk i 8 j r u [a] ns) d.slots[j].typ
 | case (env i r u a ns) (d:Dfn) (j:Nat) (hd:zAg p.defs r=some d) (hk:d.kind=1) (hj:j<d.slots.length) (ha:WE p env a d.slots[j].typ):WE p env (.mk i 9 j r u [a] ns) (zAy r)
 | mtch (env i n r u a ks ns) (d:Dfn) (t:Typ) (hf:∀x∈env,x.id≠i) (hd:zAg p.defs r=some d) (hk:d.kind=1) (hl:ks.length=d.slots.length) (ha:WE p env a (zAy r))
  (hw:∀(j:Nat) (hj:j<ks.length),WE p (env++[⟨i,j,(d.slots[j]'(hl▸hj)).typ⟩]) ks[j] t):WE p env (.mk i 10 n r u (a::ks) ns) t
 | list (env i n r u ks ns t) (hn:ks.length≤32768) (hw:∀(j:Nat) (hj:j<ks.length),WE p env ks[j] t):WE p env (.mk i 11 n r u ks ns) (jH t)
 | fold (env i n r u l s b ns v t) (hf:∀x∈env,x.id≠i) (hl:WE p env l (jH v)) (hs:WE p env s t) (hb:WE p (env++[⟨i,0,v⟩]++[⟨i,1,t⟩]) b t):WE p env (.mk i 12 n r u [l,s,b] ns) t
theorem zEv (B:List Bnd)(b:Bnd)(x:Id)(n:Int):zBS (B++[b]) x n=if b.id=x∧b.n=n then some b.typ else zBS B x n:=by
 unfold zBS;rw[List.reverse_append,List.reverse_singleton,List.singleton_append,List.find?_cons];by_cases h1:b.id=x
 ·by_cases h2:b.n=n<;>simp[h1,h2]
 ·simp[h1]
inductive EnvT (p:Prg):List Bnd→List EVar→Prop
 | nil:EnvT p [] []
 | snoc (B:List Bnd) (V:List EVar) (b:Bnd) (v:EVar) (h:EnvT p B V) (hi:v.id=b.id) (hn:v.n=b.n) (ht:TyV p b.typ v.v) (hz:qB v.v≤256):EnvT p (B++[b]) (V++[v])
theorem EnvT.find {p:Prg}{B:List Bnd}{V:List EVar}(h:EnvT p B V){x:Id}{n:Int}{t:Typ}:zBS B x n=some t→TyV p t (zFQ V x n)∧qB (zFQ V x n)≤256:=by
 induction h with
 | nil=>intro h; simp[zBS]at h
 | snoc B V b v h hi hn ht hz ih =>
  rw[zEv,zJx,hi,hn];split
  ·intro e; cases e; exact⟨ht,hz⟩
  ·exact ih
theorem EnvT.push {p:Prg}{B:List Bnd}{V:List EVar}(h:EnvT p B V){i:Id}{n:Int}{t:Typ}{v:Val}(ht:TyV p t v∧qB v≤256):EnvT p (B++[⟨i,n,t⟩]) (V++[⟨i,n,v⟩]):=.snoc _ _ _ _ h rfl rfl ht.1 ht.2
theorem EnvT.len {p:Prg}{B:List Bnd}{V:List EVar}(h:EnvT p B V):V.length=B.length:=by
 induction h with
 | nil=>rfl
 | snoc _ _ _ _ _ _ _ _ _ ih=>simp[ih]
theorem EnvT.ids {p:Prg}{B:List Bnd}{V:List EVar}(h:EnvT p B V){i:Id}:(∀b∈B,b.id≠i)→∀v∈V,v.id≠i:=by
 induction h with
 | nil=>simp
 | snoc B V b v h hi hn ht hz ih =>
  intro hb x hx;rcases List.mem_append.1 hx with hx | hx
  ·exact ih (fun y hy=>hb y (List.mem_append_left _ hy)) x hx
  ·rw[List.mem_singleton.1 hx,hi];exact hb b (by simp)
theorem EnvT.args {p:Prg}:∀{ss:List Slt} {vs:List Val},TyL p (ss.map Slt.typ) vs→(∀v∈vs,qB v≤256)→EnvT p (ss.map fun s=>⟨s.id,0,s.typ⟩) (zCA ss vs):=by
 intro ss;induction ss using zBu with
 | nil =>
  intro vs h _;cases h;exact .nil
 | snoc ss s ih =>
  intro vs h hz;have hl:=h.len;simp only[List.length_map,List.length_append,List.length_singleton]at hl;obtain⟨ws,w,rfl⟩:∃ws w,vs=ws++[w]:=⟨vs.dropLast,vs.getLast (fun e=>by rw[e]at hl; simp at hl),(List.dropLast_concat_getLast _).symm⟩;simp only[List.length_append,List.length_singleton]at hl;have h1:TyL p (ss.map Slt.typ) ws:=TyL.of (by simp; omega) fun j hj=>by have:=h.get j (by simp; omega) (by simp; omega);rw[List.getElem_append_left hj]at this;rw[List.getElem_map]at this ⊢;rw[List.getElem_append_left (by omega)]at this;exact this
  have h2:TyV p s.typ w:=by
   have:=h.get ss.length (by simp; omega) (by simp);rw[List.getElem_append_right (by omega)]at this
   simpa [show ss.length-ws.length=0 by omega] using this
  have e:zCA (ss++[s]) (ws++[w])=zCA ss ws++[⟨s.id,0,w⟩]:=by unfold zCA;rw[List.zipWith_append (by omega)];rfl
  rw[e,List.map_append];exact(ih h1 fun v hv=>hz v (List.mem_append_left _ hv)).push ⟨h2,hz w (by simp)⟩
def zMB (p:Prg):Prop:=∀(r:Id) (d:Dfn),zAg p.defs r=some d→zCi d=true→WE p (zAX d) d.body d.res
section
variable {p:Prg}{ev:Evl}
def zK5 (ev:Evl):Prop:=∀e V s,s.fail≠0→ev e V s=(vz,s)
def Snd (p:Prg)(ev:Evl):Prop:=∀e B V s t,WE p B e t→EnvT p B V→(ev e V s).2.fail=0→TyV p t (ev e V s).1∧qB (ev e V s).1≤256
theorem zKP (h:zK5 ev)(V:List EVar):∀(l:List Exp) (s:XS),s.fail≠0→(jE ev V l s).2=s
 | [],s,_=>rfl
 | e::l,s,hs=>by simp only[jE,h e V s hs]; exact zKP h V l s hs
theorem zVQ (h:zK5 ev){V:List EVar}{e:Exp}{l:List Exp}{s:XS}(hs:(jE ev V (e::l) s).2.fail=0):(ev e V s).2.fail=0:=by
 by_cases hf:(ev e V s).2.fail=0
 ·exact hf
 ·simp only[jE]at hs;rw[zKP h V l _ hf]at hs;exact hs
theorem zGj (h:zK5 ev)(V:List EVar)(i:Id)(b:Exp):∀(l:List Val) (r:Val×XS),r.2.fail≠0→(zAt ev V i b l r).2=r.2
 | [],r,_=>rfl
 | x::l,r,hs=>by simp only[zAt,h _ _ _ hs];exact zGj h V i b l _ hs
theorem zDt (h:zK5 ev)(k:Snd p ev){B:List Bnd}{V:List EVar}(hV:EnvT p B V):∀(l:List Exp) (ts:List Typ) (s:XS) (hl:l.length=ts.length),(∀(j:Nat) (hj:j<l.length),WE p B l[j] (ts[j]'(hl▸hj))) →
 (jE ev V l s).2.fail=0→TyL p ts (jE ev V l s).1∧∀v∈(jE ev V l s).1,qB v≤256
 | [],[],s,_,_,_=>⟨.nil,by simp[jE]⟩
 | [],t::ts,s,hl,_,_=>by simp at hl
 | e::l,[],s,hl,_,_=>by simp at hl
 | e::l,t::ts,s,hl,hw,hs=>by
  have h1:=k e B V s t (hw 0 (by simp)) hV (zVQ h hs);have h2:=zDt h k hV l ts (ev e V s).2 (by simpa using hl) (fun j hj=>hw (j+1) (by simpa using hj)) (by simpa only[jE] using hs);simp only[jE];refine⟨.cons _ _ _ _ h1.1 h2.1,fun v hv=>?_⟩;rcases List.mem_cons.1 hv with rfl | hv
  ·exact h1.2
  ·exact h2.2 v hv
theorem zJ2 (h:zK5 ev)(k:Snd p ev){B:List Bnd}{V:List EVar}(hV:EnvT p B V){i:Id}{b:Exp}{u t:Typ}(hb:WE p (B++[⟨i,0,u⟩]++[⟨i,1,t⟩]) b t):∀(l:List Val) (r:Val×XS),(∀x∈l,TyV p u x∧qB x≤256) →
 (r.2.fail=0→TyV p t r.1∧qB r.1≤256)→(zAt ev V i b l r).2.fail=0→TyV p t (zAt ev V i b l r).1∧qB (zAt ev V i b l r).1≤256
 | [],r,_,hr,hs=>hr hs
 | x::l,r,hl,hr,hs=>by
  simp only[zAt]at hs ⊢;have h0:r.2.fail=0:=by
   by_cases hf:r.2.fail=0
   ·exact hf
   ·have e:=zGj h V i b l (vz,r.2) hf;rw[h _ _ _ hf,e]at hs;exact hs
  exact zJ2 h k hV hb l _ (fun y hy=>hl y (List.mem_cons_of_mem _ hy)) (fun hf=>k b _ _ _ t hb ((hV.push (hl x (by simp))).push (hr h0)) hf) hs
theorem zHw {c:Bool}{s:XS}{v:Val}(h:s.fail=0):zf c s v=v:=by simp[zf,h]
theorem zVz {v:Val}(h:qB v≤10000000)(hb:¬zRo v):qB v≤256:=by have h1:=zIh v (by omega);unfold zRo at hb;omega
theorem zCC {v x:Val}(h:qB v≤256)(hx:x∈v.kids):qB x≤256:=by have:=zA7 hx; omega
theorem zO1 {l:List Val}(h:∀v∈l,qB v≤256)(hl:l.length≤32768):qN l≤8388608:=by have:=zFD h;have:l.length*256≤32768*256:=Nat.mul_le_mul_right _ hl;omega
theorem up {t:Typ}{v:Val}(h:TyV p t v∧qB v≤256):TyV p t v∧qB v≤10000000:=⟨h.1,by omega⟩
theorem zVE (hp:zMB p)(fl:Nat)(h:zK5 ev)(k:Snd p ev){e:Exp}{B:List Bnd}{V:List EVar}{s:XS}{t:Typ}(he:WE p B e t)(hV:EnvT p B V)(hs:(qA p fl ev e V s).2.fail=0):TyV p t (qA p fl ev e V s).1∧qB (qA p fl ev e V s).1≤10000000:=by
 cases he with
 | int _ i n r u ns h1 h2=>exact⟨.int n h1 h2,by simp[qA,qB,qN]⟩
 | bool _ i n r u ns h=>exact⟨.bool n h,by simp[qA,qB,qN]⟩
 | var _ i n r u ns _ h =>
  have:=hV.find h;exact⟨this.1,by simp only[qA]; simp; omega⟩
 | call _ i n r u ks ns hn d hd hk hl hw =>
  have e:qA p fl ev (.mk i 3 n r u ks ns) V s=zB6 ev d (jE ev V ks s).1 (jE ev V ks s).2:=by simp[qA,dfn,hd]
  rw[e]at hs ⊢;unfold zB6 at hs ⊢;by_cases hf:(jE ev V ks s).2.fail=0
  ·rw[if_neg (by simp[hf])]at hs ⊢;have ha:=zDt h k hV ks _ s hl hw hf;exact up (k _ _ _ _ _ (hp r d hd (by simp[zCi,hk])) (EnvT.args ha.1 ha.2) hs)
  ·rw[if_pos hf]at hs;exact(hf hs).elim
 | op _ i n r u ks ns hn ts _ ho hl hw =>
  have e:qA p fl ev (.mk i 4 n r u ks ns) V s=(zf true (jE ev V ks s).2 (opV n (jE ev V ks s).1),(jE ev V ks s).2):=by simp[qA]
  rw[e]at hs ⊢;have ha:=zDt h k hV ks _ s hl hw hs;rw[zHw hs];have:=qHM ho ha.1 ha.2;exact⟨this.1,by simp only; omega⟩
 | record _ i n r u ks ns hn d hd hk hl hw =>
  have e:qA p fl ev (.mk i 7 n r u ks ns) V s=(zf (fl==1) (jE ev V ks s).2 (.mk 2 0 (jE ev V ks s).1),(jE ev V ks s).2):=by simp[qA]
  rw[e]at hs ⊢;obtain⟨ha,hz⟩:=zDt h k hV ks _ s hl hw hs;rw[zHw hs];have hlen:=ha.len;rw[List.length_map]at hlen;refine⟨.record _ d _ hd hk hlen fun j hj=>?_,by have:=zO1 hz (by rw[zG9]; exact hn); simp only[qB]; omega⟩;have:=ha.get j hj (by rw[List.length_map]; omega)
  rwa [List.getElem_map]at this
 | case _ i r u a ns d j hd hk hj ha =>
  have e:qA p fl ev (.mk i 9 j r u [a] ns) V s=(zf (fl==1) (ev a V s).2 (.mk 3 j [(ev a V s).1]),(ev a V s).2):=by simp[qA,jE]
  rw[e]at hs ⊢;rw[zHw hs];have:=k a B V s _ ha hV hs;exact⟨.case _ d j _ hd hk hj this.1,by simp only[qB,qN]; omega⟩
 | list _ i n r u ks ns t hn hw =>
  have e:qA p fl ev (.mk i 11 n r u ks ns) V s=(zf (fl==1) (jE ev V ks s).2 (.mk 4 0 (jE ev V ks s).1),(jE ev V ks s).2):=by simp[qA]
  rw[e]at hs ⊢;obtain⟨ha,hz⟩:=zDt h k hV ks (List.replicate ks.length t) s (by simp) (fun j hj=>by rw[List.getElem_replicate]; exact hw j hj) hs;rw[zHw hs];refine⟨.list _ _ fun v hv=>?_,by have:=zO1 hz (by rw[zG9]; exact hn); simp only[qB]; omega⟩;obtain⟨j,hj,rfl⟩:=List.getElem_of_mem hv;have:=ha.get j hj (by rw[←ha.len]; exact hj)
  rwa [List.getElem_replicate]at this
 | ite _ i n r u a b c ns _ ha hb hc =>
  have e:qA p fl ev (.mk i 5 n r u [a,b,c] ns) V s=if (ev a V s).2.fail≠0 then (vz,(ev a V s).2) else ev ([a,b,c].getD (if (ev a V s).1.n=1 then 1 else 2) .zero) V (ev a V s).2:=by simp[qA,jR]
  rw[e]at hs ⊢;by_cases hf:(ev a V s).2.fail=0
  ·rw[if_neg (by simp[hf])]at hs ⊢;by_cases hn:(ev a V s).1.n=1
   ·simp only[if_pos hn]at hs ⊢;exact up (k b B V _ _ hb hV hs)
   ·simp only[if_neg hn]at hs ⊢;exact up (k c B V _ _ hc hV hs)
  ·rw[if_pos hf]at hs;exact(hf hs).elim
 | lets _ i n r u a b ns v _ hfr ha hb =>
  have e:qA p fl ev (.mk i 6 n r u [a,b] ns) V s=if (ev a V s).2.fail≠0 then (vz,(ev a V s).2) else ev b (V++[⟨i,0,(ev a V s).1⟩]) (ev a V s).2:=by simp[qA,jR]
  rw[e]at hs ⊢;by_cases hf:(ev a V s).2.fail=0
  ·rw[if_neg (by simp[hf])]at hs ⊢;exact up (k b _ _ _ _ hb (hV.push (k a B V s _ ha hV hf)) hs)
  ·rw[if_pos hf]at hs;exact(hf hs).elim
 | field _ i r u a ns d j hd hk hj ha =>
  have e:qA p fl ev (.mk i 8 j r u [a] ns) V s=if (ev a V s).2.fail≠0 then (vz,(ev a V s).2) else ((ev a V s).1.kids.getD j vz,(ev a V s).2):=by simp[qA,jR]
  rw[e]at hs ⊢;by_cases hf:(ev a V s).2.fail=0
  ·rw[if_neg (by simp[hf])]at hs ⊢;obtain⟨hty,hz⟩:=k a B V s _ ha hV hf;rcases hty.def_inv hd with ⟨_,vs,hl,h1,h2⟩ | ⟨h1,_⟩
   ·rw[h1]at hz ⊢;have hjl:j<vs.length:=by omega
    simp only[Val.kids,List.getD_eq_getElem?_getD,List.getElem?_eq_getElem hjl,Option.getD_some];exact up ⟨h2 j hjl,zCC hz (List.getElem_mem hjl)⟩
   ·omega
  ·rw[if_pos hf]at hs;exact(hf hs).elim
 | mtch _ i n r u a ks ns d _ hfr hd hk hl ha hw =>
  have e:qA p fl ev (.mk i 10 n r u (a::ks) ns) V s=if (ev a V s).2.fail≠0 then (vz,(ev a V s).2) else ev ((a::ks).getD (1+(ev a V s).1.n).toNat .zero) (V++[⟨i,(ev a V s).1.n,(ev a V s).1.kids.headD vz⟩]) (ev a V s).2:=by simp[qA,jR]
  rw[e]at hs ⊢;by_cases hf:(ev a V s).2.fail=0
  ·rw[if_neg (by simp[hf])]at hs ⊢;obtain⟨hty,hz⟩:=k a B V s _ ha hV hf;rcases hty.def_inv hd with ⟨h1,_⟩ | ⟨_,m,x,hm,h1,h2⟩
   ·omega
   ·have hmk:m<ks.length:=by omega
    have e2:(1+(m:Int)).toNat=m+1:=by omega
    rw[h1]at hs hz ⊢;simp only[Val.n,Val.kids,List.headD_cons,e2,List.getD_cons_succ,List.getD_eq_getElem?_getD,List.getElem?_cons_succ,List.getElem?_eq_getElem hmk,Option.getD_some]at hs ⊢;exact up (k _ _ _ _ _ (hw m hmk) (hV.push ⟨h2,zCC hz (by simp[Val.kids])⟩) hs)
  ·rw[if_pos hf]at hs;exact(hf hs).elim
 | fold _ i n r u l s' b ns v _ hfr hl' hs' hb =>
  have e:qA p fl ev (.mk i 12 n r u [l,s',b] ns) V s=if (ev l V s).2.fail≠0 then (vz,(ev l V s).2) else zAt ev V i b (ev l V s).1.kids (ev s' V (ev l V s).2):=by simp[qA,jR]
  rw[e]at hs ⊢;by_cases hf:(ev l V s).2.fail=0
  ·rw[if_neg (by simp[hf])]at hs ⊢;obtain⟨hty,hz⟩:=k l B V s _ hl' hV hf;obtain⟨vs,h1,h2⟩:=hty.list_inv;rw[h1]at hs hz ⊢;exact up (zJ2 h k hV hb vs _ (fun x hx=>⟨h2 x hx,zCC hz hx⟩) (fun hg=>k s' B V _ _ hs' hV hg) hs)
  ·rw[if_pos hf]at hs;exact(hf hs).elim
theorem zEz (p:Prg)(fl:Nat):∀m,zK5 (zAH p fl m)
 | 0=>fun e V s h=>by rw[zAH,if_pos h]
 | m+1=>fun e V s h=>by rw[zAH,if_pos h]
theorem zHd (hp:zMB p)(fl:Nat):∀m,Snd p (zAH p fl m)
 | 0=>fun e B V s t he hV hs=>by
  rw[zAH]at hs;split at hs
  ·rename_i h; exact(h hs).elim
  ·simp[zGI]at hs
 | m+1=>fun e B V s t he hV hs=>by
  rw[zAH]at hs ⊢;split at hs
  ·rename_i h; exact(h hs).elim
  ·split at hs
   ·simp[zGI]at hs
   ·rename_i h1 h2;rw[if_neg h1,if_neg h2];simp only[zR6]at hs ⊢;have hk:zDH (qA p fl (zAH p fl m) e V (zCE e s))=(qA p fl (zAH p fl m) e V (zCE e s)).2∧(qA p fl (zAH p fl m) e V (zCE e s)).2.fail=0∧¬zRo (qA p fl (zAH p fl m) e V (zCE e s)).1:=by
     unfold zDH at hs ⊢;split at hs
     ·simp[zFY]at hs
     ·rename_i h3;rw[if_neg h3];exact⟨rfl,hs,fun hb=>h3 ⟨hs,hb⟩⟩
    rw[zHw hs];have:=zVE hp fl (zEz p fl m) (zHd hp fl m) he hV hk.2.1;exact⟨this.1,zVz this.2 hk.2.2⟩
end
mutual
def Exp.nice:Exp→Prop
 | .mk _ k _ _ _ ks ns=>(k=5→ks.length=3)∧ns.length≤10∧zAu ks
def zAu:List Exp→Prop
 | []=>True
 | e::l=>e.nice∧zAu l
end
theorem zDa:∀l:List Exp,zAu l↔∀e∈l,e.nice
 | []=>by simp[zAu]
 | e::l=>by simp[zAu,zDa l]
theorem qH4 (e:Exp):e.nice↔(e.k=5→e.kids.length=3)∧e.names.length≤10∧∀k∈e.kids,k.nice:=by cases e; simp only[Exp.nice,zDa,Exp.k_mk,Exp.kids_mk,Exp.names_mk]
theorem zSo:Exp.zero.nice:=by simp[Exp.zero,Exp.nice,zAu]
mutual
theorem zXk:∀(e:Exp),e.nice→zRm e
 | .mk i k n r t ks ns,h=>by
  intro z hz hk;simp only[Exp.nice]at h;simp only[zBH]at hz;rcases List.mem_cons.1 hz with rfl | hz
  ·exact h.1 hk
  ·exact zNN ks h.2.2 z hz hk
theorem zNN:∀(l:List Exp),zAu l→∀z∈zCn l,z.k=5→z.kids.length=3
 | [],_,z,hz,_=>by simp[zCn]at hz
 | e::l,h,z,hz,hk=>by
  simp only[zCn,List.mem_append]at hz;rcases hz with hz | hz
  ·exact zXk e h.1 z hz hk
  ·exact zNN l h.2 z hz hk
end
mutual
theorem zNO:∀(e:Exp),e.nice→(tmps e).length≤1000000→e.few
 | .mk i k n r t ks ns,h,hs=>by have hk:=zPQ hs;simp only[Exp.nice]at h;simp only[Exp.few];exact⟨by omega,hk.1,zL3 ks h.2.2 hk.2⟩
theorem zL3:∀(l:List Exp),zAu l→(∀k∈l,(tmps k).length≤1000000)→zRI l
 | [],_,_=>trivial
 | e::l,h,hs=>⟨zNO e h.1 (hs e (by simp)),zL3 l h.2 fun k hk=>hs k (by simp[hk])⟩
end
mutual
theorem zOn (f:Int→Id):∀(e:Exp),e.nice→(zBz f e).nice∧(tmps (zBz f e)).length=(tmps e).length
 | .mk i k n r t ks ns,h=>by simp only[Exp.nice]at h;have:=zLB f ks h.2.2;simp only[zBz,Exp.nice,tmps,List.length_append,List.length_singleton,this.2.1,this.2.2];exact⟨⟨h.1,h.2.1,this.1⟩,trivial⟩
theorem zLB (f:Int→Id):∀(l:List Exp),zAu l→zAu (zEE f l)∧(jA (zEE f l)).length=(jA l).length∧(zEE f l).length=l.length
 | [],_=>⟨trivial,rfl,rfl⟩
 | e::l,h=>by have h1:=zOn f e h.1;have h2:=zLB f l h.2;simp only[zEE,zAu,jA,List.length_append,List.length_cons,h1.2,h2.2.1,h2.2.2,and_true];exact⟨h1.1,h2.1⟩
end
theorem zO5 {e:Exp}(h:e.nice)(x:Int):(zM7 e x).nice∧(tmps (zM7 e x)).length=(tmps e).length:=by
 have hN:∀n,(twN e n).nice∧(tmps (twN e n)).length=(tmps e).length:=fun n=>by cases e;simp only[Exp.nice]at h;simp only[twN,Exp.nice,Exp.id_mk,Exp.k_mk,Exp.ref_mk,Exp.typ_mk,Exp.kids_mk,Exp.names_mk,tmps];exact⟨h,trivial⟩
 unfold zM7;split
 ·exact hN _
 ·split
  ·exact hN _
  ·split
   ·split
    ·exact hN _
    ·split
     ·exact hN _
     ·exact⟨h,rfl⟩
   ·split
    ·split
     ·rename_i a b c hk;cases e with
      | mk i k n r t ks ns =>
       simp only[Exp.kids_mk]at hk;subst hk;simp only[Exp.nice,zAu]at h;simp only[twK,Exp.nice,zAu,Exp.id_mk,Exp.k_mk,Exp.n_mk,Exp.ref_mk,Exp.typ_mk,Exp.names_mk,tmps,jA,List.length_append,List.length_singleton,List.length_nil];obtain⟨h1,h2,h3,h4,h5,_⟩:=h;exact⟨⟨fun _=>rfl,h2,h3,h5,h4,trivial⟩,by omega⟩
     ·exact⟨h,rfl⟩
    ·exact⟨h,rfl⟩
mutual
theorem zKs (x:Int):∀(e:Exp) (a:Int),e.nice→(zFm e a x).1.nice∧(tmps (zFm e a x).1).length=(tmps e).length
 | .mk i k n r t ks ns,a,h=>by
  simp only[zFm];split
  ·exact zO5 h x
  ·simp only[Exp.nice]at h;have:=zFn x ks (a-1) h.2.2;simp only[Exp.nice,tmps,List.length_append,List.length_singleton,this.2,zKr];exact⟨⟨h.1,h.2.1,this.1⟩,trivial⟩
theorem zFn (x:Int):∀(l:List Exp) (a:Int),zAu l→zAu (zCz l a x).1∧(jA (zCz l a x).1).length=(jA l).length
 | [],_,_=>⟨trivial,rfl⟩
 | e::l,a,h=>by
  simp only[zCz];split
  ·have h1:=zKs x e a h.1;have h2:=zFn x l (zFm e a x).2 h.2;simp only[zAu,jA,List.length_append,h1.2,h2.2,and_true];exact⟨h1.1,h2.1⟩
  ·have h2:=zFn x l a h.2;simp only[zAu,jA,List.length_append,h2.2,and_true];exact⟨h.1,h2.1⟩
end
theorem zXN {hs:List Hd}{own:Int}{env:List Bnd}{e:Exp}{t:Typ}(h:WT hs own env e t):e.nice:=by
 induction h with
 | int env i n h1 h2=>simp[Exp.nice,zAu]
 | bool env i n h=>simp[Exp.nice,zAu]
 | var env i n x t h=>simp[Exp.nice,zAu]
 | call env i k h ks ho hk hlen hw ih =>
  simp only[Exp.nice,zDa];refine⟨fun h=>by omega,by simp,fun e hm=>?_⟩;obtain⟨j,hj,rfl⟩:=List.getElem_of_mem hm;exact ih j hj
 | arith env i n a b h1 h2 ha hb iha ihb=>simp[Exp.nice,zAu,iha,ihb]
 | less env i a b ha hb iha ihb=>simp[Exp.nice,zAu,iha,ihb]
 | same env i a b u ha hb iha ihb=>simp[Exp.nice,zAu,iha,ihb]
 | andor env i n a b h ha hb iha ihb=>simp[Exp.nice,zAu,iha,ihb]
 | not env i a ha iha=>simp[Exp.nice,zAu,iha]
 | join env i a b t ha hb iha ihb=>simp[Exp.nice,zAu,iha,ihb]
 | len env i a t ha iha=>simp[Exp.nice,zAu,iha]
 | ite env i a b c t ha hb hc iha ihb ihc=>simp[Exp.nice,zAu,iha,ihb,ihc]
 | lets env i a b u t ns hn ha hb iha ihb=>simp[Exp.nice,zAu,iha,ihb,hn]
 | record env i k h ks hk hlen hw ih =>
  simp only[Exp.nice,zDa];refine⟨fun h=>by omega,by simp,fun e hm=>?_⟩;obtain⟨j,hj,rfl⟩:=List.getElem_of_mem hm;exact ih j hj
 | field env i k h j hj a hk ha iha=>simp[Exp.nice,zAu,iha]
 | case env i k h j hj a hk ha iha=>simp[Exp.nice,zAu,iha]
 | mtch env i k h a ks t ns hn hk hlen ha hw iha ih =>
  simp only[Exp.nice,zDa];refine⟨fun h=>by omega,hn,fun e hm=>?_⟩;rcases List.mem_cons.1 hm with rfl | hm
  ·exact iha
  ·obtain⟨j,hj,rfl⟩:=List.getElem_of_mem hm;exact ih j hj
 | list env i t ks hw ih =>
  simp only[Exp.nice,zDa];refine⟨fun h=>by omega,by simp,fun e hm=>?_⟩;obtain⟨j,hj,rfl⟩:=List.getElem_of_mem hm;exact ih j hj
 | fold env i l s b u t ns hn hl' hs' hb' ihl ihs ihb=>simp[Exp.nice,zAu,ihl,ihs,ihb,hn]
structure FineP (p:Prg):Prop where
 defs:p.defs.length≤9
 mods:p.mods.length≤100
 slots:∀d∈p.defs,1≤d.slots.length∧d.slots.length≤6
 nice:∀d∈p.defs,d.body.nice
 size:∀d∈p.defs,(tmps d.body).length≤32768
theorem FineP.small {p:Prg}(h:FineP p):(zDD p.defs).length≤100000∧(zDI p.defs).length≤300000∧(zCu p.defs).length≤300000:=by
 have h9:=h.defs;have hn:=zSt p.defs 32768 h.size;have h3:(zCu p.defs).length≤300000:=by omega
 have key:∀{α : Type} (idf : α→Id) (L acc:List α),(L.foldl (zCj idf) acc).length≤acc.length+L.length:=by
  intro α idf L;induction L with
  | nil=>intro acc; simp
  | cons x L ih =>
   intro acc;rw[List.foldl_cons];have:=ih (zCj idf acc x);have h2:(zCj idf acc x).length≤acc.length+1:=by
    unfold zCj;split
    ·omega
    ·simp
   simp only[List.length_cons];omega
 refine⟨?_,?_,h3⟩
 ·have:=key Dfn.id p.defs [];simp only[List.length_nil,Nat.zero_add]at this;unfold zDD;omega
 ·rw[zSq];have:=key Exp.id (zCu p.defs) [];simp only[List.length_nil,Nat.zero_add]at this;omega
structure Bn (c:Nat)(m:Int)(s:XS):Prop where
 ns:s.ns.length+s.fuel.toNat≤c
 ds:s.ds.length+s.fuel.toNat≤c
 fu:s.fuel≤m
structure Bd (c:Nat)(m:Int)(s:XS):Prop where
 ns:s.ns.length+s.fuel.toNat≤c
 ds:s.ds.length+s.fuel.toNat≤c
 fu:s.fuel≤m
 ok:s.fail=0→s.ds.length+s.fuel.toNat+1≤c
theorem Bd.bn {c:Nat}{m:Int}{s:XS}(h:Bd c m s):Bn c m s:=⟨h.ns,h.ds,h.fu⟩
theorem Bd.mono {c:Nat}{m m':Int}{s:XS}(h:Bd c m s)(hm:m≤m'):Bd c m' s:=⟨h.ns,h.ds,by have:=h.fu; omega,h.ok⟩
theorem Bn.bad {c:Nat}{m:Int}{s:XS}(h:Bn c m s)(hf:s.fail≠0):Bd c m s:=⟨h.ns,h.ds,h.fu,fun e=>(hf e).elim⟩
theorem Bn.fail {c:Nat}{m:Int}{s:XS}(h:Bn c m s){x:Int}(hx:x≠0):Bd c m {s with fail:=x}:=⟨h.ns,h.ds,h.fu,fun e=>(hx e).elim⟩
theorem Bn.tick {c:Nat}{m:Int}{s:XS}(h:Bn c m s)(e:Exp)(hf:¬s.fuel≤0):Bd c (m-1) (zCE e s):=by obtain⟨h1,h2,h3⟩:=h;unfold zCE;exact⟨by simp only[List.length_append,List.length_singleton]; omega,by dsimp only; omega,by dsimp only; omega,fun _=>by dsimp only; omega⟩
theorem Bd.def {c:Nat}{m:Int}{s:XS}(h:Bd c m s)(d:Id)(hf:s.fail=0):Bn c m {s with ds:=s.ds++[d]}:=by have:=h.ok hf;exact⟨h.ns,by simp only[List.length_append,List.length_singleton]; omega,h.fu⟩
section
variable {p:Prg}{ev:Evl}{c:Nat}{m:Int}
theorem zIM (h:∀e V s,Bn c m s→Bd c m (ev e V s).2)(V:List EVar):∀(l:List Exp) (s:XS),Bd c m s→Bd c m (jE ev V l s).2
 | [],s,hs=>hs
 | e::l,s,hs=>by simp only[jE]; exact zIM h V l _ (h e V s hs.bn)
theorem zJ0 (h:∀e V s,Bn c m s→Bd c m (ev e V s).2)(V:List EVar)(i:Id)(b:Exp):∀(l:List Val) (r:Val×XS),Bd c m r.2→Bd c m (zAt ev V i b l r).2
 | [],r,hs=>hs
 | e::l,r,hs=>by simp only[zAt]; exact zJ0 h V i b l _ (h _ _ _ hs.bn)
theorem zMN (h:∀e V s,Bn c m s→Bd c m (ev e V s).2)(d:Dfn)(vs:List Val)(s:XS)(hs:Bd c m s):Bd c m (zB6 ev d vs s).2:=by
 unfold zB6;split
 ·exact hs
 ·rename_i hf;exact h _ _ _ (hs.def d.id (by omega))
theorem zOK (h:∀e V s,Bn c m s→Bd c m (ev e V s).2)(e:Exp)(V:List EVar)(s:XS)(hs:Bd c m s):Bd c m (jR ev e V s).2:=by
 unfold jR;have h0:=h (e.kids.headD .zero) V s hs.bn;generalize ev (e.kids.headD .zero) V s=r at *
 repeat' split
 all_goals first
  | exact h0
  | exact h _ _ _ h0.bn
  | exact zJ0 h _ _ _ _ _ (h _ _ _ h0.bn)
theorem zSB (h:∀e V s,Bn c m s→Bd c m (ev e V s).2)(fl:Nat)(e:Exp)(V:List EVar)(s:XS)(hs:Bd c m s):Bd c m (qA p fl ev e V s).2:=by
 unfold qA;have h0:=zIM h V e.kids s hs;generalize jE ev V e.kids s=r at *
 repeat' split
 all_goals first
  | exact hs
  | exact h0
  | exact zOK h _ _ _ hs
  | exact zMN h _ _ _ h0
theorem zXc {r:Val×XS}(h:Bd c m r.2):Bd c m (zDH r):=by
 unfold zDH;split
 ·exact h.bn.fail (by decide)
 ·exact h
theorem zJN (fl:Nat):∀(n:Nat) e V s,Bn c m s→Bd c m (zAH p fl n e V s).2
 | 0,e,V,s,hs=>by
  rw[zAH];split
  ·rename_i h; exact hs.bad h
  ·exact hs.fail (by decide)
 | n+1,e,V,s,hs=>by
  rw[zAH];split
  ·rename_i h; exact hs.bad h
  ·split
   ·exact hs.fail (by decide)
   ·rename_i h;exact zXc (zSB (zJN fl n) fl e V _ ((hs.tick e h).mono (by omega)))
end
def Eqv (r r':Val×XS):Prop:=r.2=r'.2∧(r.2.fail=0→r.1=r'.1)
theorem Eqv.rfl' (r:Val×XS):Eqv r r:=⟨rfl,fun _=>rfl⟩
section
variable {p:Prg}{f g:Evl}
end
end Go.Proofs.YthglhccibdlccaaGreatDoor

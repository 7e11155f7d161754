/-
  Types of values and of programs' expressions; a run keeps them.
  What tweaks and new names keep.
  What a run asks is bounded by its fuel; the three evaluators have the same states, and the same values where nothing fails.
  The program's operations: numbers, truth values, lists.
  Tweaked programs, walked.
  The reference's operations.
-/
import Derived.Test.YthglhccibdlccaaGreatDoorX14
import Derived.Test.YthglhccibdlccaaGreatDoorX18
import Derived.Test.YthglhccibdlccaaGreatDoorX15
import Derived.Test.YthglhccibdlccaaGreatDoorX17
import Derived.Test.YthglhccibdlccaaGreatDoorX10
import Derived.Test.YthglhccibdlccaaGreatDoorX8
set_option linter.unusedVariables false
set_option maxHeartbeats 8000000
set_option maxRecDepth 100000
set_option linter.unusedSimpArgs false
open Go.Proofs.Tryz (prog)
namespace Go.Proofs.YthglhccibdlccaaGreatDoor
open Go.Abs
inductive TyV (p:Prg):Typ→Val→Prop
 | int (n:Int) (h1 : -1099511627776≤n) (h2:n≤1099511627776):TyV p jT (.mk 0 n [])
 | bool (n:Int) (h:n=0∨n=1):TyV p yC (.mk 1 n [])
 | list (t:Typ) (vs:List Val) (h:∀v∈vs,TyV p t v):TyV p (jV t) (.mk 4 0 vs)
 | record (id:Id) (d:Dfn) (vs:List Val) (hd:jO p.defs id=some d) (hk:d.kind=0) (hl:vs.length=d.slots.length) (h:∀(j:Nat) (hj:j<vs.length),TyV p (d.slots[j]'(hl▸hj)).typ vs[j]):TyV p (zBA id) (.mk 2 0 vs)
 | case (id:Id) (d:Dfn) (n:Nat) (v:Val) (hd:jO p.defs id=some d) (hk:d.kind=1) (hn:n<d.slots.length) (h:TyV p d.slots[n].typ v):TyV p (zBA id) (.mk 3 n [v])
theorem TyV.int_inv {p:Prg}{v:Val}(h:TyV p jT v):∃n:Int,v=.mk 0 n []∧-1099511627776≤n∧n≤1099511627776:=by
 generalize ht:jT=t at h;cases h with
 | int n h1 h2=>exact⟨n,rfl,h1,h2⟩
 | _=>simp at ht
theorem TyV.bool_inv {p:Prg}{v:Val}(h:TyV p yC v):∃n:Int,v=.mk 1 n []∧(n=0∨n=1):=by
 generalize ht:yC=t at h;cases h with
 | bool n h=>exact⟨n,rfl,h⟩
 | _=>simp at ht
theorem TyV.list_inv {p:Prg}{u:Typ}{v:Val}(h:TyV p (jV u) v):∃vs:List Val,v=.mk 4 0 vs∧∀x∈vs,TyV p u x:=by
 generalize ht:jV u=t at h;cases h with
 | list t vs h =>
  simp only[Typ.mk.injEq,jB6,and_true,true_and]at ht;subst ht;exact⟨vs,rfl,h⟩
 | _=>simp at ht
theorem TyV.def_inv {p:Prg}{r:Id}{d:Dfn}{v:Val}(hd:jO p.defs r=some d)(h:TyV p (zBA r) v) :
 (d.kind=0∧∃(vs:List Val) (hl:vs.length=d.slots.length),v=.mk 2 0 vs∧∀(j:Nat) (hj:j<vs.length),TyV p (d.slots[j]'(hl▸hj)).typ vs[j]) ∨
 (d.kind=1∧∃(n:Nat) (x:Val) (hn:n<d.slots.length),v=.mk 3 n [x]∧TyV p d.slots[n].typ x):=by
 generalize ht:zBA r=t at h;cases h with
 | record id d' vs hd' hk hl h =>
  simp only[Typ.mk.injEq,and_true,true_and]at ht;subst ht;rw[hd]at hd';cases hd';exact .inl ⟨hk,vs,hl,rfl,h⟩
 | case id d' n x hd' hk hn h =>
  simp only[Typ.mk.injEq,and_true,true_and]at ht;subst ht;rw[hd]at hd';cases hd';exact .inr ⟨hk,n,x,hn,rfl,h⟩
 | _=>simp at ht
inductive TyL (p:Prg):List Typ→List Val→Prop
 | nil:TyL p [] []
 | cons (t:Typ) (ts:List Typ) (v:Val) (vs:List Val) (h:TyV p t v) (hs:TyL p ts vs):TyL p (t::ts) (v::vs)
theorem TyL.len {p:Prg}{ts:List Typ}{vs:List Val}(h:TyL p ts vs):vs.length=ts.length:=by
 induction h with
 | nil=>rfl
 | cons _ _ _ _ _ _ ih=>simp[ih]
theorem TyL.get {p:Prg}{ts:List Typ}{vs:List Val}(h:TyL p ts vs):∀(j:Nat) (hj:j<vs.length) (hj':j<ts.length),TyV p ts[j] vs[j]:=by
 induction h with
 | nil=>intro j hj; simp at hj
 | cons t ts v vs h hs ih =>
  intro j hj hj';cases j with
  | zero=>exact h
  | succ j=>exact ih j (by simpa using hj) (by simpa using hj')
theorem TyL.of {p:Prg}:∀{ts:List Typ} {vs:List Val} (hl:vs.length=ts.length) (_:∀(j:Nat) (hj:j<vs.length),TyV p (ts[j]'(hl▸hj)) vs[j]),TyL p ts vs
 | [],[],_,_=>.nil
 | t::ts,v::vs,hl,h=>.cons t ts v vs (h 0 (by simp)) (TyL.of (by simpa using hl) fun j hj=>h (j+1) (by simpa using hj))
 | [],v::vs,hl,_=>by simp at hl
 | t::ts,[],hl,_=>by simp at hl
inductive OpT:Int→List Typ→Typ→Prop
 | arith (n:Int) (h1:0≤n) (h2:n≤4):OpT n [jT,jT] jT
 | less:OpT 5 [jT,jT] yC
 | same (u:Typ):OpT 6 [u,u] yC
 | andor (n:Int) (h:n=7∨n=8):OpT n [yC,yC] yC
 | not:OpT 9 [yC] yC
 | join (t:Typ):OpT 10 [jV t,jV t] (jV t)
 | len (t:Typ):OpT 11 [jV t] jT
theorem TyL.one {p:Prg}{t:Typ}{vs:List Val}(h:TyL p [t] vs):∃a,vs=[a]∧TyV p t a:=by
 cases h with
 | cons _ _ v vs h hs=>cases hs; exact⟨v,rfl,h⟩
theorem TyL.two {p:Prg}{t u:Typ}{vs:List Val}(h:TyL p [t,u] vs):∃a b,vs=[a,b]∧TyV p t a∧TyV p u b:=by
 cases h with
 | cons _ _ v vs h hs =>
  obtain⟨b,rfl,hb⟩:=hs.one;exact⟨v,b,rfl,h,hb⟩
theorem zI2 {p:Prg}(b:Bool):TyV p yC (zBV b):=.bool _ (by cases b<;>simp)
theorem zFN (n:Int) : -1099511627776≤zBQ n∧zBQ n≤1099511627776:=by
 unfold zBQ;split
 ·omega
 ·split<;>omega
theorem zSY {a b:Int}(h1 : -1099511627776≤a)(h2:a≤1099511627776) : -1099511627776≤a.tdiv b∧a.tdiv b≤1099511627776:=by have h:=Int.natAbs_tdiv_le_natAbs a b;omega
theorem zU5 {a b:Int}(h1 : -1099511627776≤a)(h2:a≤1099511627776)(hm:a.tmod b≠0)(hb:b≠0) : -1099511627775≤a.tdiv b:=by
 have hn:a.natAbs / b.natAbs=(a.tdiv b).natAbs:=by rw[Int.natAbs_tdiv]; rfl
 have hb2:2≤b.natAbs:=by
  rcases jB2 b.natAbs 2 with h | h
  ·exfalso;have:b=1∨b = -1:=by omega
   rcases this with rfl | rfl
   ·simp at hm
   ·exact hm (by rw[Int.tmod_neg,Int.tmod_one])
  ·exact h
 have:a.natAbs / b.natAbs≤a.natAbs / 2:=Nat.div_le_div_left hb2 (by omega);omega
theorem zQX {a:Int}(b:Int)(h1 : -1099511627776≤a)(h2:a≤1099511627776) : -1099511627776≤zIL a b∧zIL a b≤1099511627776:=by
 unfold zIL;have h:=zSY (b:=b) h1 h2;split
 ·omega
 ·rename_i hb;split
  ·rename_i hc;have:=zU5 h1 h2 hc.1 hb;omega
  ·omega
theorem zZX (a b:Int):zOv a b=if b=0 then 0 else if a.tmod b≠0∧¬(a<0↔b<0) then a.tmod b+b else a.tmod b:=by
 unfold zOv zIL;by_cases hb:b=0
 ·simp[hb]
 ·rw[if_neg hb,if_neg hb,if_neg hb];have:=Int.mul_tdiv_add_tmod a b;split
  ·rw[Int.mul_sub]; omega
  ·omega
theorem zLG {a b:Int}(h1 : -1099511627776≤b)(h2:b≤1099511627776) : -1099511627776≤zOv a b∧zOv a b≤1099511627776:=by
 rw[zZX];by_cases hb:b=0
 ·simp[hb]
 ·rw[if_neg hb];have h3:(a.tmod b).natAbs<b.natAbs:=by rw[Int.natAbs_tmod]; exact Nat.mod_lt _ (by omega)
  have h4:0≤a→0≤a.tmod b:=jDo b;have h5:a<0→a.tmod b≤0:=fun h=>by have:=jDo (a:=-a) b (by omega);rw[Int.neg_tmod]at this;omega
  split<;>omega
theorem zR4 {n a b:Int}(a1 : -1099511627776≤a)(a2:a≤1099511627776)(b1 : -1099511627776≤b)(b2:b≤1099511627776) : -1099511627776≤zM9 n a b∧zM9 n a b≤1099511627776:=by
 unfold zM9;split
 ·exact zFN _
 ·split
  ·exact zFN _
  ·split
   ·exact zFN _
   ·split
    ·exact zQX b a1 a2
    ·exact zLG b1 b2
theorem zDS:∀(l:List Val),l.length≤qY l
 | []=>by simp[qY]
 | .mk _ _ l'::l=>by have:=zDS l; simp only[jAd,qY,qI]; omega
theorem zWW {v:Val}(h:qI v≤256):v.kids.length≤255:=by
 cases v with
 | mk k n l =>
  have:=zDS l;simp only[qI]at h;simp only[Val.kids];omega
theorem qKA {p:Prg}{n:Int}{ts:List Typ}{t:Typ}(h:OpT n ts t){vs:List Val}(hv:TyL p ts vs)(hs:∀v∈vs,qI v≤256):TyV p t (opV n vs)∧qI (opV n vs)≤1000:=by
 cases h with
 | arith n h1 h2 =>
  obtain⟨a,b,rfl,ha,hb⟩:=hv.two;obtain⟨x,rfl,x1,x2⟩:=ha.int_inv;obtain⟨y,rfl,y1,y2⟩:=hb.int_inv;simp only[opV,if_pos h2];have:=zR4 (n:=n) x1 x2 y1 y2;exact⟨.int _ this.1 this.2,by simp[qI,qY]⟩
 | less =>
  obtain⟨a,b,rfl,ha,hb⟩:=hv.two;exact⟨zI2 _,by simp[opV,zBV,qI,qY]⟩
 | same u =>
  obtain⟨a,b,rfl,ha,hb⟩:=hv.two;exact⟨zI2 _,by simp[opV,zBV,qI,qY]⟩
 | andor n h =>
  obtain⟨a,b,rfl,ha,hb⟩:=hv.two;rcases h with rfl | rfl<;>exact⟨zI2 _,by simp[opV,zBV,qI,qY]⟩
 | not =>
  obtain⟨a,rfl,ha⟩:=hv.one;exact⟨zI2 _,by simp[opV,zBV,qI,qY]⟩
 | join t =>
  obtain⟨a,b,rfl,ha,hb⟩:=hv.two;obtain⟨x,rfl,hx⟩:=ha.list_inv;obtain⟨y,rfl,hy⟩:=hb.list_inv;refine⟨.list _ _ fun v hv=>?_,?_⟩
  ·rcases jA8.1 hv with h | h
   ·exact hx v h
   ·exact hy v h
  ·have h1:=hs (.mk 4 0 x) (by simp);have h2:=hs (.mk 4 0 y) (by simp);simp only[qI]at h1 h2;simp[opV,Val.kids,qI,zCk];omega
 | len t =>
  obtain⟨a,rfl,ha⟩:=hv.one;have:=zWW (hs a (by simp));exact⟨.int _ (by omega) (by omega),by simp[opV,qI,qY]⟩
inductive WE (p:Prg):List Bnd→Exp→Typ→Prop
 | int (env i n r u ns) (h1 : -1099511627776≤n) (h2:n≤1099511627776):WE p env (.mk i 0 n r u [] ns) jT
 | bool (env i n r u ns) (h:n=0∨n=1):WE p env (.mk i 1 n r u [] ns) yC
 | var (env i n r u ns t) (h:zCv env r n=some t):WE p env (.mk i 2 n r u [] ns) t
 | call (env i n r u ks ns) (hn:ks.length≤32768) (d:Dfn) (hd:jO p.defs r=some d) (hk:d.kind=2) (hl:ks.length=(d.slots.map Slt.typ).length) (hw:∀(j:Nat) (hj:j<ks.length),WE p env ks[j] ((d.slots.map Slt.typ)[j]'(hl▸hj))) :
  WE p env (.mk i 3 n r u ks ns) d.res
 | op (env i n r u ks ns) (hn:ks.length≤32768) (ts:List Typ) (t:Typ) (ho:OpT n ts t) (hl:ks.length=ts.length) (hw:∀(j:Nat) (hj:j<ks.length),WE p env ks[j] (ts[j]'(hl▸hj))):WE p env (.mk i 4 n r u ks ns) t
 | ite (env i n r u a b c ns t) (ha:WE p env a yC) (hb:WE p env b t) (hc:WE p env c t):WE p env (.mk i 5 n r u [a,b,c] ns) t
 | lets (env i n r u a b ns v t) (hf:∀x∈env,x.id≠i) (ha:WE p env a v) (hb:WE p (env++[⟨i,0,v⟩]) b t):WE p env (.mk i 6 n r u [a,b] ns) t
 | record (env i n r u ks ns) (hn:ks.length≤32768) (d:Dfn) (hd:jO p.defs r=some d) (hk:d.kind=0) (hl:ks.length=(d.slots.map Slt.typ).length) (hw:∀(j:Nat) (hj:j<ks.length),WE p env ks[j] ((d.slots.map Slt.typ)[j]'(hl▸hj))) :
  WE p env (.mk i 7 n r u ks ns) (zBA r)
 | field (env i r u a ns) (d:Dfn) (j:Nat) (hd:jO p.defs r=some d) (hk:d.kind=0) (hj:j<d.slots.length) (ha:WE p env a (zBA r)):WE p env (.mk i 8 j r u [a] ns) d.slots[j].typ
 | case (env i r u a ns) (d:Dfn) (j:Nat) (hd:jO p.defs r=some d) (hk:d.kind=1) (hj:j<d.slots.length) (ha:WE p env a d.slots[j].typ):WE p env (.mk i 9 j r u [a] ns) (zBA r)
 | mtch (env i n r u a ks ns) (d:Dfn) (t:Typ) (hf:∀x∈env,x.id≠i) (hd:jO p.defs r=some d) (hk:d.kind=1) (hl:ks.length=d.slots.length) (ha:WE p env a (zBA r))
  (hw:∀(j:Nat) (hj:j<ks.length),WE p (env++[⟨i,j,(d.slots[j]'(hl▸hj)).typ⟩]) ks[j] t):WE p env (.mk i 10 n r u (a::ks) ns) t
 | list (env i n r u ks ns t) (hn:ks.length≤32768) (hw:∀(j:Nat) (hj:j<ks.length),WE p env ks[j] t):WE p env (.mk i 11 n r u ks ns) (jV t)
 | fold (env i n r u l s b ns v t) (hf:∀x∈env,x.id≠i) (hl:WE p env l (jV v)) (hs:WE p env s t) (hb:WE p (env++[⟨i,0,v⟩]++[⟨i,1,t⟩]) b t):WE p env (.mk i 12 n r u [l,s,b] ns) t
theorem zFl (B:List Bnd)(b:Bnd)(x:Id)(n:Int):zCv (B++[b]) x n=if b.id=x∧b.n=n then some b.typ else zCv B x n:=by
 unfold zCv;rw[List.reverse_append,List.reverse_singleton,jCu,jBz];by_cases h1:b.id=x
 ·by_cases h2:b.n=n<;>simp[h1,h2]
 ·simp[h1]
inductive EnvT (p:Prg):List Bnd→List EVar→Prop
 | nil:EnvT p [] []
 | snoc (B:List Bnd) (V:List EVar) (b:Bnd) (v:EVar) (h:EnvT p B V) (hi:v.id=b.id) (hn:v.n=b.n) (ht:TyV p b.typ v.v) (hz:qI v.v≤256):EnvT p (B++[b]) (V++[v])
theorem EnvT.find {p:Prg}{B:List Bnd}{V:List EVar}(h:EnvT p B V){x:Id}{n:Int}{t:Typ}:zCv B x n=some t→TyV p t (zE5 V x n)∧qI (zE5 V x n)≤256:=by
 induction h with
 | nil=>intro h; simp[zCv]at h
 | snoc B V b v h hi hn ht hz ih =>
  rw[zFl,zLa,hi,hn];split
  ·intro e; cases e; exact⟨ht,hz⟩
  ·exact ih
theorem EnvT.push {p:Prg}{B:List Bnd}{V:List EVar}(h:EnvT p B V){i:Id}{n:Int}{t:Typ}{v:Val}(ht:TyV p t v∧qI v≤256):EnvT p (B++[⟨i,n,t⟩]) (V++[⟨i,n,v⟩]):=.snoc _ _ _ _ h rfl rfl ht.1 ht.2
theorem EnvT.len {p:Prg}{B:List Bnd}{V:List EVar}(h:EnvT p B V):V.length=B.length:=by
 induction h with
 | nil=>rfl
 | snoc _ _ _ _ _ _ _ _ _ ih=>simp[ih]
theorem EnvT.ids {p:Prg}{B:List Bnd}{V:List EVar}(h:EnvT p B V){i:Id}:(∀b∈B,b.id≠i)→∀v∈V,v.id≠i:=by
 induction h with
 | nil=>simp
 | snoc B V b v h hi hn ht hz ih =>
  intro hb x hx;rcases jA8.1 hx with hx | hx
  ·exact ih (fun y hy=>hb y (jBn _ hy)) x hx
  ·rw[jAg.1 hx,hi];exact hb b (by simp)
theorem EnvT.args {p:Prg}:∀{ss:List Slt} {vs:List Val},TyL p (ss.map Slt.typ) vs→(∀v∈vs,qI v≤256)→EnvT p (ss.map fun s=>⟨s.id,0,s.typ⟩) (zCa ss vs):=by
 intro ss;induction ss using zBK with
 | nil =>
  intro vs h _;cases h;exact .nil
 | snoc ss s ih =>
  intro vs h hz;have hl:=h.len;simp only[jAa,jA5,jAl]at hl;obtain⟨ws,w,rfl⟩:∃ws w,vs=ws++[w]:=⟨vs.dropLast,vs.getLast (fun e=>by rw[e]at hl; simp at hl),(List.dropLast_concat_getLast _).symm⟩;simp only[jA5,jAl]at hl;have h1:TyL p (ss.map Slt.typ) ws:=TyL.of (by simp; omega) fun j hj=>by have:=h.get j (by simp; omega) (by simp; omega);rw[jCm hj]at this;rw[jAr]at this ⊢;rw[jCm (by omega)]at this;exact this
  have h2:TyV p s.typ w:=by
   have:=h.get ss.length (by simp; omega) (by simp);rw[jCc (by omega)]at this
   simpa [show ss.length-ws.length=0 by omega] using this
  have e:zCa (ss++[s]) (ws++[w])=zCa ss ws++[⟨s.id,0,w⟩]:=by unfold zCa;rw[List.zipWith_append (by omega)];rfl
  rw[e,jB1];exact(ih h1 fun v hv=>hz v (jBn _ hv)).push ⟨h2,hz w (by simp)⟩
def zQ8 (p:Prg):Prop:=∀(r:Id) (d:Dfn),jO p.defs r=some d→zB3 d=true→WE p (zBk d) d.body d.res
section
variable {p:Prg}{ev:Evl}
def zHG (ev:Evl):Prop:=∀e V s,s.fail≠0→ev e V s=(vz,s)
def Snd (p:Prg)(ev:Evl):Prop:=∀e B V s t,WE p B e t→EnvT p B V→(ev e V s).2.fail=0→TyV p t (ev e V s).1∧qI (ev e V s).1≤256
theorem zG0 (h:zHG ev)(V:List EVar):∀(l:List Exp) (s:XS),s.fail≠0→(qP ev V l s).2=s
 | [],s,_=>rfl
 | e::l,s,hs=>by simp only[qP,h e V s hs]; exact zG0 h V l s hs
theorem zYi (h:zHG ev){V:List EVar}{e:Exp}{l:List Exp}{s:XS}(hs:(qP ev V (e::l) s).2.fail=0):(ev e V s).2.fail=0:=by
 by_cases hf:(ev e V s).2.fail=0
 ·exact hf
 ·simp only[qP]at hs;rw[zG0 h V l _ hf]at hs;exact hs
theorem zDL (h:zHG ev)(V:List EVar)(i:Id)(b:Exp):∀(l:List Val) (r:Val×XS),r.2.fail≠0→(jY ev V i b l r).2=r.2
 | [],r,_=>rfl
 | x::l,r,hs=>by simp only[jY,h _ _ _ hs];exact zDL h V i b l _ hs
theorem zD0 (h:zHG ev)(k:Snd p ev){B:List Bnd}{V:List EVar}(hV:EnvT p B V):∀(l:List Exp) (ts:List Typ) (s:XS) (hl:l.length=ts.length),(∀(j:Nat) (hj:j<l.length),WE p B l[j] (ts[j]'(hl▸hj))) →
 (qP ev V l s).2.fail=0→TyL p ts (qP ev V l s).1∧∀v∈(qP ev V l s).1,qI v≤256
 | [],[],s,_,_,_=>⟨.nil,by simp[qP]⟩
 | [],t::ts,s,hl,_,_=>by simp at hl
 | e::l,[],s,hl,_,_=>by simp at hl
 | e::l,t::ts,s,hl,hw,hs=>by
  have h1:=k e B V s t (hw 0 (by simp)) hV (zYi h hs);have h2:=zD0 h k hV l ts (ev e V s).2 (by simpa using hl) (fun j hj=>hw (j+1) (by simpa using hj)) (by simpa only[qP] using hs);simp only[qP];refine⟨.cons _ _ _ _ h1.1 h2.1,fun v hv=>?_⟩;rcases jA3.1 hv with rfl | hv
  ·exact h1.2
  ·exact h2.2 v hv
theorem zId (h:zHG ev)(k:Snd p ev){B:List Bnd}{V:List EVar}(hV:EnvT p B V){i:Id}{b:Exp}{u t:Typ}(hb:WE p (B++[⟨i,0,u⟩]++[⟨i,1,t⟩]) b t):∀(l:List Val) (r:Val×XS),(∀x∈l,TyV p u x∧qI x≤256) →
 (r.2.fail=0→TyV p t r.1∧qI r.1≤256)→(jY ev V i b l r).2.fail=0→TyV p t (jY ev V i b l r).1∧qI (jY ev V i b l r).1≤256
 | [],r,_,hr,hs=>hr hs
 | x::l,r,hl,hr,hs=>by
  simp only[jY]at hs ⊢;have h0:r.2.fail=0:=by
   by_cases hf:r.2.fail=0
   ·exact hf
   ·have e:=zDL h V i b l (vz,r.2) hf;rw[h _ _ _ hf,e]at hs;exact hs
  exact zId h k hV hb l _ (fun y hy=>hl y (jAm _ hy)) (fun hf=>k b _ _ _ t hb ((hV.push (hl x (by simp))).push (hr h0)) hf) hs
theorem zEN {c:Bool}{s:XS}{v:Val}(h:s.fail=0):zf c s v=v:=by simp[zf,h]
theorem zXE {v:Val}(h:qI v≤10000000)(hb:¬zQF v):qI v≤256:=by have h1:=zJv v (by omega);unfold zQF at hb;omega
theorem zCA {v x:Val}(h:qI v≤256)(hx:x∈v.kids):qI x≤256:=by have:=zAC hx; omega
theorem zQr {l:List Val}(h:∀v∈l,qI v≤256)(hl:l.length≤32768):qY l≤8388608:=by have:=zGN h;have:l.length*256≤32768*256:=jBl _ hl;omega
theorem up {t:Typ}{v:Val}(h:TyV p t v∧qI v≤256):TyV p t v∧qI v≤10000000:=⟨h.1,by omega⟩
theorem zXV (hp:zQ8 p)(fl:Nat)(h:zHG ev)(k:Snd p ev){e:Exp}{B:List Bnd}{V:List EVar}{s:XS}{t:Typ}(he:WE p B e t)(hV:EnvT p B V)(hs:(qH p fl ev e V s).2.fail=0):TyV p t (qH p fl ev e V s).1∧qI (qH p fl ev e V s).1≤10000000:=by
 cases he with
 | int _ i n r u ns h1 h2=>exact⟨.int n h1 h2,by simp[qH,qI,qY]⟩
 | bool _ i n r u ns h=>exact⟨.bool n h,by simp[qH,qI,qY]⟩
 | var _ i n r u ns _ h =>
  have:=hV.find h;exact⟨this.1,by simp only[qH]; simp; omega⟩
 | call _ i n r u ks ns hn d hd hk hl hw =>
  have e:qH p fl ev (.mk i 3 n r u ks ns) V s=zAX ev d (qP ev V ks s).1 (qP ev V ks s).2:=by simp[qH,dfn,hd]
  rw[e]at hs ⊢;unfold zAX at hs ⊢;by_cases hf:(qP ev V ks s).2.fail=0
  ·rw[if_neg (by simp[hf])]at hs ⊢;have ha:=zD0 h k hV ks _ s hl hw hf;exact up (k _ _ _ _ _ (hp r d hd (by simp[zB3,hk])) (EnvT.args ha.1 ha.2) hs)
  ·rw[if_pos hf]at hs;exact(hf hs).elim
 | op _ i n r u ks ns hn ts _ ho hl hw =>
  have e:qH p fl ev (.mk i 4 n r u ks ns) V s=(zf true (qP ev V ks s).2 (opV n (qP ev V ks s).1),(qP ev V ks s).2):=by simp[qH]
  rw[e]at hs ⊢;have ha:=zD0 h k hV ks _ s hl hw hs;rw[zEN hs];have:=qKA ho ha.1 ha.2;exact⟨this.1,by simp only; omega⟩
 | record _ i n r u ks ns hn d hd hk hl hw =>
  have e:qH p fl ev (.mk i 7 n r u ks ns) V s=(zf (fl==1) (qP ev V ks s).2 (.mk 2 0 (qP ev V ks s).1),(qP ev V ks s).2):=by simp[qH]
  rw[e]at hs ⊢;obtain⟨ha,hz⟩:=zD0 h k hV ks _ s hl hw hs;rw[zEN hs];have hlen:=ha.len;rw[jAa]at hlen;refine⟨.record _ d _ hd hk hlen fun j hj=>?_,by have:=zQr hz (by rw[zCh]; exact hn); simp only[qI]; omega⟩;have:=ha.get j hj (by rw[jAa]; omega)
  rwa [jAr]at this
 | case _ i r u a ns d j hd hk hj ha =>
  have e:qH p fl ev (.mk i 9 j r u [a] ns) V s=(zf (fl==1) (ev a V s).2 (.mk 3 j [(ev a V s).1]),(ev a V s).2):=by simp[qH,qP]
  rw[e]at hs ⊢;rw[zEN hs];have:=k a B V s _ ha hV hs;exact⟨.case _ d j _ hd hk hj this.1,by simp only[qI,qY]; omega⟩
 | list _ i n r u ks ns t hn hw =>
  have e:qH p fl ev (.mk i 11 n r u ks ns) V s=(zf (fl==1) (qP ev V ks s).2 (.mk 4 0 (qP ev V ks s).1),(qP ev V ks s).2):=by simp[qH]
  rw[e]at hs ⊢;obtain⟨ha,hz⟩:=zD0 h k hV ks (List.replicate ks.length t) s (by simp) (fun j hj=>by rw[List.getElem_replicate]; exact hw j hj) hs;rw[zEN hs];refine⟨.list _ _ fun v hv=>?_,by have:=zQr hz (by rw[zCh]; exact hn); simp only[qI]; omega⟩;obtain⟨j,hj,rfl⟩:=jAh hv;have:=ha.get j hj (by rw[←ha.len]; exact hj)
  rwa [List.getElem_replicate]at this
 | ite _ i n r u a b c ns _ ha hb hc =>
  have e:qH p fl ev (.mk i 5 n r u [a,b,c] ns) V s=if (ev a V s).2.fail≠0 then (vz,(ev a V s).2) else ev ([a,b,c].getD (if (ev a V s).1.n=1 then 1 else 2) .zero) V (ev a V s).2:=by simp[qH,jI]
  rw[e]at hs ⊢;by_cases hf:(ev a V s).2.fail=0
  ·rw[if_neg (by simp[hf])]at hs ⊢;by_cases hn:(ev a V s).1.n=1
   ·simp only[if_pos hn]at hs ⊢;exact up (k b B V _ _ hb hV hs)
   ·simp only[if_neg hn]at hs ⊢;exact up (k c B V _ _ hc hV hs)
  ·rw[if_pos hf]at hs;exact(hf hs).elim
 | lets _ i n r u a b ns v _ hfr ha hb =>
  have e:qH p fl ev (.mk i 6 n r u [a,b] ns) V s=if (ev a V s).2.fail≠0 then (vz,(ev a V s).2) else ev b (V++[⟨i,0,(ev a V s).1⟩]) (ev a V s).2:=by simp[qH,jI]
  rw[e]at hs ⊢;by_cases hf:(ev a V s).2.fail=0
  ·rw[if_neg (by simp[hf])]at hs ⊢;exact up (k b _ _ _ _ hb (hV.push (k a B V s _ ha hV hf)) hs)
  ·rw[if_pos hf]at hs;exact(hf hs).elim
 | field _ i r u a ns d j hd hk hj ha =>
  have e:qH p fl ev (.mk i 8 j r u [a] ns) V s=if (ev a V s).2.fail≠0 then (vz,(ev a V s).2) else ((ev a V s).1.kids.getD j vz,(ev a V s).2):=by simp[qH,jI]
  rw[e]at hs ⊢;by_cases hf:(ev a V s).2.fail=0
  ·rw[if_neg (by simp[hf])]at hs ⊢;obtain⟨hty,hz⟩:=k a B V s _ ha hV hf;rcases hty.def_inv hd with ⟨_,vs,hl,h1,h2⟩ | ⟨h1,_⟩
   ·rw[h1]at hz ⊢;have hjl:j<vs.length:=by omega
    simp only[Val.kids,jC5,jA2 hjl,jCq];exact up ⟨h2 j hjl,zCA hz (jA0 hjl)⟩
   ·omega
  ·rw[if_pos hf]at hs;exact(hf hs).elim
 | mtch _ i n r u a ks ns d _ hfr hd hk hl ha hw =>
  have e:qH p fl ev (.mk i 10 n r u (a::ks) ns) V s=if (ev a V s).2.fail≠0 then (vz,(ev a V s).2) else ev ((a::ks).getD (1+(ev a V s).1.n).toNat .zero) (V++[⟨i,(ev a V s).1.n,(ev a V s).1.kids.headD vz⟩]) (ev a V s).2:=by simp[qH,jI]
  rw[e]at hs ⊢;by_cases hf:(ev a V s).2.fail=0
  ·rw[if_neg (by simp[hf])]at hs ⊢;obtain⟨hty,hz⟩:=k a B V s _ ha hV hf;rcases hty.def_inv hd with ⟨h1,_⟩ | ⟨_,m,x,hm,h1,h2⟩
   ·omega
   ·have hmk:m<ks.length:=by omega
    have e2:(1+(m:Int)).toNat=m+1:=by omega
    rw[h1]at hs hz ⊢;simp only[Val.n,Val.kids,jD9,e2,List.getD_cons_succ,jC5,jB5,jA2 hmk,jCq]at hs ⊢;exact up (k _ _ _ _ _ (hw m hmk) (hV.push ⟨h2,zCA hz (by simp[Val.kids])⟩) hs)
  ·rw[if_pos hf]at hs;exact(hf hs).elim
 | fold _ i n r u l s' b ns v _ hfr hl' hs' hb =>
  have e:qH p fl ev (.mk i 12 n r u [l,s',b] ns) V s=if (ev l V s).2.fail≠0 then (vz,(ev l V s).2) else jY ev V i b (ev l V s).1.kids (ev s' V (ev l V s).2):=by simp[qH,jI]
  rw[e]at hs ⊢;by_cases hf:(ev l V s).2.fail=0
  ·rw[if_neg (by simp[hf])]at hs ⊢;obtain⟨hty,hz⟩:=k l B V s _ hl' hV hf;obtain⟨vs,h1,h2⟩:=hty.list_inv;rw[h1]at hs hz ⊢;exact up (zId h k hV hb vs _ (fun x hx=>⟨h2 x hx,zCA hz hx⟩) (fun hg=>k s' B V _ _ hs' hV hg) hs)
  ·rw[if_pos hf]at hs;exact(hf hs).elim
theorem zDN (p:Prg)(fl:Nat):∀m,zHG (zAA p fl m)
 | 0=>fun e V s h=>by rw[zAA,if_pos h]
 | m+1=>fun e V s h=>by rw[zAA,if_pos h]
theorem zGh (hp:zQ8 p)(fl:Nat):∀m,Snd p (zAA p fl m)
 | 0=>fun e B V s t he hV hs=>by
  rw[zAA]at hs;split at hs
  ·rename_i h; exact(h hs).elim
  ·simp[zKR]at hs
 | m+1=>fun e B V s t he hV hs=>by
  rw[zAA]at hs ⊢;split at hs
  ·rename_i h; exact(h hs).elim
  ·split at hs
   ·simp[zKR]at hs
   ·rename_i h1 h2;rw[if_neg h1,if_neg h2];simp only[zOY]at hs ⊢;have hk:zCP (qH p fl (zAA p fl m) e V (zCe e s))=(qH p fl (zAA p fl m) e V (zCe e s)).2∧(qH p fl (zAA p fl m) e V (zCe e s)).2.fail=0∧¬zQF (qH p fl (zAA p fl m) e V (zCe e s)).1:=by
     unfold zCP at hs ⊢;split at hs
     ·simp[zFR]at hs
     ·rename_i h3;rw[if_neg h3];exact⟨rfl,hs,fun hb=>h3 ⟨hs,hb⟩⟩
    rw[zEN hs];have:=zXV hp fl (zDN p fl m) (zGh hp fl m) he hV hk.2.1;exact⟨this.1,zXE this.2 hk.2.2⟩
end
mutual
def Exp.nice:Exp→Prop
 | .mk _ k _ _ _ ks ns=>(k=5→ks.length=3)∧ns.length≤10∧zAM ks
def zAM:List Exp→Prop
 | []=>True
 | e::l=>e.nice∧zAM l
end
theorem zDC:∀l:List Exp,zAM l↔∀e∈l,e.nice
 | []=>by simp[zAM]
 | e::l=>by simp[zAM,zDC l]
theorem qKs (e:Exp):e.nice↔(e.k=5→e.kids.length=3)∧e.names.length≤10∧∀k∈e.kids,k.nice:=by cases e; simp only[Exp.nice,zDC,Exp.k_mk,Exp.kids_mk,Exp.names_mk]
theorem zUn:Exp.zero.nice:=by simp[Exp.zero,Exp.nice,zAM]
mutual
theorem zSK:∀(e:Exp),e.nice→zNI e
 | .mk i k n r t ks ns,h=>by
  intro z hz hk;simp only[Exp.nice]at h;simp only[zAm]at hz;rcases jA3.1 hz with rfl | hz
  ·exact h.1 hk
  ·exact zPE ks h.2.2 z hz hk
theorem zPE:∀(l:List Exp),zAM l→∀z∈zAe l,z.k=5→z.kids.length=3
 | [],_,z,hz,_=>by simp[zAe]at hz
 | e::l,h,z,hz,hk=>by
  simp only[zAe,jA8]at hz;rcases hz with hz | hz
  ·exact zSK e h.1 z hz hk
  ·exact zPE l h.2 z hz hk
end
mutual
theorem zQe (f:Int→Id):∀(e:Exp),e.nice→(zBU f e).nice∧(tmps (zBU f e)).length=(tmps e).length
 | .mk i k n r t ks ns,h=>by simp only[Exp.nice]at h;have:=zN2 f ks h.2.2;simp only[zBU,Exp.nice,tmps,jA5,jAl,this.2.1,this.2.2];exact⟨⟨h.1,h.2.1,this.1⟩,trivial⟩
theorem zN2 (f:Int→Id):∀(l:List Exp),zAM l→zAM (zF7 f l)∧(jL (zF7 f l)).length=(jL l).length∧(zF7 f l).length=l.length
 | [],_=>⟨trivial,rfl,rfl⟩
 | e::l,h=>by have h1:=zQe f e h.1;have h2:=zN2 f l h.2;simp only[zF7,zAM,jL,jA5,jAd,h1.2,h2.2.1,h2.2.2,and_true];exact⟨h1.1,h2.1⟩
end
theorem zQy {e:Exp}(h:e.nice)(x:Int):(yU e x).nice∧(tmps (yU e x)).length=(tmps e).length:=by
 have hN:∀n,(twN e n).nice∧(tmps (twN e n)).length=(tmps e).length:=fun n=>by cases e;simp only[Exp.nice]at h;simp only[twN,Exp.nice,Exp.id_mk,Exp.k_mk,Exp.ref_mk,Exp.typ_mk,Exp.kids_mk,Exp.names_mk,tmps];exact⟨h,trivial⟩
 unfold yU;split
 ·exact hN _
 ·split
  ·exact hN _
  ·split
   ·split
    ·exact hN _
    ·split
     ·exact hN _
     ·exact⟨h,rfl⟩
   ·split
    ·split
     ·rename_i a b c hk;cases e with
      | mk i k n r t ks ns =>
       simp only[Exp.kids_mk]at hk;subst hk;simp only[Exp.nice,zAM]at h;simp only[twK,Exp.nice,zAM,Exp.id_mk,Exp.k_mk,Exp.n_mk,Exp.ref_mk,Exp.typ_mk,Exp.names_mk,tmps,jL,jA5,jAl,jBm];obtain⟨h1,h2,h3,h4,h5,_⟩:=h;exact⟨⟨fun _=>rfl,h2,h3,h5,h4,trivial⟩,by omega⟩
     ·exact⟨h,rfl⟩
    ·exact⟨h,rfl⟩
mutual
theorem zMd (x:Int):∀(e:Exp) (a:Int),e.nice→(zAc e a x).1.nice∧(tmps (zAc e a x).1).length=(tmps e).length
 | .mk i k n r t ks ns,a,h=>by
  simp only[zAc];split
  ·exact zQy h x
  ·simp only[Exp.nice]at h;have:=zGt x ks (a-1) h.2.2;simp only[Exp.nice,tmps,jA5,jAl,this.2,zF2];exact⟨⟨h.1,h.2.1,this.1⟩,trivial⟩
theorem zGt (x:Int):∀(l:List Exp) (a:Int),zAM l→zAM (qV l a x).1∧(jL (qV l a x).1).length=(jL l).length
 | [],_,_=>⟨trivial,rfl⟩
 | e::l,a,h=>by
  simp only[qV];split
  ·have h1:=zMd x e a h.1;have h2:=zGt x l (zAc e a x).2 h.2;simp only[zAM,jL,jA5,h1.2,h2.2,and_true];exact⟨h1.1,h2.1⟩
  ·have h2:=zGt x l a h.2;simp only[zAM,jL,jA5,h2.2,and_true];exact⟨h.1,h2.1⟩
end
theorem qAp {hs:List Hd}{own:Int}{env:List Bnd}{e:Exp}{t:Typ}(h:WT hs own env e t):e.nice:=by
 induction h with
 | int env i n h1 h2=>simp[Exp.nice,zAM]
 | bool env i n h=>simp[Exp.nice,zAM]
 | var env i n x t h=>simp[Exp.nice,zAM]
 | call env i k h ks ho hk hlen hw ih =>
  simp only[Exp.nice,zDC];refine⟨fun h=>by omega,by simp,fun e hm=>?_⟩;obtain⟨j,hj,rfl⟩:=jAh hm;exact ih j hj
 | arith env i n a b h1 h2 ha hb iha ihb=>simp[Exp.nice,zAM,iha,ihb]
 | less env i a b ha hb iha ihb=>simp[Exp.nice,zAM,iha,ihb]
 | same env i a b u ha hb iha ihb=>simp[Exp.nice,zAM,iha,ihb]
 | andor env i n a b h ha hb iha ihb=>simp[Exp.nice,zAM,iha,ihb]
 | not env i a ha iha=>simp[Exp.nice,zAM,iha]
 | join env i a b t ha hb iha ihb=>simp[Exp.nice,zAM,iha,ihb]
 | len env i a t ha iha=>simp[Exp.nice,zAM,iha]
 | ite env i a b c t ha hb hc iha ihb ihc=>simp[Exp.nice,zAM,iha,ihb,ihc]
 | lets env i a b u t ns hn ha hb iha ihb=>simp[Exp.nice,zAM,iha,ihb,hn]
 | record env i k h ks hk hlen hw ih =>
  simp only[Exp.nice,zDC];refine⟨fun h=>by omega,by simp,fun e hm=>?_⟩;obtain⟨j,hj,rfl⟩:=jAh hm;exact ih j hj
 | field env i k h j hj a hk ha iha=>simp[Exp.nice,zAM,iha]
 | case env i k h j hj a hk ha iha=>simp[Exp.nice,zAM,iha]
 | mtch env i k h a ks t ns hn hk hlen ha hw iha ih =>
  simp only[Exp.nice,zDC];refine⟨fun h=>by omega,hn,fun e hm=>?_⟩;rcases jA3.1 hm with rfl | hm
  ·exact iha
  ·obtain⟨j,hj,rfl⟩:=jAh hm;exact ih j hj
 | list env i t ks hw ih =>
  simp only[Exp.nice,zDC];refine⟨fun h=>by omega,by simp,fun e hm=>?_⟩;obtain⟨j,hj,rfl⟩:=jAh hm;exact ih j hj
 | fold env i l s b u t ns hn hl' hs' hb' ihl ihs ihb=>simp[Exp.nice,zAM,ihl,ihs,ihb,hn]
structure FineP (p:Prg):Prop where
 defs:p.defs.length≤9
 mods:p.mods.length≤100
 slots:∀d∈p.defs,1≤d.slots.length∧d.slots.length≤6
 nice:∀d∈p.defs,d.body.nice
 size:∀d∈p.defs,(tmps d.body).length≤32768
theorem FineP.small {p:Prg}(h:FineP p):(zEx p.defs).length≤100000∧(zE1 p.defs).length≤300000∧(zAi p.defs).length≤300000:=by
 have h9:=h.defs;have hn:=zUq p.defs 32768 h.size;have h3:(zAi p.defs).length≤300000:=by omega
 have key:∀{α : Type} (idf : α→Id) (L acc:List α),(L.foldl (zBy idf) acc).length≤acc.length+L.length:=by
  intro α idf L;induction L with
  | nil=>intro acc; simp
  | cons x L ih =>
   intro acc;rw[jBh];have:=ih (zBy idf acc x);have h2:(zBy idf acc x).length≤acc.length+1:=by
    unfold zBy;split
    ·omega
    ·simp
   simp only[jAd];omega
 refine⟨?_,?_,h3⟩
 ·have:=key Dfn.id p.defs [];simp only[jBm,jB0]at this;unfold zEx;omega
 ·rw[zJc];have:=key Exp.id (zAi p.defs) [];simp only[jBm,jB0]at this;omega
structure Bn (c:Nat)(m:Int)(s:XS):Prop where
 ns:s.ns.length+s.fuel.toNat≤c
 ds:s.ds.length+s.fuel.toNat≤c
 fu:s.fuel≤m
structure Bd (c:Nat)(m:Int)(s:XS):Prop where
 ns:s.ns.length+s.fuel.toNat≤c
 ds:s.ds.length+s.fuel.toNat≤c
 fu:s.fuel≤m
 ok:s.fail=0→s.ds.length+s.fuel.toNat+1≤c
theorem Bd.bn {c:Nat}{m:Int}{s:XS}(h:Bd c m s):Bn c m s:=⟨h.ns,h.ds,h.fu⟩
theorem Bd.mono {c:Nat}{m m':Int}{s:XS}(h:Bd c m s)(hm:m≤m'):Bd c m' s:=⟨h.ns,h.ds,by have:=h.fu; omega,h.ok⟩
theorem Bn.bad {c:Nat}{m:Int}{s:XS}(h:Bn c m s)(hf:s.fail≠0):Bd c m s:=⟨h.ns,h.ds,h.fu,fun e=>(hf e).elim⟩
theorem Bn.fail {c:Nat}{m:Int}{s:XS}(h:Bn c m s){x:Int}(hx:x≠0):Bd c m {s with fail:=x}:=⟨h.ns,h.ds,h.fu,fun e=>(hx e).elim⟩
theorem Bn.tick {c:Nat}{m:Int}{s:XS}(h:Bn c m s)(e:Exp)(hf:¬s.fuel≤0):Bd c (m-1) (zCe e s):=by obtain⟨h1,h2,h3⟩:=h;unfold zCe;exact⟨by simp only[List.length_append,List.length_singleton]; omega,by dsimp only; omega,by dsimp only; omega,fun _=>by dsimp only; omega⟩
theorem Bd.def {c:Nat}{m:Int}{s:XS}(h:Bd c m s)(d:Id)(hf:s.fail=0):Bn c m {s with ds:=s.ds++[d]}:=by have:=h.ok hf;exact⟨h.ns,by simp only[jA5,jAl]; omega,h.fu⟩
section
variable {p:Prg}{ev:Evl}{c:Nat}{m:Int}
theorem zKl (h:∀e V s,Bn c m s→Bd c m (ev e V s).2)(V:List EVar):∀(l:List Exp) (s:XS),Bd c m s→Bd c m (qP ev V l s).2
 | [],s,hs=>hs
 | e::l,s,hs=>by simp only[qP]; exact zKl h V l _ (h e V s hs.bn)
theorem zLe (h:∀e V s,Bn c m s→Bd c m (ev e V s).2)(V:List EVar)(i:Id)(b:Exp):∀(l:List Val) (r:Val×XS),Bd c m r.2→Bd c m (jY ev V i b l r).2
 | [],r,hs=>hs
 | e::l,r,hs=>by simp only[jY]; exact zLe h V i b l _ (h _ _ _ hs.bn)
theorem zKD (h:∀e V s,Bn c m s→Bd c m (ev e V s).2)(d:Dfn)(vs:List Val)(s:XS)(hs:Bd c m s):Bd c m (zAX ev d vs s).2:=by
 unfold zAX;split
 ·exact hs
 ·rename_i hf;exact h _ _ _ (hs.def d.id (by omega))
theorem zQG (h:∀e V s,Bn c m s→Bd c m (ev e V s).2)(e:Exp)(V:List EVar)(s:XS)(hs:Bd c m s):Bd c m (jI ev e V s).2:=by
 unfold jI;have h0:=h (e.kids.headD .zero) V s hs.bn;generalize ev (e.kids.headD .zero) V s=r at *
 repeat' split
 all_goals first
  | exact h0
  | exact h _ _ _ h0.bn
  | exact zLe h _ _ _ _ _ (h _ _ _ h0.bn)
theorem zUB (h:∀e V s,Bn c m s→Bd c m (ev e V s).2)(fl:Nat)(e:Exp)(V:List EVar)(s:XS)(hs:Bd c m s):Bd c m (qH p fl ev e V s).2:=by
 unfold qH;have h0:=zKl h V e.kids s hs;generalize qP ev V e.kids s=r at *
 repeat' split
 all_goals first
  | exact hs
  | exact h0
  | exact zQG h _ _ _ hs
  | exact zKD h _ _ _ h0
theorem zZ0 {r:Val×XS}(h:Bd c m r.2):Bd c m (zCP r):=by
 unfold zCP;split
 ·exact h.bn.fail (by decide)
 ·exact h
theorem zIm (fl:Nat):∀(n:Nat) e V s,Bn c m s→Bd c m (zAA p fl n e V s).2
 | 0,e,V,s,hs=>by
  rw[zAA];split
  ·rename_i h; exact hs.bad h
  ·exact hs.fail (by decide)
 | n+1,e,V,s,hs=>by
  rw[zAA];split
  ·rename_i h; exact hs.bad h
  ·split
   ·exact hs.fail (by decide)
   ·rename_i h;exact zZ0 (zUB (zIm fl n) fl e V _ ((hs.tick e h).mono (by omega)))
end
def Eqv (r r':Val×XS):Prop:=r.2=r'.2∧(r.2.fail=0→r.1=r'.1)
theorem Eqv.rfl' (r:Val×XS):Eqv r r:=⟨rfl,fun _=>rfl⟩
theorem Eqv.eq {r r':Val×XS}(h:Eqv r r')(hf:r.2.fail=0):r'=r:=Prod.ext (h.2 hf).symm h.1.symm
section
variable {p:Prg}{f g:Evl}
end
def qHb:K:=G [kMi 2 0] (G [M 3 0,⟨none,.mm (some 4) true [(kt 3),(kc (-1099511627776))]⟩,⟨none,.mm (some 5) false [(kt 4),(kc 1099511627776)]⟩,M 2 5] kr)
theorem qNX:zL prog Tryz.f200.ntmps (Tryz.f200.body.getD .skip)=some qHb.erase:=by kernel_rfl
@[simp] theorem qOY:zA prog 200=true:=by kernel_rfl
theorem zOW (n:Int):Ret prog 200 [int n] [] (int (zBQ n)) []:=by
 refine zK Tryz.func200 rfl qNX (rs:=[.slot 2]) (by kernel_rfl) ?_;unfold qHb;by_cases h1:n < -1099511627776
 ·simp[h1];exact zC 0 (by simp[zBQ,h1,show ¬1099511627776<n by omega])
 ·by_cases h2:1099511627776<n
  ·simp[h1,h2];exact zC 0 (by simp[zBQ,h2])
  ·simp[h1,h2];exact zC 0 (by simp[zBQ,h1,h2])
def qHl:K:=G [kZ 2 [ki,ki,kl]] (Z (G [M 3 0] (Y 3 (G [kb 4 [ki,ki,kl] [(0,1,(kc 1)),(1,1,(kc 1))],S 2 4 3] kr) ks)) (G [kb 5 [ki,ki,kl] [(0,1,(kc 1))],S 2 5 3] kr))
theorem qOh:zL prog Tryz.f162.ntmps (Tryz.f162.body.getD .skip)=some qHl.erase:=by kernel_rfl
@[simp] theorem qPj:zA prog 162=true:=by kernel_rfl
theorem zAT (b:Bool):Ret prog 162 [bl b] [] (.agg (zJ (zBV b))) []:=by
 refine zK Tryz.func162 rfl qOh (rs:=[.cell 2 3 true]) (by kernel_rfl) ?_;unfold qHl;cases b with
 | true =>
  simp;exact zC 0 (by simp[zJ,zBV,Val.k,Val.n,Val.kids])
 | false =>
  simp;exact zC 0 (by simp[zJ,zBV,Val.k,Val.n,Val.kids])
def Rng (a:Int):Prop:=-1099511627776≤a∧a≤1099511627776
def qHg:K:=G [kMi 4 0] (G [M 5 0,M 6 1,kB 7 5 6 .add,kC 8 200 [(kt 7)],M 4 8] kr)
theorem qOc:zL prog Tryz.f199.ntmps (Tryz.f199.body.getD .skip)=some qHg.erase:=by kernel_rfl
@[simp] theorem qPe:zA prog 199=true:=by kernel_rfl
def qHh:K:=G [kMi 4 0] (G [M 5 0,M 6 1,kB 7 5 6 .sub,kC 8 200 [(kt 7)],M 4 8] kr)
theorem qOd:zL prog Tryz.f201.ntmps (Tryz.f201.body.getD .skip)=some qHh.erase:=by kernel_rfl
@[simp] theorem qPf:zA prog 201=true:=by kernel_rfl
def qHk:K:=G [kMi 4 0] (Z (G [M 5 0,kQi 6 5 0 false,M 7 6,T 7 false (M 8 1),T 7 false (kQi 9 8 0 false),kPt 10 7 9] (Y 10 (G [kMi 4 0] kr) ks)) (Z (G [M 11 0,M 12 0,⟨none,.neg (some 13) (kt 12)⟩,⟨none,.mm (some 14) true [(kt 11),(kt 13)]⟩,M 15 1,M 16 1,⟨none,.neg (some 17) (kt 16)⟩,⟨none,.mm (some 18) true [(kt 15),(kt 17)]⟩,⟨none,.bin (some 19) .quo (kc 1099511627776) (kt 18)⟩,kB 20 14 19 .gtr] (Y 20 (Z (G [M 21 0,kBi 22 21 0 .lss,M 23 1,kBi 24 23 0 .lss,⟨none,.eqv (some 25) false .b (kt 22) (kt 24)⟩] (Y 25 (G [kMi 4 1099511627776] kr) ks)) (G [⟨none,.mov (some 4) (kc (-1099511627776))⟩] kr)) ks)) (G [M 26 0,M 27 1,kB 28 26 27 .mul,M 4 28] kr)))
theorem qOg:zL prog Tryz.f202.ntmps (Tryz.f202.body.getD .skip)=some qHk.erase:=by kernel_rfl
@[simp] theorem qPi:zA prog 202=true:=by kernel_rfl
def qHe:K:=G [kMi 4 0] (Z (G [M 6 1,kQi 7 6 0 false] (Y 7 (G [kMi 4 0] kr) ks)) (G [M 8 0,M 9 1,kB 10 8 9 .quo,M 5 10] (Z (G [M 11 0,M 12 1,kB 13 11 12 .rem,kQi 14 13 0 true,M 15 14,T 15 true (M 16 0),T 15 true (kBi 17 16 0 .lss),T 15 true (M 18 1),T 15 true (kBi 19 18 0 .lss),⟨some (15,true),.eqv (some 20) true .b (kt 17) (kt 19)⟩,kPf 21 15 20] (Y 21 (K.ops [M 22 5,kBi 23 22 1 .sub,M 5 23]) ks)) (G [M 24 5,M 4 24] kr))))
theorem qOa:zL prog Tryz.f203.ntmps (Tryz.f203.body.getD .skip)=some qHe.erase:=by kernel_rfl
@[simp] theorem qPb:zA prog 203=true:=by kernel_rfl
def qHj:K:=G [kMi 4 0] (Z (G [M 5 1,kQi 6 5 0 false] (Y 6 (G [kMi 4 0] kr) ks)) (G [M 7 0,M 8 1,M 9 0,M 10 1,kC 11 203 [(kt 9),(kt 10)],kB 12 8 11 .mul,kB 13 7 12 .sub,M 4 13] kr))
theorem qOf:zL prog Tryz.f204.ntmps (Tryz.f204.body.getD .skip)=some qHj.erase:=by kernel_rfl
@[simp] theorem qPh:zA prog 204=true:=by kernel_rfl
theorem zYK {a b:Int}(ha:Rng a)(hb:Rng b):Ret prog 199 [int a,int b] [] (int (zBQ (a+b))) []:=by obtain⟨a1,a2⟩:=ha;obtain⟨b1,b2⟩:=hb;refine zK Tryz.func199 rfl qOc (rs:=[.slot 4]) (by kernel_rfl) ?_;unfold qHg;have hw:=qF (a+b) (by omega);simp[hw];refine zT (zOW (a+b)) (by simp) (by simp) ?_;simp;exact zC 0 (by simp)
theorem zZf {a b:Int}(ha:Rng a)(hb:Rng b):Ret prog 201 [int a,int b] [] (int (zBQ (a-b))) []:=by obtain⟨a1,a2⟩:=ha;obtain⟨b1,b2⟩:=hb;refine zK Tryz.func201 rfl qOd (rs:=[.slot 4]) (by kernel_rfl) ?_;unfold qHh;have hw:=qF (a-b) (by omega);simp[hw];refine zT (zOW (a-b)) (by simp) (by simp) ?_;simp;exact zC 0 (by simp)
theorem zT2 {m n q:Nat}(hq:1099511627776 / n=q)(hn:0<n):(q<m→1099511627776<m*n)∧(¬q<m→m*n≤1099511627776):=by
 constructor
 ·intro h;rw[←hq]at h;exact(Nat.div_lt_iff_lt_mul hn).1 h
 ·intro h;rw[←hq]at h;have:=mt (Nat.div_lt_iff_lt_mul hn).2 h;omega
theorem zSW (a:Int)(h:a≠0):∃m:Nat,0<m∧(a=m∨a = -(m:Int)):=⟨a.natAbs,by omega,by omega⟩
theorem zTD {a b:Int}(ha:Rng a)(hb:Rng b):Ret prog 202 [int a,int b] [] (int (zBQ (a*b))) []:=by
 obtain⟨a1,a2⟩:=ha;obtain⟨b1,b2⟩:=hb;refine zK Tryz.func202 rfl qOg (rs:=[.slot 4]) (by kernel_rfl) ?_;unfold qHk;by_cases h0:a=0
 ·subst h0;simp;exact zC 0 (by simp[zBQ])
 by_cases h1:b=0
 ·subst h1;simp[h0];exact zC 0 (by simp[zBQ])
 obtain⟨m,m0,hm⟩:=zSW a h0;obtain⟨n,n0,hn⟩:=zSW b h1;obtain⟨q,hq⟩:∃q:Nat,1099511627776 / n=q:=⟨_,rfl⟩;obtain⟨c1,c2⟩:=zT2 (m:=m) hq n0;have hqd:Int.tdiv 1099511627776 (n:Int)=(q:Int):=by rw[tdN (by omega),←hq]; rfl
 have hqle:q≤1099511627776:=by rw[←hq]; exact Nat.div_le_self _ _
 have wq:=qF (q:Int) (by omega);have wm:=qF (m:Int) (by omega);have wn:=qF (n:Int) (by omega);have wm':IntKind.i64.wrap (-(m:Int)) = -m:=IntWalk.i64_in _ (by omega);have wn':IntKind.i64.wrap (-(n:Int)) = -n:=IntWalk.i64_in _ (by omega);have x1:¬((m:Int) < -m):=by omega
 have x2:(-(m:Int))<m:=by omega
 have y1:¬((n:Int) < -n):=by omega
 have y2:(-(n:Int))<n:=by omega
 have z1:¬((m:Int)<0):=by omega
 have z2:(-(m:Int))<0:=by omega
 have z3:¬((n:Int)<0):=by omega
 have z4:(-(n:Int))<0:=by omega
 have m1:¬m=0:=by omega
 have n1:¬n=0:=by omega
 have p0:(m:Int)*n=((m*n:Nat):Int):=by push_cast; rfl
 generalize hmn:m*n=s at *
 by_cases hc:(q:Int)<m
 ·have hs:=c1 (by omega);have k1:zBQ (s:Int)=1099511627776:=by unfold zBQ; rw[if_pos (by omega)]
  have k2:zBQ (-(s:Int)) = -1099511627776:=by unfold zBQ; rw[if_neg (by omega),if_pos (by omega)]
  rcases hm with rfl | rfl<;>rcases hn with rfl | rfl<;>simp[m1,n1,wm,wn,wm',wn',x1,x2,y1,y2,z1,z2,z3,z4,m0,n0,hqd,wq,hc]<;>exact zC 0 (by simp[Int.neg_mul,Int.mul_neg,p0,k1,k2])
 ·have hs:=c2 (by omega);have k1:zBQ (s:Int)=s:=by unfold zBQ; rw[if_neg (by omega),if_neg (by omega)]
  have k2:zBQ (-(s:Int)) = -s:=by unfold zBQ; rw[if_neg (by omega),if_neg (by omega)]
  have w1:=qF (s:Int) (by omega);have w2:=qF (-(s:Int)) (by omega);rcases hm with rfl | rfl<;>rcases hn with rfl | rfl<;>simp[m1,n1,wm,wn,wm',wn',x1,x2,y1,y2,z1,z2,z3,z4,m0,n0,hqd,wq,hc]<;>exact zC 0 (by simp[Int.neg_mul,Int.mul_neg,p0,k1,k2,w1,w2])
theorem zKT {a b:Int}(ha:Rng a)(hb:Rng b):Ret prog 203 [int a,int b] [] (int (zIL a b)) []:=by
 obtain⟨a1,a2⟩:=ha;refine zK Tryz.func203 rfl qOa (rs:=[.slot 4]) (by kernel_rfl) ?_;unfold qHe;by_cases h1:b=0
 ·subst h1;simp;exact zC 0 (by simp[zIL])
 have ht:=zSY (b:=b) a1 a2;have w1:=qF (a.tdiv b) (by omega);have w2:=qF (a.tdiv b-1) (by omega);have e:zIL a b=if a.tmod b≠0∧¬(a<0↔b<0) then a.tdiv b-1 else a.tdiv b:=by unfold zIL; rw[if_neg h1]
 rw[e];by_cases hm:a.tmod b=0
 ·simp[h1,hm,w1];exact zC 0 (by simp[hm])
 by_cases s1:a<0<;>by_cases s2:b<0<;>simp[h1,hm,w1,s1,s2,w2]<;>exact zC 0 (by simp[hm,s1,s2])
theorem zW2 {a b:Int}(ha:Rng a)(hb:Rng b):Ret prog 204 [int a,int b] [] (int (zOv a b)) []:=by
 have hd:=zKT ha hb;refine zK Tryz.func204 rfl qOf (rs:=[.slot 4]) (by kernel_rfl) ?_;unfold qHj;by_cases h1:b=0
 ·subst h1;simp;exact zC 0 (by simp[zOv])
 have hr:=zLG (a:=a) hb.1 hb.2;have e:zOv a b=a-b*zIL a b:=by unfold zOv; rw[if_neg h1]
 obtain⟨a1,a2⟩:=ha;have w1:=qF (b*zIL a b) (by omega);have w2:=qF (a-b*zIL a b) (by omega);simp[h1];refine zT hd (by simp) (by simp) ?_;simp[w1,w2];exact zC 0 (by simp[e])
def zQd:Go.Shelf.Ren:=⟨fun | 4=>181 | n=>n,fun | 0=>0 | 3=>3 | 4=>4 | 9=>9 | 20=>20 | 22=>40 | 25=>47 | n=>n,fun n=>n⟩
theorem zWY:Go.Proofs.Lays8.n4 prog zQd:={
 mixed:=by kernel_rfl,
 f4:=⟨Tryz.f181.name,by decide,Tryz.func181.trans (congrArg some (by kernel_rfl))⟩,
 t0:=Tryz.underlying0,
 a0:=Tryz.isAgg0,
 z0:=Tryz.sizeOf0,
 v0:=Tryz.zeroValue0,
 t3:=Tryz.underlying3,
 a3:=Tryz.isAgg3,
 z3:=Tryz.sizeOf3,
 v3:=Tryz.zeroValue3,
 t4:=Tryz.underlying4,
 a4:=Tryz.isAgg4,
 z4:=Tryz.sizeOf4,
 v4:=Tryz.zeroValue4,
 t9:=Tryz.underlying9,
 a9:=Tryz.isAgg9,
 z9:=Tryz.sizeOf9,
 v9:=Tryz.zeroValue9,
 t20:=Tryz.underlying20,
 a20:=Tryz.isAgg20,
 z20:=Tryz.sizeOf20,
 v20:=Tryz.zeroValue20,
 t22:=Tryz.underlying40,
 a22:=Tryz.isAgg40,
 z22:=Tryz.sizeOf40,
 v22:=Tryz.zeroValue40}
@[simp] theorem qIY:zA prog 181=true:=by kernel_rfl
theorem zPk (n:Nat)(hn:n≤1000000):Ret prog 181 [.nil,int n] [] (.row 0 0) [.row false 47 3 0 []] :=
 zNg (ρ:=zQd) (sz:=3) (bs:=40) (z:=.agg #[.int .i64 0,.int .i64 0,.slice none 0 0]) zWY (by kernel_rfl) rfl (by omega) (by omega) (by omega)
def zO8:K:=G [kMn 2] (G [kMi 3 0] (Z (G [M 9 0,kN 10 9,kMi 11 0] (K.block 0 (K.loop (G [kB 12 11 10 .lss] (Z (Y 12 ks (K.exit 0)) (Z (K.block 1 (G [kX 13 9 11 1,L 14 13 1,M 5 14] (G [M 15 3,M 16 5,kN 17 16,kB 18 15 17 .add,M 3 18] (G [M 19 3,kBi 20 19 0 .lss] (Y 20 (K.ops [⟨none,.mki (some 21) 9 (.const (.string ⟨#[108,101,110,32,111,117,116,32,111,102,32,114,97,110,103,101]⟩))⟩,⟨none,.pan none (kt 21)⟩]) ks))))) (K.ops [kBi 22 11 1 .add,M 11 22]))))))) (G [M 23 3,kC 24 181 [(.const kl),(kt 23)],M 6 24] (Z (G [M 25 0,kN 26 25,kMi 27 0] (K.block 2 (K.loop (G [kB 28 27 26 .lss] (Z (Y 28 ks (K.exit 2)) (Z (K.block 3 (G [kX 29 25 27 1,L 30 29 1,M 8 30] (K.ops [M 31 6,M 32 8,kP 33 47 3 40 31 32,M 6 33]))) (K.ops [kBi 34 27 1 .add,M 27 34]))))))) (G [M 35 6,M 2 35] kr)))))
theorem zV5:zL prog Tryz.f168.ntmps (Tryz.f168.body.getD .skip)=some zO8.erase:=by kernel_rfl
@[simp] theorem qCG:zA prog 168=true:=by kernel_rfl
def zAY (Ls:List (List Val)):List A:=Ls.map fun l=>A.sl l.length (zV l)
theorem zEt:∀(Ls:List (List Val)),jM (zAY Ls)
 | []=>jM.nil
 | l::Ls=>by
  have h1:=zEt Ls;have h2:=zBZ l;refine⟨?_,fun rf g=>?_⟩
  ·show jK (A.sl l.length (zV l)::zAY Ls)=_;simp[h1.1];rfl
  ·show vwL rf g (A.sl l.length (zV l)::zAY Ls)=_;simp[h1.2];rfl
@[simp] theorem zZC (l:List (List Val)):jK (zAY l)=zAY l:=(zEt l).1
@[simp] theorem qE9 {rf g}(l:List (List Val)):vwL rf g (zAY l)=zAY l:=(zEt l).2 _ _
@[simp] theorem qBh (l:List (List Val)):(zAY l).length=l.length:=by simp[zAY]
theorem zHQ {Ls:List (List Val)}{i:Nat}(h:i<Ls.length):(zAY Ls).drop i=.sl Ls[i].length (zV Ls[i])::zAY (Ls.drop (i+1)):=by rw[zAY,←List.map_drop,jB8 h]; rfl
def zEa (Ls:List (List Val)):Nat:=Ls.flatten.length
theorem zNE {Ls:List (List Val)}{i:Nat}(h:i<Ls.length):zEa (Ls.take (i+1))=zEa (Ls.take i)+Ls[i].length:=by rw[zEa,zEa,jA9 h,jCi]; simp
theorem zTb (Ls:List (List Val))(i:Nat):zEa (Ls.take i)≤zEa Ls:=by
 have:Ls.flatten=(Ls.take i).flatten++(Ls.drop i).flatten:=by rw[←jCi,jBy]
 rw[zEa,zEa,this,jA5]; omega
theorem zMz (Ls:List (List Val))(hb:zEa Ls≤1000000):Ret prog 168 [.sl Ls.length (zAY Ls)] [] (.sl (zEa Ls) (zV Ls.flatten)) []:=by
 refine zK Tryz.func168 rfl zV5 (rs:=[.slot 2]) (by kernel_rfl) ?_;unfold zO8;simp;intro hl;refine qW (S:=Nat) (fun i=>[(0,.sl Ls.length (zAY Ls)),(3,int (zEa (Ls.take i))),(9,.sl Ls.length (zAY Ls)),(10,int Ls.length),(11,int i)]) (fun s=>[]) (fun i=>i≤Ls.length) (fun i=>Ls.length-i) 0 (by simp)
  (zR [] 0 (by simp) (by simp) (by simp) (by simp[zEa])) ?_
 intro i hi;by_cases h:i<Ls.length
 ·have ht:=zNE h;have hle:=zTb Ls (i+1);have hw:IntKind.i64.wrap ((zEa (Ls.take i):Int)+(Ls[i].length:Int))=(zEa (Ls.take (i+1)):Nat):=by rw[ht]; push_cast; exact IntWalk.i64_in _ (by omega)
  have h0:¬((zEa (Ls.take (i+1)):Nat):Int)<0:=by omega
  simp[h,zHQ h];intro _;simp[hw,h0];exact zU (i+1) h (by omega) (zR [] 0 (by simp) (by simp) (by simp) (by simp[qA h hl]))
 ·have hil:i=Ls.length:=by omega
  subst hil;have hI:¬(Ls.length:Int)<Ls.length:=by omega
  simp;refine zN (zPk (zEa Ls) hb) [] (by simp) (by simp) (by simp) ?_;simp;intro _;refine qW (S:=Nat) (fun i=>[(6,.row 0 (zEa (Ls.take i))),(25,.sl Ls.length (zAY Ls)),(26,int Ls.length),(27,int i)]) (fun i=>[.row false 47 3 (zEa (Ls.take i)) (zV (Ls.take i).flatten)]) (fun i=>i≤Ls.length) (fun i=>Ls.length-i) 0 (by simp)
   (zR [0] 0 (by simp) (by simp) (by simp[zEa]) (by simp[zEa])) ?_
  intro i hi;by_cases h:i<Ls.length
  ·have ht:=zNE h;have hle:=zTb Ls (i+1);have hf:(Ls.take (i+1)).flatten=(Ls.take i).flatten++Ls[i]:=by rw[jA9 h,jCi]; simp
   simp[h,zHQ h];refine⟨⟨by simp[maxLen]; omega,by omega⟩,?_⟩;exact zU (i+1) h (by omega) (zR [0] 0 (by simp) (by simp) (by simp[ht,hf,zBe]) (by simp[ht,qA h hl]))
  ·have hil:i=Ls.length:=by omega
   subst hil;simp;exact zC 1 (by simp)
def qHc:K:=G [kMn 2] (G [kMn 3] (Z (G [M 6 0,kN 7 6,kMi 8 0] (K.block 0 (K.loop (G [kB 9 8 7 .lss] (Z (Y 9 ks (K.exit 0)) (Z (K.block 1 (G [kX 10 6 8 3,J 11 10 3,kZ 5 [ki,ki,kl],S 5 11 3] (G [D 12 5 2,L 13 12 1,kC 14 113 [(kt 13)],D 15 5 2,S 15 14 1] (K.ops [M 16 3,J 17 5 3,kd 18 47 3 1 [ki,ki,kl] [(0,3,(kt 17))],kP 19 47 3 40 16 18,M 3 19])))) (K.ops [kBi 20 8 1 .add,M 8 20]))))))) (G [M 21 3,M 2 21] kr)))
theorem qNY:zL prog Tryz.f113.ntmps (Tryz.f113.body.getD .skip)=some qHc.erase:=by kernel_rfl
@[simp] theorem qOZ:zA prog 113=true:=by kernel_rfl
mutual
theorem zHo:∀(l:List Val),qY l≤1000000→Ret prog 113 [.sl l.length (zV l)] [] (.sl l.length (zV l)) []
 | l,hz=>by
  have hl6:=zDS l;refine zK Tryz.func113 rfl qNY (rs:=[.slot 2]) (by kernel_rfl) ?_;unfold qHc;simp;intro hl;refine qW (S:=Nat) (fun i=>[(3,.row 0 i),(6,.sl l.length (zV l)),(7,int l.length),(8,int i)]) (fun i=>[.row false 47 3 i (zV (l.take i))]) (fun i=>i≤l.length) (fun i=>l.length-i) 0 (by simp)
   ((yG (t:=3) (by simp) 47 3).trans (zR [0] 0 (by simp) (by simp) (by simp) (by simp))) ?_
  intro i hi;by_cases h:i<l.length
  ·have hk:=zJF l hz l[i] (jA0 h);have ht:zV (l.take (i+1))=zV (l.take i)++[.lit (.int .i64 l[i].k),.lit (.int .i64 l[i].n),.sl l[i].kids.length (zV l[i].kids)]:=by rw[jA9 h,zBe]; simp
   simp[h,jN h];refine zT hk (by simp) (by simp) ?_;simp;refine⟨⟨by simp[maxLen]; omega,by omega⟩,?_⟩;exact zU (i+1) h (by omega) (zR [0] 0 (by simp) (by simp) (by simp[ht]) (by simp[qA h hl]))
  ·have hil:i=l.length:=by omega
   subst hil;simp;exact zC 1 (by simp)
theorem zJF:∀(l:List Val),qY l≤1000000→∀x∈l,Ret prog 113 [.sl x.kids.length (zV x.kids)] [] (.sl x.kids.length (zV x.kids)) []
 | [],_,x,h=>by simp at h
 | .mk k n ks::l,hz,x,h=>by
  simp only[qY,qI]at hz
  if e:x∈l then exact zJF l (by omega) x e
  else
   have:x=.mk k n ks:=(jA3.1 h).resolve_right e;subst this;exact zHo ks (by omega)
end
def qHi:K:=G [kZ 4 [ki,ki,kl]] (Z (G [M 7 0,kBi 8 7 0 .geq,M 9 8,T 9 true (M 10 0),T 9 true (kBi 11 10 5 .lss),kPf 12 9 11,M 13 12,T 13 true (M 14 1),T 13 true (kN 15 14),T 13 true (kQi 16 15 2 false),kPf 17 13 16] (Y 17 (Z (K.dops [(0,0,M 18 0),(1,0,⟨none,.idxarr (some 19) (.global 0) (kt 18) 5 1⟩),(2,0,L 20 19 1),(3,0,M 21 1),(4,0,kXi 22 21 3 0),(5,0,D 23 22 1),(6,0,L 24 23 1),(7,0,M 25 1),(8,0,kXi 26 25 3 1),(9,0,D 27 26 1),(10,0,L 28 27 1),(11,0,⟨none,.call (some 29) (kt 20) [(kt 24),(kt 28)]⟩),(12,0,kb 30 [ki,ki,kl] [(1,1,(kt 29))]),(13,0,S 4 30 3)]) kr) ks)) (Z (K.block 0 (G [M 32 0,kQi 33 32 9 false,M 34 33,T 34 true (M 35 1),T 34 true (kN 36 35),T 34 true (kQi 37 36 1 false),kPf 38 34 37,M 31 38] (Y 31 (G [M 39 1,kXi 40 39 3 0,D 41 40 1,L 42 41 1,kQi 43 42 0 false,kC 44 162 [(kt 43)],S 4 44 3] kr) (G [M 46 0,kQi 47 46 11 false,M 48 47,T 48 true (M 49 1),T 48 true (kN 50 49),T 48 true (kQi 51 50 1 false),kPf 52 48 51,M 45 52] (Y 45 (G [M 53 1,kXi 54 53 3 0,D 55 54 2,L 56 55 1,kN 57 56,kb 58 [ki,ki,kl] [(1,1,(kt 57))],S 4 58 3] kr) (G [M 60 1,kN 61 60,kQi 62 61 2 true,M 59 62] (Y 59 (G [kb 63 [ki,ki,kl] [],S 4 63 3] kr) ks))))))) (Z (K.wk (K.dops [(0,0,M 64 1),(1,2,kXi 65 64 3 0),(2,2,J 66 65 3),(3,0,M 67 1),(4,2,kXi 68 67 3 1),(5,2,J 69 68 3),(6,301,⟨none,.alr (some 5) 1 [ki,ki,kl]⟩),(7,302,⟨none,.alr (some 6) 2 [ki,ki,kl]⟩),(8,0,S 5 66 3),(9,0,S 6 69 3)])) (Z (G [M 70 0] (K.block 1 (G [kQi 72 70 5 false,M 71 72] (Y 71 (G [D 73 5 1,L 74 73 1,D 75 6 1,
 L 76 75 1,kB 77 74 76 .lss,kC 78 162 [(kt 77)],S 4 78 3] kr) (G [kQi 80 70 6 false,M 79 80] (Y 79 (G [J 81 5 3,J 82 6 3,kC 83 167 [(kt 81),(kt 82)],kQi 84 83 0 false,kC 85 162 [(kt 84)],S 4 85 3] kr) (G [kQi 87 70 7 false,M 86 87] (Y 86 (G [D 88 5 1,L 89 88 1,kQi 90 89 0 true,M 91 90,T 91 true (D 92 6 1),T 91 true (L 93 92 1),T 91 true (kQi 94 93 0 true),kPf 95 91 94,kC 96 162 [(kt 95)],S 4 96 3] kr) (G [kQi 98 70 8 false,M 97 98] (Y 97 (G [D 99 5 1,L 100 99 1,kQi 101 100 0 true,M 102 101,T 102 false (D 103 6 1),T 102 false (L 104 103 1),T 102 false (kQi 105 104 0 true),kPt 106 102 105,kC 107 162 [(kt 106)],S 4 107 3] kr) (G [kQi 109 70 10 false,M 108 109] (Y 108 (G [D 110 5 2,L 111 110 1,D 112 6 2,L 113 112 1,kd 114 40 1 2 [kl,kl] [(0,1,(kt 111)),(1,1,(kt 113))],kC 115 168 [(kt 114)],kC 116 113 [(kt 115)],kb 117 [ki,ki,kl] [(0,1,(kc 4)),(2,1,(kt 116))],S 4 117 3] kr) ks)))))))))))) (G [kb 118 [ki,ki,kl] [],S 4 118 3] kr)))))
def qQB:Nat→Option (List (Nat×Nat)):=fun r=>match r with | 9=>some [(0,0),(1,2),(2,2),(3,0),(4,2),(5,2),(6,301),(7,302),(8,0),(9,0)] | _=>none
theorem qOe:qD prog Tryz.f145.ntmps qQB (Tryz.f145.body.getD .skip)=some qHi.erase:=by kernel_rfl
@[simp] theorem qPg:zA prog 145=true:=by kernel_rfl
@[simp] theorem qLm (b:Bool):(zBV b).k=1:=rfl
@[simp] theorem qLn (b:Bool):(zBV b).n=if b then 1 else 0:=rfl
@[simp] theorem qCh (b:Bool):(zBV b).kids=[]:=rfl
@[simp] theorem qDz {env:Env}:ev env (.global 0)=.rptr [.clo 199 [] [],.clo 201 [] [],.clo 202 [] [],.clo 203 [] [],.clo 204 [] []]:=rfl
theorem yR:2≤maxLen:=by simp[maxLen]
theorem zCC:1≤maxLen:=by simp[maxLen]
theorem zWz {p:Prg}{n:Int}{ts:List Typ}{t:Typ}(h:OpT n ts t){vs:List Val}(hv:TyL p ts vs)(hs:∀v∈vs,qI v≤256):Ret prog 145 [int n,.sl vs.length (zV vs)] [] (.agg (zJ (opV n vs))) []:=by
 refine zI Tryz.func145 rfl qOe (rs:=[.cell 4 3 true]) (by kernel_rfl) ?_;unfold qHi;cases h with
 | arith n h1 h2 =>
  obtain⟨a,b,rfl,ha,hb⟩:=hv.two;obtain⟨x,rfl,hx⟩:=ha.int_inv;obtain⟨y,rfl,hy⟩:=hb.int_inv;have e:opV n [.mk 0 x [],.mk 0 y []]=.mk 0 (zM9 n x y) []:=by simp only[opV,if_pos h2]; rfl
  rw[e];have hn:n=0∨n=1∨n=2∨n=3∨n=4:=by omega
  rcases hn with rfl | rfl | rfl | rfl | rfl
  ·simp[Val.k,Val.n,Val.kids,yR,zCC];refine qK (zYK hx hy) (by simp) (by simp) ?_;simp;exact zC 0 (by simp[zJ,Val.k,Val.n,Val.kids,zM9])
  ·simp[Val.k,Val.n,Val.kids,yR,zCC];refine qK (zZf hx hy) (by simp) (by simp) ?_;simp;exact zC 0 (by simp[zJ,Val.k,Val.n,Val.kids,zM9])
  ·simp[Val.k,Val.n,Val.kids,yR,zCC];refine qK (zTD hx hy) (by simp) (by simp) ?_;simp;exact zC 0 (by simp[zJ,Val.k,Val.n,Val.kids,zM9])
  ·simp[Val.k,Val.n,Val.kids,yR,zCC];refine qK (zKT hx hy) (by simp) (by simp) ?_;simp;exact zC 0 (by simp[zJ,Val.k,Val.n,Val.kids,zM9])
  ·simp[Val.k,Val.n,Val.kids,yR,zCC];refine qK (zW2 hx hy) (by simp) (by simp) ?_;simp;exact zC 0 (by simp[zJ,Val.k,Val.n,Val.kids,zM9])
 | less =>
  obtain⟨a,b,rfl,ha,hb⟩:=hv.two;obtain⟨x,rfl,hx⟩:=ha.int_inv;obtain⟨y,rfl,hy⟩:=hb.int_inv;simp[Val.k,Val.n,Val.kids,yR,zCC];refine⟨_,_,zAj 2,?_⟩;simp[Val.k,Val.n,Val.kids,yR,zCC];refine zT (zAT (decide (x<y))) (by simp) (by simp[zJ]) ?_;simp[zJ];exact zC 0 (by by_cases hx0:x<y<;>simp[zJ,opV,zZ,hx0])
 | same u =>
  obtain⟨a,b,rfl,ha,hb⟩:=hv.two;simp[yR];refine⟨_,_,zAj 2,?_⟩;simp[yR];refine zT (zSs a b) (by simp[zJ]) (by simp) ?_;simp;refine zT (zAT (decide (zKg a b=0))) (by simp) (by simp[zJ]) ?_;simp[zJ];exact zC 0 (by simp[zJ,opV])
 | andor n h =>
  obtain⟨a,b,rfl,ha,hb⟩:=hv.two;obtain⟨x,rfl,hx⟩:=ha.bool_inv;obtain⟨y,rfl,hy⟩:=hb.bool_inv;rcases h with rfl | rfl
  ·rcases hx with rfl | rfl<;>rcases hy with rfl | rfl
   ·simp[Val.k,Val.n,Val.kids,yR];refine⟨_,_,zAj 2,?_⟩;simp[Val.k,Val.n,Val.kids,yR];refine zT (zAT false) (by simp) (by simp[zJ]) ?_;simp[zJ];exact zC 0 (by simp[zJ,opV,zZ])
   ·simp[Val.k,Val.n,Val.kids,yR];refine⟨_,_,zAj 2,?_⟩;simp[Val.k,Val.n,Val.kids,yR];refine zT (zAT false) (by simp) (by simp[zJ]) ?_;simp[zJ];exact zC 0 (by simp[zJ,opV,zZ])
   ·simp[Val.k,Val.n,Val.kids,yR];refine⟨_,_,zAj 2,?_⟩;simp[Val.k,Val.n,Val.kids,yR];refine zT (zAT false) (by simp) (by simp[zJ]) ?_;simp[zJ];exact zC 0 (by simp[zJ,opV,zZ])
   ·simp[Val.k,Val.n,Val.kids,yR];refine⟨_,_,zAj 2,?_⟩;simp[Val.k,Val.n,Val.kids,yR];refine zT (zAT true) (by simp) (by simp[zJ]) ?_;simp[zJ];exact zC 0 (by simp[zJ,opV,zZ])
  ·rcases hx with rfl | rfl<;>rcases hy with rfl | rfl
   ·simp[Val.k,Val.n,Val.kids,yR];refine⟨_,_,zAj 2,?_⟩;simp[Val.k,Val.n,Val.kids,yR];refine zT (zAT false) (by simp) (by simp[zJ]) ?_;simp[zJ];exact zC 0 (by simp[zJ,opV,zZ])
   ·simp[Val.k,Val.n,Val.kids,yR];refine⟨_,_,zAj 2,?_⟩;simp[Val.k,Val.n,Val.kids,yR];refine zT (zAT true) (by simp) (by simp[zJ]) ?_;simp[zJ];exact zC 0 (by simp[zJ,opV,zZ])
   ·simp[Val.k,Val.n,Val.kids,yR];refine⟨_,_,zAj 2,?_⟩;simp[Val.k,Val.n,Val.kids,yR];refine zT (zAT true) (by simp) (by simp[zJ]) ?_;simp[zJ];exact zC 0 (by simp[zJ,opV,zZ])
   ·simp[Val.k,Val.n,Val.kids,yR];refine⟨_,_,zAj 2,?_⟩;simp[Val.k,Val.n,Val.kids,yR];refine zT (zAT true) (by simp) (by simp[zJ]) ?_;simp[zJ];exact zC 0 (by simp[zJ,opV,zZ])
 | not =>
  obtain⟨a,rfl,ha⟩:=hv.one;obtain⟨x,rfl,hx⟩:=ha.bool_inv;simp[Val.k,Val.n,Val.kids,yR,zCC];refine zT (zAT (decide (x=0))) (by simp) (by simp[zJ]) ?_;simp[zJ];exact zC 0 (by by_cases hx0:x=0<;>simp[zJ,opV,zZ,hx0])
 | join u =>
  obtain⟨a,b,rfl,ha,hb⟩:=hv.two;have h1:=hs a (by simp);have h2:=hs b (by simp);cases a with | mk k1 n1 l1 =>
  cases b with | mk k2 n2 l2 =>
  simp only[qI]at h1 h2;have z1:=zDS l1;have z2:=zDS l2;have hc:Ret prog 168 [.sl 2 [.sl l1.length (zV l1),.sl l2.length (zV l2)]] [] (.sl (l1.length+l2.length) (zV (l1++l2))) []:=by simpa [zAY,zEa] using zMz [l1,l2] (by simp[zEa]; omega)
  have hk:=zHo (l1++l2) (by rw[zCk]; omega);rw[jA5]at hk;simp[Val.k,Val.n,Val.kids,yR,zCC];refine⟨_,_,zAj 2,?_⟩;simp[Val.k,Val.n,Val.kids,yR,zCC];refine zT hc (by simp) (by simp) ?_;simp;refine zT hk (by simp) (by simp) ?_;simp;exact zC 0 (by simp[zJ,opV,Val.k,Val.n,Val.kids])
 | len u =>
  obtain⟨a,rfl,ha⟩:=hv.one;simp[zCC];exact fun _=>zC 0 (by simp[zJ,opV,Val.k,Val.n,Val.kids])
def qHJ:K:=G [kO 3 0,kZ 6 [kl,kl]] (G [kd 10 39 31 0 [] [],D 11 3 1,L 12 11 1,kP 13 39 31 352 10 12,D 14 3 1,S 14 13 1] (Z (G [kMi 7 0] (K.block 0 (K.loop (Z (G [M 15 7,M 16 2,kB 17 15 16 .lss,M 18 17,T 18 true (M 19 7),T 18 true (kBi 20 19 2 .add),T 18 true (M 21 1),T 18 true (kN 22 21),T 18 true (kB 23 20 22 .lss),kPf 24 18 23,M 25 24,T 25 true (D 26 3 1),T 25 true (L 27 26 1),T 25 true (kN 28 27),T 25 true (kBi 29 28 0 .gtr),kPf 30 25 29] (Y 30 ks (K.exit 0))) (Z (K.block 1 (G [M 33 1,M 34 7,D 35 3 1,L 36 35 1,kN 37 36,kC 38 31 [(kt 33),(kt 34),(kt 37)],M 8 38] (G [D 39 3 1,L 40 39 1,M 41 8,kX 42 40 41 31,J 43 42 31,kC 44 25 [(kt 43)]] (Y 44 (G [M 45 1,M 46 7,kBi 47 46 1 .add,D 48 3 1,L 49 48 1,M 50 8,kX 51 49 50 31,D 52 51 14,J 53 52 15,kC 54 52 [(kt 53)],kC 55 31 [(kt 45),(kt 47),(kt 54)],M 9 55] (K.dops [(0,0,D 57 3 1),(1,0,L 58 57 1),(2,0,M 59 8),(3,0,D 60 3 1),(4,0,L 61 60 1),(5,0,M 62 8),(6,0,kX 63 61 62 31),(7,0,D 64 63 14),(8,0,J 65 64 15),(9,0,M 66 9),(10,0,M 67 1),(11,0,M 68 7),(12,0,kBi 69 68 2 .add),(13,0,kC 70 31 [(kt 67),(kt 69),(kc 1000)]),(14,0,kC 71 53 [(kt 65),(kt 66),(kt 70)]),(15,0,M 56 71),(16,0,kE 72 56 0),(17,0,kE 73 56 1),(18,0,kX 74 58 59 31),(19,0,D 75 74 14),(20,0,S 75 72 15)])) ks)))) (K.ops [M 31 7,kBi 32 31 1 .add,M 7 32])))))) (G [J 76 3 2,S 6 76 2] kr)))
theorem qOF:zL prog Tryz.f18.ntmps (Tryz.f18.body.getD .skip)=some qHJ.erase:=by kernel_rfl
@[simp] theorem qPZ:zA prog 18=true:=by kernel_rfl
def zF1 (l:List Int)(ds:List Dfn)(i:Nat):List Dfn:=match ds[(atV l i ds.length).toNat]? with
 | some d=>if zAI d.kind then ds.set (atV l i ds.length).toNat (d.wb (zAc d.body (atV l (i+1) (tmps d.body).length) (atV l (i+2) 1000)).1) else ds
 | none=>ds
def zDx (l:List Int)(ds:List Dfn):Nat→List Dfn
 | 0=>ds
 | i+1=>zF1 l (zDx l ds i) i
theorem zRP (l:List Int)(ds:List Dfn)(i:Nat):(zF1 l ds i).length=ds.length:=by
 unfold zF1;split
 ·split<;>simp
 ·rfl
theorem zGO (l:List Int)(ds:List Dfn):∀i:Nat,(zDx l ds i).length=ds.length
 | 0=>rfl
 | i+1=>by simp only[zDx]; rw[zRP,zGO l ds i]
theorem zQz (l:List Int){ds:List Dfn}{i:Nat}{P:Dfn→Prop}(h:∀d∈ds,P d)(hs:∀d,P d→∀a x,P (d.wb (zAc d.body a x).1)):∀d∈zF1 l ds i,P d:=by
 unfold zF1;split
 ·rename_i d hd;split
  ·intro d' hd';rcases List.mem_or_eq_of_mem_set hd' with hd' | rfl
   ·exact h d' hd'
   ·exact hs _ (h _ (jBt hd)) _ _
  ·exact h
 ·exact h
theorem zMb (l:List Int){ds:List Dfn}{P:Dfn→Prop}(h:∀d∈ds,P d)(hs:∀d,P d→∀a x,P (d.wb (zAc d.body a x).1)):∀i:Nat,∀d∈zDx l ds i,P d
 | 0=>h
 | i+1=>zQz l (zMb l h hs i) hs
structure FineD (d:Dfn):Prop where
 s1:1≤d.slots.length
 s6:d.slots.length≤6
 nice:d.body.nice
 size:(tmps d.body).length≤32768
theorem FineP.get {p:Prg}(h:FineP p):∀d∈p.defs,FineD d:=fun d hd=>⟨(h.slots d hd).1,(h.slots d hd).2,h.nice d hd,h.size d hd⟩
theorem FineP.mk' {p:Prg}(h1:p.defs.length≤9)(h2:p.mods.length≤100)(h:∀d∈p.defs,FineD d):FineP p:=⟨h1,h2,fun d hd=>⟨(h d hd).s1,(h d hd).s6⟩,fun d hd=>(h d hd).nice,fun d hd=>(h d hd).size⟩
theorem FineD.tweak {d:Dfn}(h:FineD d)(a x:Int):FineD (d.wb (zAc d.body a x).1):=by have:=zMd x d.body a h.nice;exact⟨h.s1,h.s6,this.1,by have:=this.2; have:=h.size; simp only[Dfn.wb]; omega⟩
theorem zMa (l:List Int){p:Prg}(h:FineP p)(i:Nat):FineP ⟨p.mods,zDx l p.defs i⟩ :=
 FineP.mk' (by simp only[zGO]; exact h.defs) h.mods (zMb l h.get (fun d hd a x=>hd.tweak a x) i)
def zU7 (l:List Int)(most:Nat):Nat:=min most (l.length-2)
theorem zUA (p:Prg)(hf:FineP p)(h0:0<p.defs.length)(l:List Int)(hl:∀x∈l,w64 x=x)(most:Nat)(hm:most≤100) :
 Ret prog 18 [.agg (zS p),.sl l.length (yH l),int most] [] (.agg (zS ⟨p.mods,zDx l p.defs (zU7 l most)⟩)) []:=by
 obtain⟨N,hN⟩:∃N,N=zU7 l most:=⟨_,rfl⟩;rw[←hN];have hNm:N≤most:=by rw[hN]; exact Nat.min_le_left _ _
 have hNl:N≤l.length-2:=by rw[hN]; exact Nat.min_le_right _ _
 have hd9:=hf.defs;refine zK Tryz.func18 rfl qOF (rs:=[.cell 6 2 true]) (by kernel_rfl) ?_;unfold qHJ;have hnil:p.defs≠[]:=fun e=>by rw[e]at h0; simp at h0
 simp[zS,hnil];refine⟨⟨by simp[maxLen]; omega,by omega⟩,?_⟩;refine qW (S:=Nat) (fun i=>[(1,.sl l.length (yH l)),(2,int most),(3,.ptr 0 0),(6,.ptr 1 0),(7,int i)])
  (fun i=>[.box [.sl p.mods.length (qM p.mods),.row 2 p.defs.length],.box [.nil,.nil],.row false 39 31 p.defs.length (zX (zDx l p.defs i))]) (fun i=>i≤N) (fun i=>N-i) 0 (by simp)
  (zR [0,1,2] 0 (by decide) (by simp) (by simp[zDx]) (by simp)) ?_
 intro i hi;have wi2:=qF ((i:Int)+2) (by omega);by_cases h:i<N
 ·have c1:(i:Int)<most:=by omega
  have c2:(i:Int)+2<l.length:=by omega
  have wi1:=zAk i (by omega);have hlen:=zGO l p.defs i;have hfi:=(zMa l hf i).get;have hstep:zDx l p.defs (i+1)=zF1 l (zDx l p.defs i) i:=rfl;simp only at hfi;generalize hTs:zDx l p.defs (i+1)=T' at hstep;generalize hT:zDx l p.defs i=T at *
  have hat:=zB2 l i p.defs.length (by omega);obtain⟨a1,a2⟩:=yM (i:=i) hl (most:=(p.defs.length:Int)) (by omega);obtain⟨k,hk⟩:∃k:Nat,atV l i p.defs.length=k:=⟨(atV l i p.defs.length).toNat,by omega⟩;have hkT:k<T.length:=by omega
  have hkd:k<p.defs.length:=by omega
  rw[hk]at hat;unfold zF1 at hstep;rw[hlen,hk,jD,jA2 hkT]at hstep;have hdr:=yI hkT;have hwb:=fun e=>zG4 hkT e
  have hfd:=hfi _ (jA0 hkT);generalize T[k]=d at *
  simp only at hstep;have hb31:k*31+31≤p.defs.length*31:=by omega
  have hb14:k*31+14+15≤p.defs.length*31:=by omega
  have hdr14:List.drop (k*31+14) (zX T)=(zO d++zX (T.drop (k+1))).drop 14:=by rw[←jAs,hdr]
  have hhb:=zS8 d;simp[c1,c2,wi2,h0]
  intros
  refine zT hat (by simp) (by simp) ?_;simp[hkd,hdr,hb31,zO,hlen];refine zT hhb (by simp[zO]) (by simp) ?_;cases hbk:zAI d.kind
  ·rw[hbk]at hstep;simp only[jAc,if_false]at hstep;subst hstep;simp;exact zU (i+1) h (by omega) (zR [0,1,2] 0 (by decide) (by simp) (by simp[hT,hTs]) (by simp[wi1]))
  ·rw[hbk]at hstep;simp only[if_true]at hstep;have hsz:=hfd.size;have hn1:1≤(tmps d.body).length:=by rw[zA7,jA5,jAl]; omega
   have hnod:=zLx d.body (by omega);have hat1:=zB2 l (i+1) (tmps d.body).length (by omega);obtain⟨b1,b2⟩:=yM (i:=i+1) hl (most:=((tmps d.body).length:Int)) (by omega);have hat2:=zB2 l (i+2) 1000 (by omega);have htw:=zQ0 d.body (zSK _ hfd.nice) (by omega) (atV l (i+1) (tmps d.body).length) (atV l (i+2) 1000) b1 (by omega);simp[hlen,hkd,hdr14,hb14,zO,wi1];refine zT hnod (by simp[zF]) (by simp) ?_;simp[wi1];refine zT hat1 (by simp) (by simp) ?_;simp[hlen,hkd,hdr14,hb14,zO,wi2];refine qK hat2 (by simp) (by simp) ?_;simp[hlen,hkd,hdr14,hb14,zO];refine qK htw (by simp[zF]) (by simp[twR]) ?_;simp[hlen,twR,hkd,hb14];exact zU (i+1) h (by omega) (zR [0,1,2] 0 (by decide) (by simp) (by simp[hTs,hstep,←hwb]) (by simp[wi1]))
 ·have hie:i=N:=by omega
  subst hie;have hlen:=zGO l p.defs i;by_cases c1:(i:Int)<most
  ·have c2:¬(i:Int)+2<l.length:=by have:i=min most (l.length-2):=hN;omega
   simp[c1,c2,wi2]
   intros
   exact zC 1 (by simp[zS,hlen])
  ·simp[c1];exact zC 1 (by simp[zS,hlen])
@[simp] theorem qP7:zA prog 179=true:=by kernel_rfl
@[simp] theorem qPD:zA prog 178=true:=by kernel_rfl
@[simp] theorem qPC:zA prog 161=true:=by kernel_rfl
end Go.Proofs.YthglhccibdlccaaGreatDoor

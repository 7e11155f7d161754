/-
  The maker's plans: the types of records and variants; all plans.
  The maker's definitions before their bodies: what is known of them.
  The types of the maker's definitions are types of the program.
  The maker's bodies exist.
  The numbers of nodes become IDs: the data.
  The maker's programs, walked: the nodes get their IDs.
  The maker's programs, walked: the bodies are made.
  The maker's programs, walked: modules, definitions, slots.
  The maker's programs: what they are.
  What is proved: the maker of programs returns a typed program, whose nodes have IDs of their own.
  Types of values and of programs' expressions; a run keeps them.
  The generator of programs of records and converters, as data: its parts, and their types.
  The fields of a slot that an expression reads: two ways to find them.
  What a run asks is bounded by its fuel; the three evaluators have the same states, and the same values where nothing fails.
  The program's operations: numbers, truth values, lists.
  The fields on which a field of a converter's result depends: the two answers agree.
  The reference's operations.
-/
import Derived.Test.YtdnelmeboihpkaaGreatDoorX14
import Derived.Test.YtdnelmeboihpkaaGreatDoorX13
import Derived.Test.YtdnelmeboihpkaaGreatDoorX10
set_option linter.unusedVariables false
set_option maxHeartbeats 8000000
set_option maxRecDepth 100000
set_option linter.unusedSimpArgs false
open Go.Proofs.Tryz (prog)
namespace Go.Proofs.YtdnelmeboihpkaaGreatDoor
open Go.Abs
theorem zS4 {k:Int}(h0:0≤k)(h1:k≤1000000000000000):idR k=⟨0,1+k / 32,k % 32⟩:=by unfold idR;have e1:k.tdiv 32=k / 32:=tdN h0;have e2:k.tmod 32=k % 32:=tmN h0;have w1:=jT (k.tdiv 32) (by omega);rw[w1,e2];have w2:=jT (1+k.tdiv 32) (by omega);rw[w2,e1]
theorem zS3 {k j:Int}(h0:0≤k)(h1:k≤1000000000000000)(g0:0≤j)(g1:j≤1000000000000000)(h:idR k=idR j):k=j:=by
 rw[zS4 h0 h1,zS4 g0 g1]at h;injection h with _ h2 h3
 omega
def qJF (next:Int)(p:Pln)(k:Nat):Slt:=⟨idR (next+k),p.names.getD k ⟨#[]⟩,p.types.getD k zAW,if p.kind=4 then p.most.getD k 0 else 0,k⟩
def zRJ (next:Int)(p:Pln):List Slt:=(List.range p.types.length).map (qJF next p)
def qO9 (mods next:Int)(i:Nat)(p:Pln):Dfn:=⟨idR (mods+i),p.kind,idR p.mod,p.name,zRJ next p,p.out,Exp.zero,0,[]⟩
def qA0 (mods:Int)(ps:List Pln):Nat→Int
 | 0=>mods+ps.length
 | i+1=>qA0 mods ps i+(match ps[i]? with | some p=>(p.types.length:Int) | none=>0)
def zVz (mods:Int)(ps:List Pln):List Dfn:=ps.mapIdx fun i p=>qO9 mods (qA0 mods ps i) i p
@[simp] theorem qDW (mods:Int)(ps:List Pln):(zVz mods ps).length=ps.length:=by simp[zVz]
@[simp] theorem qDe (next:Int)(p:Pln):(zRJ next p).length=p.types.length:=by simp[zRJ]
section
variable (l:List Int)(mods:Int)(hm:1≤mods)(hm2:mods≤2)(hl:∀x∈l,w64 x=x)
include hm hm2 hl
end
def qIj (mods:Int)(ps:List Pln):List Hd:=(zVz mods ps).map Dfn.hd
@[simp] theorem qIk (mods:Int)(ps:List Pln):(qIj mods ps).length=ps.length:=by simp[qIj]
section
variable (l:List Int)(mods:Int)(hm:1≤mods)(hm2:mods≤2)(hl:∀x∈l,w64 x=x)
include hm hm2 hl
end
end Go.Proofs.YtdnelmeboihpkaaGreatDoor
namespace Go.Proofs.YtdnelmeboihpkaaGreatDoor
open Go.Abs
def Dfn.wb (d:Dfn)(e:Exp):Dfn:={d with body:=e}
@[simp] theorem Dfn.hd_wb (d:Dfn)(e:Exp):(d.wb e).hd=d.hd:=rfl
def zVF (d:Dfn):List Bnd:=d.slots.map fun s=>⟨s.id,0,s.typ⟩
@[simp] theorem qHR (d:Dfn):(zVF d).length=d.slots.length:=by simp[zVF]
@[simp] theorem qLr (d:Dfn)(e:Exp):zVF (d.wb e)=zVF d:=rfl
section
variable {l:List Int}{mods:Int}(hm:1≤mods)(hm2:mods≤2)(hl:∀x∈l,w64 x=x)
include hm hm2 hl
end
end Go.Proofs.YtdnelmeboihpkaaGreatDoor
namespace Go.Abs
end Go.Abs
namespace Go.Proofs.YtdnelmeboihpkaaGreatDoor
open Go.Abs
def qDb:List Id→Int→List Int→List Id
 | ids,_,[]=>ids
 | ids,next,c::cs=>qDb (ids.set c.toNat (idR next)) (next+1) cs
@[simp] theorem zWR:∀(cs:List Int) (ids:List Id) (next:Int),(qDb ids next cs).length=ids.length
 | [],_,_=>rfl
 | _::cs,ids,next=>by simp only[qDb]; rw[zWR cs,jBl]
def zGV (d:Dfn):Bool:=!(decide (d.kind=0)||decide (d.kind=1))
end Go.Proofs.YtdnelmeboihpkaaGreatDoor
namespace Go.Proofs.YtdnelmeboihpkaaGreatDoor
open Go.Abs
@[simp] theorem qNQ:zA prog 37=true:=by kernel_rfl
abbrev qHZ (p:Prg):=fin [RS.cell 2 2 true] (zFz 0 (.agg (zM p)) [])
end Go.Proofs.YtdnelmeboihpkaaGreatDoor
namespace Go.Abs
section
variable {d:Option Nat}{x i:Operand}{n f:Nat}{g:Bool}{env:Env}{l:List Operand}
@[simp] theorem qFf (h1:4000≤f):zAQ f (.ld d x n g) env=zBt (f-4000) (ev env x):=propext (zQg h1)
@[simp] theorem qDs (h1:4000≤f):zAQ f (.idx d x i n) env=isRow (ev env x):=propext (zNe h1)
@[simp] theorem qFe {o:Nat}(h1:6<f):zAQ f (.addr d x o) env=True:=by
 unfold zAQ;split
 ·omega
 ·omega
 ·split
  ·rfl
  ·split
   ·rfl
   ·split<;>rfl
@[simp] theorem qDr (h1:6<f):zAQ f (.call d x l) env=True:=by
 unfold zAQ;split
 ·omega
 ·omega
 ·split
  ·rfl
  ·split
   ·rfl
   ·split<;>rfl
@[simp] theorem qLT {σ : St}(h1:2<f):zCS f σ = σ:=by unfold zCS; rw[if_neg (by omega),if_neg (by omega)]
end
end Go.Abs
namespace Go.Proofs.YtdnelmeboihpkaaGreatDoor
open Go.Abs
section
variable {N:Nat}{i:Id}{k n:Int}{r:Id}{t:Typ}{ks:List Exp}{ns:List ByteArray}
end
inductive TyV (p:Prg):Typ→Val→Prop
 | int (n:Int) (h1 : -1099511627776≤n) (h2:n≤1099511627776):TyV p zAW (.mk 0 n [])
 | bool (n:Int) (h:n=0∨n=1):TyV p yZ (.mk 1 n [])
 | list (t:Typ) (vs:List Val) (h:∀v∈vs,TyV p t v):TyV p (zDa t) (.mk 4 0 vs)
 | record (id:Id) (d:Dfn) (vs:List Val) (hd:qW p.defs id=some d) (hk:d.kind=0) (hl:vs.length=d.slots.length) (h:∀(j:Nat) (hj:j<vs.length),TyV p (d.slots[j]'(hl▸hj)).typ vs[j]):TyV p (jZ id) (.mk 2 0 vs)
 | case (id:Id) (d:Dfn) (n:Nat) (v:Val) (hd:qW p.defs id=some d) (hk:d.kind=1) (hn:n<d.slots.length) (h:TyV p d.slots[n].typ v):TyV p (jZ id) (.mk 3 n [v])
theorem TyV.int_inv {p:Prg}{v:Val}(h:TyV p zAW v):∃n:Int,v=.mk 0 n []∧-1099511627776≤n∧n≤1099511627776:=by
 generalize ht:zAW=t at h;cases h with
 | int n h1 h2=>exact⟨n,rfl,h1,h2⟩
 | _=>simp at ht
theorem TyV.bool_inv {p:Prg}{v:Val}(h:TyV p yZ v):∃n:Int,v=.mk 1 n []∧(n=0∨n=1):=by
 generalize ht:yZ=t at h;cases h with
 | bool n h=>exact⟨n,rfl,h⟩
 | _=>simp at ht
theorem TyV.list_inv {p:Prg}{u:Typ}{v:Val}(h:TyV p (zDa u) v):∃vs:List Val,v=.mk 4 0 vs∧∀x∈vs,TyV p u x:=by
 generalize ht:zDa u=t at h;cases h with
 | list t vs h =>
  simp only[Typ.mk.injEq,jAu,and_true,true_and]at ht;subst ht;exact⟨vs,rfl,h⟩
 | _=>simp at ht
theorem TyV.def_inv {p:Prg}{r:Id}{d:Dfn}{v:Val}(hd:qW p.defs r=some d)(h:TyV p (jZ r) v) :
 (d.kind=0∧∃(vs:List Val) (hl:vs.length=d.slots.length),v=.mk 2 0 vs∧∀(j:Nat) (hj:j<vs.length),TyV p (d.slots[j]'(hl▸hj)).typ vs[j]) ∨
 (d.kind=1∧∃(n:Nat) (x:Val) (hn:n<d.slots.length),v=.mk 3 n [x]∧TyV p d.slots[n].typ x):=by
 generalize ht:jZ r=t at h;cases h with
 | record id d' vs hd' hk hl h =>
  simp only[Typ.mk.injEq,and_true,true_and]at ht;subst ht;rw[hd]at hd';cases hd';exact .inl ⟨hk,vs,hl,rfl,h⟩
 | case id d' n x hd' hk hn h =>
  simp only[Typ.mk.injEq,and_true,true_and]at ht;subst ht;rw[hd]at hd';cases hd';exact .inr ⟨hk,n,x,hn,rfl,h⟩
 | _=>simp at ht
inductive TyL (p:Prg):List Typ→List Val→Prop
 | nil:TyL p [] []
 | cons (t:Typ) (ts:List Typ) (v:Val) (vs:List Val) (h:TyV p t v) (hs:TyL p ts vs):TyL p (t::ts) (v::vs)
theorem TyL.len {p:Prg}{ts:List Typ}{vs:List Val}(h:TyL p ts vs):vs.length=ts.length:=by
 induction h with
 | nil=>rfl
 | cons _ _ _ _ _ _ ih=>simp[ih]
theorem TyL.get {p:Prg}{ts:List Typ}{vs:List Val}(h:TyL p ts vs):∀(j:Nat) (hj:j<vs.length) (hj':j<ts.length),TyV p ts[j] vs[j]:=by
 induction h with
 | nil=>intro j hj; simp at hj
 | cons t ts v vs h hs ih =>
  intro j hj hj';cases j with
  | zero=>exact h
  | succ j=>exact ih j (by simpa using hj) (by simpa using hj')
theorem TyL.of {p:Prg}:∀{ts:List Typ} {vs:List Val} (hl:vs.length=ts.length) (_:∀(j:Nat) (hj:j<vs.length),TyV p (ts[j]'(hl▸hj)) vs[j]),TyL p ts vs
 | [],[],_,_=>.nil
 | t::ts,v::vs,hl,h=>.cons t ts v vs (h 0 (by simp)) (TyL.of (by simpa using hl) fun j hj=>h (j+1) (by simpa using hj))
 | [],v::vs,hl,_=>by simp at hl
 | t::ts,[],hl,_=>by simp at hl
inductive OpT:Int→List Typ→Typ→Prop
 | arith (n:Int) (h1:0≤n) (h2:n≤4):OpT n [zAW,zAW] zAW
 | less:OpT 5 [zAW,zAW] yZ
 | same (u:Typ):OpT 6 [u,u] yZ
 | andor (n:Int) (h:n=7∨n=8):OpT n [yZ,yZ] yZ
 | not:OpT 9 [yZ] yZ
 | join (t:Typ):OpT 10 [zDa t,zDa t] (zDa t)
 | len (t:Typ):OpT 11 [zDa t] zAW
theorem TyL.one {p:Prg}{t:Typ}{vs:List Val}(h:TyL p [t] vs):∃a,vs=[a]∧TyV p t a:=by
 cases h with
 | cons _ _ v vs h hs=>cases hs; exact⟨v,rfl,h⟩
theorem TyL.two {p:Prg}{t u:Typ}{vs:List Val}(h:TyL p [t,u] vs):∃a b,vs=[a,b]∧TyV p t a∧TyV p u b:=by
 cases h with
 | cons _ _ v vs h hs =>
  obtain⟨b,rfl,hb⟩:=hs.one;exact⟨v,b,rfl,h,hb⟩
theorem zIq {p:Prg}(b:Bool):TyV p yZ (zBN b):=.bool _ (by cases b<;>simp)
theorem zFG (n:Int) : -1099511627776≤zBE n∧zBE n≤1099511627776:=by
 unfold zBE;split
 ·omega
 ·split<;>omega
theorem zSV {a b:Int}(h1 : -1099511627776≤a)(h2:a≤1099511627776) : -1099511627776≤a.tdiv b∧a.tdiv b≤1099511627776:=by have h:=Int.natAbs_tdiv_le_natAbs a b;omega
theorem zU6 {a b:Int}(h1 : -1099511627776≤a)(h2:a≤1099511627776)(hm:a.tmod b≠0)(hb:b≠0) : -1099511627775≤a.tdiv b:=by
 have hn:a.natAbs / b.natAbs=(a.tdiv b).natAbs:=by rw[Int.natAbs_tdiv]; rfl
 have hb2:2≤b.natAbs:=by
  rcases jAn b.natAbs 2 with h | h
  ·exfalso;have:b=1∨b = -1:=by omega
   rcases this with rfl | rfl
   ·simp at hm
   ·exact hm (by rw[Int.tmod_neg,Int.tmod_one])
  ·exact h
 have:a.natAbs / b.natAbs≤a.natAbs / 2:=Nat.div_le_div_left hb2 (by omega);omega
theorem zQG {a:Int}(b:Int)(h1 : -1099511627776≤a)(h2:a≤1099511627776) : -1099511627776≤zI7 a b∧zI7 a b≤1099511627776:=by
 unfold zI7;have h:=zSV (b:=b) h1 h2;split
 ·omega
 ·rename_i hb;split
  ·rename_i hc;have:=zU6 h1 h2 hc.1 hb;omega
  ·omega
theorem zYN (a b:Int):zNT a b=if b=0 then 0 else if a.tmod b≠0∧¬(a<0↔b<0) then a.tmod b+b else a.tmod b:=by
 unfold zNT zI7;by_cases hb:b=0
 ·simp[hb]
 ·rw[if_neg hb,if_neg hb,if_neg hb];have:=Int.mul_tdiv_add_tmod a b;split
  ·rw[Int.mul_sub]; omega
  ·omega
theorem zLo {a b:Int}(h1 : -1099511627776≤b)(h2:b≤1099511627776) : -1099511627776≤zNT a b∧zNT a b≤1099511627776:=by
 rw[zYN];by_cases hb:b=0
 ·simp[hb]
 ·rw[if_neg hb];have h3:(a.tmod b).natAbs<b.natAbs:=by rw[Int.natAbs_tmod]; exact Nat.mod_lt _ (by omega)
  have h4:0≤a→0≤a.tmod b:=Int.tmod_nonneg b;have h5:a<0→a.tmod b≤0:=fun h=>by have:=Int.tmod_nonneg (a:=-a) b (by omega);rw[Int.neg_tmod]at this;omega
  split<;>omega
theorem zR0 {n a b:Int}(a1 : -1099511627776≤a)(a2:a≤1099511627776)(b1 : -1099511627776≤b)(b2:b≤1099511627776) : -1099511627776≤zLI n a b∧zLI n a b≤1099511627776:=by
 unfold zLI;split
 ·exact zFG _
 ·split
  ·exact zFG _
  ·split
   ·exact zFG _
   ·split
    ·exact zQG b a1 a2
    ·exact zLo b1 b2
theorem zDD:∀(l:List Val),l.length≤jG l
 | []=>by simp[jG]
 | .mk _ _ l'::l=>by have:=zDD l; simp only[jAl,jG,qD]; omega
theorem zWr {v:Val}(h:qD v≤256):v.kids.length≤255:=by
 cases v with
 | mk k n l =>
  have:=zDD l;simp only[qD]at h;simp only[Val.kids];omega
theorem qJo {p:Prg}{n:Int}{ts:List Typ}{t:Typ}(h:OpT n ts t){vs:List Val}(hv:TyL p ts vs)(hs:∀v∈vs,qD v≤256):TyV p t (opV n vs)∧qD (opV n vs)≤1000:=by
 cases h with
 | arith n h1 h2 =>
  obtain⟨a,b,rfl,ha,hb⟩:=hv.two;obtain⟨x,rfl,x1,x2⟩:=ha.int_inv;obtain⟨y,rfl,y1,y2⟩:=hb.int_inv;simp only[opV,if_pos h2];have:=zR0 (n:=n) x1 x2 y1 y2;exact⟨.int _ this.1 this.2,by simp[qD,jG]⟩
 | less =>
  obtain⟨a,b,rfl,ha,hb⟩:=hv.two;exact⟨zIq _,by simp[opV,zBN,qD,jG]⟩
 | same u =>
  obtain⟨a,b,rfl,ha,hb⟩:=hv.two;exact⟨zIq _,by simp[opV,zBN,qD,jG]⟩
 | andor n h =>
  obtain⟨a,b,rfl,ha,hb⟩:=hv.two;rcases h with rfl | rfl<;>exact⟨zIq _,by simp[opV,zBN,qD,jG]⟩
 | not =>
  obtain⟨a,rfl,ha⟩:=hv.one;exact⟨zIq _,by simp[opV,zBN,qD,jG]⟩
 | join t =>
  obtain⟨a,b,rfl,ha,hb⟩:=hv.two;obtain⟨x,rfl,hx⟩:=ha.list_inv;obtain⟨y,rfl,hy⟩:=hb.list_inv;refine⟨.list _ _ fun v hv=>?_,?_⟩
  ·rcases jAj.1 hv with h | h
   ·exact hx v h
   ·exact hy v h
  ·have h1:=hs (.mk 4 0 x) (by simp);have h2:=hs (.mk 4 0 y) (by simp);simp only[qD]at h1 h2;simp[opV,Val.kids,qD,zCc];omega
 | len t =>
  obtain⟨a,rfl,ha⟩:=hv.one;have:=zWr (hs a (by simp));exact⟨.int _ (by omega) (by omega),by simp[opV,qD,jG]⟩
inductive WE (p:Prg):List Bnd→Exp→Typ→Prop
 | int (env i n r u ns) (h1 : -1099511627776≤n) (h2:n≤1099511627776):WE p env (.mk i 0 n r u [] ns) zAW
 | bool (env i n r u ns) (h:n=0∨n=1):WE p env (.mk i 1 n r u [] ns) yZ
 | var (env i n r u ns t) (h:zE0 env r n=some t):WE p env (.mk i 2 n r u [] ns) t
 | call (env i n r u ks ns) (hn:ks.length≤32768) (d:Dfn) (hd:qW p.defs r=some d) (hk:d.kind=2) (hl:ks.length=(d.slots.map Slt.typ).length) (hw:∀(j:Nat) (hj:j<ks.length),WE p env ks[j] ((d.slots.map Slt.typ)[j]'(hl▸hj))) :
  WE p env (.mk i 3 n r u ks ns) d.res
 | op (env i n r u ks ns) (hn:ks.length≤32768) (ts:List Typ) (t:Typ) (ho:OpT n ts t) (hl:ks.length=ts.length) (hw:∀(j:Nat) (hj:j<ks.length),WE p env ks[j] (ts[j]'(hl▸hj))):WE p env (.mk i 4 n r u ks ns) t
 | ite (env i n r u a b c ns t) (ha:WE p env a yZ) (hb:WE p env b t) (hc:WE p env c t):WE p env (.mk i 5 n r u [a,b,c] ns) t
 | lets (env i n r u a b ns v t) (hf:∀x∈env,x.id≠i) (ha:WE p env a v) (hb:WE p (env++[⟨i,0,v⟩]) b t):WE p env (.mk i 6 n r u [a,b] ns) t
 | record (env i n r u ks ns) (hn:ks.length≤32768) (d:Dfn) (hd:qW p.defs r=some d) (hk:d.kind=0) (hl:ks.length=(d.slots.map Slt.typ).length) (hw:∀(j:Nat) (hj:j<ks.length),WE p env ks[j] ((d.slots.map Slt.typ)[j]'(hl▸hj))) :
  WE p env (.mk i 7 n r u ks ns) (jZ r)
 | field (env i r u a ns) (d:Dfn) (j:Nat) (hd:qW p.defs r=some d) (hk:d.kind=0) (hj:j<d.slots.length) (ha:WE p env a (jZ r)):WE p env (.mk i 8 j r u [a] ns) d.slots[j].typ
 | case (env i r u a ns) (d:Dfn) (j:Nat) (hd:qW p.defs r=some d) (hk:d.kind=1) (hj:j<d.slots.length) (ha:WE p env a d.slots[j].typ):WE p env (.mk i 9 j r u [a] ns) (jZ r)
 | mtch (env i n r u a ks ns) (d:Dfn) (t:Typ) (hf:∀x∈env,x.id≠i) (hd:qW p.defs r=some d) (hk:d.kind=1) (hl:ks.length=d.slots.length) (ha:WE p env a (jZ r))
  (hw:∀(j:Nat) (hj:j<ks.length),WE p (env++[⟨i,j,(d.slots[j]'(hl▸hj)).typ⟩]) ks[j] t):WE p env (.mk i 10 n r u (a::ks) ns) t
 | list (env i n r u ks ns t) (hn:ks.length≤32768) (hw:∀(j:Nat) (hj:j<ks.length),WE p env ks[j] t):WE p env (.mk i 11 n r u ks ns) (zDa t)
 | fold (env i n r u l s b ns v t) (hf:∀x∈env,x.id≠i) (hl:WE p env l (zDa v)) (hs:WE p env s t) (hb:WE p (env++[⟨i,0,v⟩]++[⟨i,1,t⟩]) b t):WE p env (.mk i 12 n r u [l,s,b] ns) t
theorem zKR (B:List Bnd)(b:Bnd)(x:Id)(n:Int):zE0 (B++[b]) x n=if b.id=x∧b.n=n then some b.typ else zE0 B x n:=by
 unfold zE0;rw[List.reverse_append,List.reverse_singleton,jD0,jD7];by_cases h1:b.id=x
 ·by_cases h2:b.n=n<;>simp[h1,h2]
 ·simp[h1]
inductive EnvT (p:Prg):List Bnd→List EVar→Prop
 | nil:EnvT p [] []
 | snoc (B:List Bnd) (V:List EVar) (b:Bnd) (v:EVar) (h:EnvT p B V) (hi:v.id=b.id) (hn:v.n=b.n) (ht:TyV p b.typ v.v) (hz:qD v.v≤256):EnvT p (B++[b]) (V++[v])
theorem EnvT.find {p:Prg}{B:List Bnd}{V:List EVar}(h:EnvT p B V){x:Id}{n:Int}{t:Typ}:zE0 B x n=some t→TyV p t (zEu V x n)∧qD (zEu V x n)≤256:=by
 induction h with
 | nil=>intro h; simp[zE0]at h
 | snoc B V b v h hi hn ht hz ih =>
  rw[zKR,zK6,hi,hn];split
  ·intro e; cases e; exact⟨ht,hz⟩
  ·exact ih
theorem EnvT.push {p:Prg}{B:List Bnd}{V:List EVar}(h:EnvT p B V){i:Id}{n:Int}{t:Typ}{v:Val}(ht:TyV p t v∧qD v≤256):EnvT p (B++[⟨i,n,t⟩]) (V++[⟨i,n,v⟩]):=.snoc _ _ _ _ h rfl rfl ht.1 ht.2
theorem EnvT.len {p:Prg}{B:List Bnd}{V:List EVar}(h:EnvT p B V):V.length=B.length:=by
 induction h with
 | nil=>rfl
 | snoc _ _ _ _ _ _ _ _ _ ih=>simp[ih]
theorem EnvT.ids {p:Prg}{B:List Bnd}{V:List EVar}(h:EnvT p B V){i:Id}:(∀b∈B,b.id≠i)→∀v∈V,v.id≠i:=by
 induction h with
 | nil=>simp
 | snoc B V b v h hi hn ht hz ih =>
  intro hb x hx;rcases jAj.1 hx with hx | hx
  ·exact ih (fun y hy=>hb y (jBh _ hy)) x hx
  ·rw[jAp.1 hx,hi];exact hb b (by simp)
theorem EnvT.args {p:Prg}:∀{ss:List Slt} {vs:List Val},TyL p (ss.map Slt.typ) vs→(∀v∈vs,qD v≤256)→EnvT p (ss.map fun s=>⟨s.id,0,s.typ⟩) (zCF ss vs):=by
 intro ss;induction ss using zG6 with
 | nil =>
  intro vs h _;cases h;exact .nil
 | snoc ss s ih =>
  intro vs h hz;have hl:=h.len;simp only[jB4,jA7,jC0]at hl;obtain⟨ws,w,rfl⟩:∃ws w,vs=ws++[w]:=⟨vs.dropLast,vs.getLast (fun e=>by rw[e]at hl; simp at hl),(List.dropLast_concat_getLast _).symm⟩;simp only[jA7,jC0]at hl;have h1:TyL p (ss.map Slt.typ) ws:=TyL.of (by simp; omega) fun j hj=>by have:=h.get j (by simp; omega) (by simp; omega);rw[jBs hj]at this;rw[jBk]at this ⊢;rw[jBs (by omega)]at this;exact this
  have h2:TyV p s.typ w:=by
   have:=h.get ss.length (by simp; omega) (by simp);rw[jCw (by omega)]at this
   simpa [show ss.length-ws.length=0 by omega] using this
  have e:zCF (ss++[s]) (ws++[w])=zCF ss ws++[⟨s.id,0,w⟩]:=by unfold zCF;rw[List.zipWith_append (by omega)];rfl
  rw[e,jCu];exact(ih h1 fun v hv=>hz v (jBh _ hv)).push ⟨h2,hz w (by simp)⟩
def zUB (p:Prg):Prop:=∀(r:Id) (d:Dfn),qW p.defs r=some d→zGV d=true→WE p (zVF d) d.body d.res
section
variable {p:Prg}{ev:Evl}
def zEq (ev:Evl):Prop:=∀e V s,s.fail≠0→ev e V s=(vz,s)
def Snd (p:Prg)(ev:Evl):Prop:=∀e B V s t,WE p B e t→EnvT p B V→(ev e V s).2.fail=0→TyV p t (ev e V s).1∧qD (ev e V s).1≤256
theorem zGq (h:zEq ev)(V:List EVar):∀(l:List Exp) (s:XS),s.fail≠0→(qZ ev V l s).2=s
 | [],s,_=>rfl
 | e::l,s,hs=>by simp only[qZ,h e V s hs]; exact zGq h V l s hs
theorem zSg (h:zEq ev){V:List EVar}{e:Exp}{l:List Exp}{s:XS}(hs:(qZ ev V (e::l) s).2.fail=0):(ev e V s).2.fail=0:=by
 by_cases hf:(ev e V s).2.fail=0
 ·exact hf
 ·simp only[qZ]at hs;rw[zGq h V l _ hf]at hs;exact hs
theorem zD3 (h:zEq ev)(V:List EVar)(i:Id)(b:Exp):∀(l:List Val) (r:Val×XS),r.2.fail≠0→(yF ev V i b l r).2=r.2
 | [],r,_=>rfl
 | x::l,r,hs=>by simp only[yF,h _ _ _ hs];exact zD3 h V i b l _ hs
theorem zEE (h:zEq ev)(k:Snd p ev){B:List Bnd}{V:List EVar}(hV:EnvT p B V):∀(l:List Exp) (ts:List Typ) (s:XS) (hl:l.length=ts.length),(∀(j:Nat) (hj:j<l.length),WE p B l[j] (ts[j]'(hl▸hj))) →
 (qZ ev V l s).2.fail=0→TyL p ts (qZ ev V l s).1∧∀v∈(qZ ev V l s).1,qD v≤256
 | [],[],s,_,_,_=>⟨.nil,by simp[qZ]⟩
 | [],t::ts,s,hl,_,_=>by simp at hl
 | e::l,[],s,hl,_,_=>by simp at hl
 | e::l,t::ts,s,hl,hw,hs=>by
  have h1:=k e B V s t (hw 0 (by simp)) hV (zSg h hs);have h2:=zEE h k hV l ts (ev e V s).2 (by simpa using hl) (fun j hj=>hw (j+1) (by simpa using hj)) (by simpa only[qZ] using hs);simp only[qZ];refine⟨.cons _ _ _ _ h1.1 h2.1,fun v hv=>?_⟩;rcases jA6.1 hv with rfl | hv
  ·exact h1.2
  ·exact h2.2 v hv
theorem zK8 (h:zEq ev)(k:Snd p ev){B:List Bnd}{V:List EVar}(hV:EnvT p B V){i:Id}{b:Exp}{u t:Typ}(hb:WE p (B++[⟨i,0,u⟩]++[⟨i,1,t⟩]) b t):∀(l:List Val) (r:Val×XS),(∀x∈l,TyV p u x∧qD x≤256) →
 (r.2.fail=0→TyV p t r.1∧qD r.1≤256)→(yF ev V i b l r).2.fail=0→TyV p t (yF ev V i b l r).1∧qD (yF ev V i b l r).1≤256
 | [],r,_,hr,hs=>hr hs
 | x::l,r,hl,hr,hs=>by
  simp only[yF]at hs ⊢;have h0:r.2.fail=0:=by
   by_cases hf:r.2.fail=0
   ·exact hf
   ·have e:=zD3 h V i b l (vz,r.2) hf;rw[h _ _ _ hf,e]at hs;exact hs
  exact zK8 h k hV hb l _ (fun y hy=>hl y (jAf _ hy)) (fun hf=>k b _ _ _ t hb ((hV.push (hl x (by simp))).push (hr h0)) hf) hs
theorem zFx {c:Bool}{s:XS}{v:Val}(h:s.fail=0):zf c s v=v:=by simp[zf,h]
theorem zWW {v:Val}(h:qD v≤10000000)(hb:¬zJD v):qD v≤256:=by have h1:=zNb v (by omega);unfold zJD at hb;omega
theorem zEz {v x:Val}(h:qD v≤256)(hx:x∈v.kids):qD x≤256:=by have:=zAG hx; omega
theorem zQb {l:List Val}(h:∀v∈l,qD v≤256)(hl:l.length≤32768):jG l≤8388608:=by have:=zU0 h;have:l.length*256≤32768*256:=jBc _ hl;omega
theorem up {t:Typ}{v:Val}(h:TyV p t v∧qD v≤256):TyV p t v∧qD v≤10000000:=⟨h.1,by omega⟩
theorem zXl (hp:zUB p)(fl:Nat)(h:zEq ev)(k:Snd p ev){e:Exp}{B:List Bnd}{V:List EVar}{s:XS}{t:Typ}(he:WE p B e t)(hV:EnvT p B V)(hs:(qV p fl ev e V s).2.fail=0):TyV p t (qV p fl ev e V s).1∧qD (qV p fl ev e V s).1≤10000000:=by
 cases he with
 | int _ i n r u ns h1 h2=>exact⟨.int n h1 h2,by simp[qV,qD,jG]⟩
 | bool _ i n r u ns h=>exact⟨.bool n h,by simp[qV,qD,jG]⟩
 | var _ i n r u ns _ h =>
  have:=hV.find h;exact⟨this.1,by simp only[qV]; simp; omega⟩
 | call _ i n r u ks ns hn d hd hk hl hw =>
  have e:qV p fl ev (.mk i 3 n r u ks ns) V s=zB5 ev d (qZ ev V ks s).1 (qZ ev V ks s).2:=by simp[qV,dfn,hd]
  rw[e]at hs ⊢;unfold zB5 at hs ⊢;by_cases hf:(qZ ev V ks s).2.fail=0
  ·rw[if_neg (by simp[hf])]at hs ⊢;have ha:=zEE h k hV ks _ s hl hw hf;exact up (k _ _ _ _ _ (hp r d hd (by simp[zGV,hk])) (EnvT.args ha.1 ha.2) hs)
  ·rw[if_pos hf]at hs;exact(hf hs).elim
 | op _ i n r u ks ns hn ts _ ho hl hw =>
  have e:qV p fl ev (.mk i 4 n r u ks ns) V s=(zf true (qZ ev V ks s).2 (opV n (qZ ev V ks s).1),(qZ ev V ks s).2):=by simp[qV]
  rw[e]at hs ⊢;have ha:=zEE h k hV ks _ s hl hw hs;rw[zFx hs];have:=qJo ho ha.1 ha.2;exact⟨this.1,by simp only; omega⟩
 | record _ i n r u ks ns hn d hd hk hl hw =>
  have e:qV p fl ev (.mk i 7 n r u ks ns) V s=(zf (fl==1) (qZ ev V ks s).2 (.mk 2 0 (qZ ev V ks s).1),(qZ ev V ks s).2):=by simp[qV]
  rw[e]at hs ⊢;obtain⟨ha,hz⟩:=zEE h k hV ks _ s hl hw hs;rw[zFx hs];have hlen:=ha.len;rw[jB4]at hlen;refine⟨.record _ d _ hd hk hlen fun j hj=>?_,by have:=zQb hz (by rw[zCq]; exact hn); simp only[qD]; omega⟩;have:=ha.get j hj (by rw[jB4]; omega)
  rwa [jBk]at this
 | case _ i r u a ns d j hd hk hj ha =>
  have e:qV p fl ev (.mk i 9 j r u [a] ns) V s=(zf (fl==1) (ev a V s).2 (.mk 3 j [(ev a V s).1]),(ev a V s).2):=by simp[qV,qZ]
  rw[e]at hs ⊢;rw[zFx hs];have:=k a B V s _ ha hV hs;exact⟨.case _ d j _ hd hk hj this.1,by simp only[qD,jG]; omega⟩
 | list _ i n r u ks ns t hn hw =>
  have e:qV p fl ev (.mk i 11 n r u ks ns) V s=(zf (fl==1) (qZ ev V ks s).2 (.mk 4 0 (qZ ev V ks s).1),(qZ ev V ks s).2):=by simp[qV]
  rw[e]at hs ⊢;obtain⟨ha,hz⟩:=zEE h k hV ks (List.replicate ks.length t) s (by simp) (fun j hj=>by rw[List.getElem_replicate]; exact hw j hj) hs;rw[zFx hs];refine⟨.list _ _ fun v hv=>?_,by have:=zQb hz (by rw[zCq]; exact hn); simp only[qD]; omega⟩;obtain⟨j,hj,rfl⟩:=jB0 hv;have:=ha.get j hj (by rw[←ha.len]; exact hj)
  rwa [List.getElem_replicate]at this
 | ite _ i n r u a b c ns _ ha hb hc =>
  have e:qV p fl ev (.mk i 5 n r u [a,b,c] ns) V s=if (ev a V s).2.fail≠0 then (vz,(ev a V s).2) else ev ([a,b,c].getD (if (ev a V s).1.n=1 then 1 else 2) .zero) V (ev a V s).2:=by simp[qV,zAn]
  rw[e]at hs ⊢;by_cases hf:(ev a V s).2.fail=0
  ·rw[if_neg (by simp[hf])]at hs ⊢;by_cases hn:(ev a V s).1.n=1
   ·simp only[if_pos hn]at hs ⊢;exact up (k b B V _ _ hb hV hs)
   ·simp only[if_neg hn]at hs ⊢;exact up (k c B V _ _ hc hV hs)
  ·rw[if_pos hf]at hs;exact(hf hs).elim
 | lets _ i n r u a b ns v _ hfr ha hb =>
  have e:qV p fl ev (.mk i 6 n r u [a,b] ns) V s=if (ev a V s).2.fail≠0 then (vz,(ev a V s).2) else ev b (V++[⟨i,0,(ev a V s).1⟩]) (ev a V s).2:=by simp[qV,zAn]
  rw[e]at hs ⊢;by_cases hf:(ev a V s).2.fail=0
  ·rw[if_neg (by simp[hf])]at hs ⊢;exact up (k b _ _ _ _ hb (hV.push (k a B V s _ ha hV hf)) hs)
  ·rw[if_pos hf]at hs;exact(hf hs).elim
 | field _ i r u a ns d j hd hk hj ha =>
  have e:qV p fl ev (.mk i 8 j r u [a] ns) V s=if (ev a V s).2.fail≠0 then (vz,(ev a V s).2) else ((ev a V s).1.kids.getD j vz,(ev a V s).2):=by simp[qV,zAn]
  rw[e]at hs ⊢;by_cases hf:(ev a V s).2.fail=0
  ·rw[if_neg (by simp[hf])]at hs ⊢;obtain⟨hty,hz⟩:=k a B V s _ ha hV hf;rcases hty.def_inv hd with ⟨_,vs,hl,h1,h2⟩ | ⟨h1,_⟩
   ·rw[h1]at hz ⊢;have hjl:j<vs.length:=by omega
    simp only[Val.kids,jBm,jA2 hjl,jBe];exact up ⟨h2 j hjl,zEz hz (jA3 hjl)⟩
   ·omega
  ·rw[if_pos hf]at hs;exact(hf hs).elim
 | mtch _ i n r u a ks ns d _ hfr hd hk hl ha hw =>
  have e:qV p fl ev (.mk i 10 n r u (a::ks) ns) V s=if (ev a V s).2.fail≠0 then (vz,(ev a V s).2) else ev ((a::ks).getD (1+(ev a V s).1.n).toNat .zero) (V++[⟨i,(ev a V s).1.n,(ev a V s).1.kids.headD vz⟩]) (ev a V s).2:=by simp[qV,zAn]
  rw[e]at hs ⊢;by_cases hf:(ev a V s).2.fail=0
  ·rw[if_neg (by simp[hf])]at hs ⊢;obtain⟨hty,hz⟩:=k a B V s _ ha hV hf;rcases hty.def_inv hd with ⟨h1,_⟩ | ⟨_,m,x,hm,h1,h2⟩
   ·omega
   ·have hmk:m<ks.length:=by omega
    have e2:(1+(m:Int)).toNat=m+1:=by omega
    rw[h1]at hs hz ⊢;simp only[Val.n,Val.kids,List.headD_cons,e2,List.getD_cons_succ,jBm,jBf,jA2 hmk,jBe]at hs ⊢;exact up (k _ _ _ _ _ (hw m hmk) (hV.push ⟨h2,zEz hz (by simp[Val.kids])⟩) hs)
  ·rw[if_pos hf]at hs;exact(hf hs).elim
 | fold _ i n r u l s' b ns v _ hfr hl' hs' hb =>
  have e:qV p fl ev (.mk i 12 n r u [l,s',b] ns) V s=if (ev l V s).2.fail≠0 then (vz,(ev l V s).2) else yF ev V i b (ev l V s).1.kids (ev s' V (ev l V s).2):=by simp[qV,zAn]
  rw[e]at hs ⊢;by_cases hf:(ev l V s).2.fail=0
  ·rw[if_neg (by simp[hf])]at hs ⊢;obtain⟨hty,hz⟩:=k l B V s _ hl' hV hf;obtain⟨vs,h1,h2⟩:=hty.list_inv;rw[h1]at hs hz ⊢;exact up (zK8 h k hV hb vs _ (fun x hx=>⟨h2 x hx,zEz hz hx⟩) (fun hg=>k s' B V _ _ hs' hV hg) hs)
  ·rw[if_pos hf]at hs;exact(hf hs).elim
theorem zD7 (p:Prg)(fl:Nat):∀m,zEq (zAq p fl m)
 | 0=>fun e V s h=>by rw[zAq,if_pos h]
 | m+1=>fun e V s h=>by rw[zAq,if_pos h]
theorem zHY (hp:zUB p)(fl:Nat):∀m,Snd p (zAq p fl m)
 | 0=>fun e B V s t he hV hs=>by
  rw[zAq]at hs;split at hs
  ·rename_i h; exact(h hs).elim
  ·simp[zFK]at hs
 | m+1=>fun e B V s t he hV hs=>by
  rw[zAq]at hs ⊢;split at hs
  ·rename_i h; exact(h hs).elim
  ·split at hs
   ·simp[zFK]at hs
   ·rename_i h1 h2;rw[if_neg h1,if_neg h2];simp only[zOL]at hs ⊢;have hk:zDi (qV p fl (zAq p fl m) e V (zEc e s))=(qV p fl (zAq p fl m) e V (zEc e s)).2∧(qV p fl (zAq p fl m) e V (zEc e s)).2.fail=0∧¬zJD (qV p fl (zAq p fl m) e V (zEc e s)).1:=by
     unfold zDi at hs ⊢;split at hs
     ·simp[zNx]at hs
     ·rename_i h3;rw[if_neg h3];exact⟨rfl,hs,fun hb=>h3 ⟨hs,hb⟩⟩
    rw[zFx hs];have:=zXl hp fl (zD7 p fl m) (zHY hp fl m) he hV hk.2.1;exact⟨this.1,zWW this.2 hk.2.2⟩
end
structure Gm where
 at_:Int
 next:Int
def Gm.tick (m:Gm):Gm:=⟨m.at_+1,m.next⟩
def yK (m:Gm)(k n:Int)(r:Id)(ks:List Exp):Exp×Gm:=(.mk (idR m.next) k n r .zero ks [],⟨m.at_,m.next+1⟩)
def zLC (m:Gm)(k:Nat)(d s:Id):Exp×Gm:=yK (yK m 2 0 s []).2 8 k d [(yK m 2 0 s []).1]
def zF0 (n:Nat)(x:Int)(i:Nat):Nat:=(i+x.toNat) % n
def zGN (ss:List Slt)(t x:Int):Option Nat :=
 if 4<x then ((List.range ss.length).find? fun i=>match ss[zF0 ss.length x i]? with | some s=>decide (s.typ.k=t) | none=>false).map (zF0 ss.length x) else none
theorem zK7 {ss:List Slt}{t x:Int}{k:Nat}(h:zGN ss t x=some k):∃s,ss[k]?=some s∧s.typ.k=t:=by
 unfold zGN at h;split at h
 ·rw[jAb]at h;obtain⟨i,h1,rfl⟩:=h;have h2:=List.find?_some h1;split at h2
  ·exact⟨_,by assumption,by simpa using h2⟩
  ·cases h2
 ·cases h
section
variable (l:List Int)
def gN (m:Gm)(n:Int):Int:=atV l m.at_ n
def zFR (t:Int)(m:Gm):Exp×Gm:=if t=1 then yK m.tick 1 (gN l m 2) Id.zero [] else yK m.tick 0 (gN l m 4-1) Id.zero []
def zT6 (f:Gm→Exp×Gm)(m:Gm)(n:Int):Exp×Gm:=yK (f (f m).2).2 4 n Id.zero [(f m).1,(f (f m).2).1]
def gIf (f g:Gm→Exp×Gm)(m:Gm):Exp×Gm:=yK (g (g (f m).2).2).2 5 0 Id.zero [(f m).1,(g (f m).2).1,(g (g (f m).2).2).1]
def zES (d:Dfn)(s:Id)(t:Int)(m:Gm):Exp×Gm :=
 match zGN d.slots t (gN l m 12)with
 | some k=>zLC m.tick k d.id s
 | none=>zFR l t m.tick
def zA8 (d:Dfn)(s:Id):Nat→Int→Gm→Exp×Gm
 | 0,t,m=>zES l d s t m
 | n+1,t,m =>
  match zGN d.slots t (gN l m 12)with
  | some k=>zLC m.tick k d.id s
  | none =>
   if gN l m 12<3∧t=0 then zT6 (zA8 d s n t) m.tick (gN l m 12)
   else if gN l m 12<2 then zT6 (zA8 d s n t) m.tick (7+gN l m 12)
   else if gN l m 12=3 then gIf (zES l d s 1) (zA8 d s n t) m.tick
   else zFR l t m.tick
def zGA (to from_:Dfn)(s:Id)(i:Nat)(m:Gm):Exp×Gm :=
 match to.slots[i]?,from_.slots[i]? with
 | some u,some v=>if v.typ.k=u.typ.k then (if 0<gN l m 3 then zLC m.tick i from_.id s else zA8 l from_ s 2 u.typ.k m.tick) else zA8 l from_ s 2 u.typ.k m
 | some u,none=>zA8 l from_ s 2 u.typ.k m
 | none,_=>(.zero,m)
def zBI (to from_:Dfn)(s:Id):Nat→Gm→List Exp×Gm
 | 0,m=>([],m)
 | n+1,m=>((zBI to from_ s n m).1++[(zGA l to from_ s n (zBI to from_ s n m).2).1],(zGA l to from_ s n (zBI to from_ s n m).2).2)
def zET (to from_:Dfn)(s:Id)(m:Gm):Exp×Gm:=yK (zBI l to from_ s to.slots.length m).2 7 0 to.id (zBI l to from_ s to.slots.length m).1
theorem zEv (to from_:Dfn)(s:Id)(m:Gm):∀n,(zBI l to from_ s n m).1.length=n
 | 0=>rfl
 | n+1=>by simp[zBI,zEv to from_ s m n]
def tK (t:Int):Typ:=if t=1 then yZ else zAW
structure Flat (p:Prg)(d:Dfn):Prop where
 find:qW p.defs d.id=some d
 kind:d.kind=0
 flat:∀s∈d.slots,s.typ=zAW∨s.typ=yZ
 few:d.slots.length≤6
theorem Flat.typ {p:Prg}{d:Dfn}(h:Flat p d){s:Slt}(hs:s∈d.slots):s.typ=tK s.typ.k∧(s.typ.k=0∨s.typ.k=1):=by rcases h.flat s hs with e | e<;>rw[e]<;>simp[tK,Typ.k]
end
def zZm (p:Prg)(t:Typ):Prop:=t=zAW∨t=yZ∨∃d,Flat p d∧t=jZ d.id
inductive WF (p:Prg)(B:List Bnd):Exp→Typ→Prop
 | int (i n r u ns) (h1 : -1099511627776≤n) (h2:n≤1099511627776):WF p B (.mk i 0 n r u [] ns) zAW
 | bool (i n r u ns) (h:n=0∨n=1):WF p B (.mk i 1 n r u [] ns) yZ
 | var (i n r u ns t) (h:zE0 B r n=some t) (ht:zZm p t):WF p B (.mk i 2 n r u [] ns) t
 | arith (i n r u a b ns) (h1:0≤n) (h2:n≤4) (ha:WF p B a zAW) (hb:WF p B b zAW):WF p B (.mk i 4 n r u [a,b] ns) zAW
 | andor (i n r u a b ns) (h:n=7∨n=8) (ha:WF p B a yZ) (hb:WF p B b yZ):WF p B (.mk i 4 n r u [a,b] ns) yZ
 | ite (i n r u a b c ns t) (ha:WF p B a yZ) (hb:WF p B b t) (hc:WF p B c t):WF p B (.mk i 5 n r u [a,b,c] ns) t
 | record (i n r u ks ns) (hn:ks.length≤32768) (d:Dfn) (hd:Flat p d) (hr:d.id=r) (hl:ks.length=(d.slots.map Slt.typ).length) (hw:∀(j:Nat) (hj:j<ks.length),WF p B ks[j] ((d.slots.map Slt.typ)[j]'(hl▸hj))) :
  WF p B (.mk i 7 n r u ks ns) (jZ r)
 | field (i r u a ns) (d:Dfn) (j:Nat) (hd:Flat p d) (hr:d.id=r) (hj:j<d.slots.length) (ha:WF p B a (jZ r)):WF p B (.mk i 8 j r u [a] ns) d.slots[j].typ
theorem WF.flat {p:Prg}{B:List Bnd}{e:Exp}{t:Typ}(h:WF p B e t):zZm p t:=by
 induction h with
 | int=>exact .inl rfl
 | bool=>exact .inr (.inl rfl)
 | var _ _ _ _ _ _ _ ht=>exact ht
 | arith=>exact .inl rfl
 | andor=>exact .inr (.inl rfl)
 | ite _ _ _ _ _ _ _ _ _ _ _ _ _ h _=>exact h
 | record _ _ _ _ _ _ _ d hd hr _ _ _=>exact .inr (.inr ⟨d,hd,by rw[hr]⟩)
 | field _ _ _ _ _ d j hd _ hj _ _ =>
  rcases hd.flat _ (jA3 hj)with e | e<;>rw[e]
  ·exact .inl rfl
  ·exact .inr (.inl rfl)
theorem WF.we {p:Prg}{B:List Bnd}{e:Exp}{t:Typ}(h:WF p B e t):WE p B e t:=by
 induction h with
 | int i n r u ns h1 h2=>exact .int _ _ _ _ _ _ h1 h2
 | bool i n r u ns h=>exact .bool _ _ _ _ _ _ h
 | var i n r u ns t h ht=>exact .var _ _ _ _ _ _ _ h
 | arith i n r u a b ns h1 h2 _ _ ha hb =>
  exact .op _ _ _ _ _ _ _ (by simp) [zAW,zAW] zAW (.arith n h1 h2) rfl fun j hj=>by
   match j,hj with
   | 0,_=>exact ha
   | 1,_=>exact hb
 | andor i n r u a b ns h _ _ ha hb =>
  exact .op _ _ _ _ _ _ _ (by simp) [yZ,yZ] yZ (.andor n h) rfl fun j hj=>by
   match j,hj with
   | 0,_=>exact ha
   | 1,_=>exact hb
 | ite _ _ _ _ _ _ _ _ _ _ _ _ ha hb hc=>exact .ite _ _ _ _ _ _ _ _ _ _ ha hb hc
 | record i n r u ks ns hn d hd hr hl _ ih=>subst hr; exact .record _ _ _ _ _ _ _ hn d hd.find hd.kind hl ih
 | field i r u a ns d j hd hr hj _ ih=>subst hr; exact .field _ _ _ _ _ _ d j hd.find hd.kind hj ih
theorem zPi {l:List Int}(hl:∀x∈l,w64 x=x){p:Prg}(m:Gm){t:Int}(ht:t=0∨t=1)(B:List Bnd):WF p B (zFR l t m).1 (tK t):=by
 have h4:=zBY hl (i:=m.at_) (most:=4) (by omega);have h2:=zBY hl (i:=m.at_) (most:=2) (by omega);rcases ht with rfl | rfl
 ·exact .int _ _ _ _ _ (by unfold gN; omega) (by unfold gN; omega)
 ·exact .bool _ _ _ _ _ (by unfold gN; omega)
theorem zS0 {p:Prg}{f:Gm→Exp×Gm}{B:List Bnd}{t:Int}(ht:t=0∨t=1)(hf:∀m,WF p B (f m).1 (tK t)){n:Int}(hn:t=0∧0≤n∧n≤4∨t=1∧(n=7∨n=8))(m:Gm):WF p B (zT6 f m n).1 (tK t):=by
 rcases hn with ⟨rfl,h⟩ | ⟨rfl,h⟩
 ·exact .arith _ _ _ _ _ _ _ h.1 h.2 (hf _) (hf _)
 ·exact .andor _ _ _ _ _ _ _ h (hf _) (hf _)
section
variable {l:List Int}(hl:∀x∈l,w64 x=x){p:Prg}{d:Dfn}(hd:Flat p d)(s:Id)
include hd
theorem zN5 (m:Gm){k:Nat}{u:Slt}(hk:d.slots[k]?=some u):WF p [⟨s,0,jZ d.id⟩] (zLC m k d.id s).1 u.typ:=by obtain⟨hk',rfl⟩:=jA1.1 hk;exact .field _ _ _ _ _ d k hd rfl hk' (.var _ _ _ _ _ _ (by simp[zE0]) (.inr (.inr ⟨d,hd,rfl⟩)))
include hl
theorem zMy (m:Gm){t:Int}(ht:t=0∨t=1):WF p [⟨s,0,jZ d.id⟩] (zES l d s t m).1 (tK t):=by
 unfold zES;split
 ·rename_i k hk;obtain⟨u,h1,h2⟩:=zK7 hk;have h3:=zN5 hd s m.tick h1;rw[(hd.typ (jC1 h1)).1,h2]at h3;exact h3
 ·exact zPi hl _ ht _
theorem zEw:∀(n:Nat) (m:Gm) {t:Int},t=0∨t=1→WF p [⟨s,0,jZ d.id⟩] (zA8 l d s n t m).1 (tK t)
 | 0,m,_,ht=>zMy hl hd s m ht
 | n+1,m,t,ht=>by
  have h12:0≤gN l m 12∧gN l m 12<12:=zBY hl (by omega);unfold zA8;split
  ·rename_i k hk;obtain⟨u,h1,h2⟩:=zK7 hk;have h3:=zN5 hd s m.tick h1;rw[(hd.typ (jC1 h1)).1,h2]at h3;exact h3
  ·split
   ·rename_i h;exact zS0 ht (fun m=>zEw n m ht) (.inl ⟨h.2,h12.1,by omega⟩) _
   ·split
    ·rename_i h0 h;have ht1:t=1:=by rcases ht with rfl | rfl; exact(h0 ⟨by omega,rfl⟩).elim; rfl
     exact zS0 ht (fun m=>zEw n m ht) (.inr ⟨ht1,by omega⟩) _
    ·split
     ·exact .ite _ _ _ _ _ _ _ _ _ (zMy hl hd s _ (.inr rfl)) (zEw n _ ht) (zEw n _ ht)
     ·exact zPi hl _ ht _
theorem zYn {to:Dfn}(hto:Flat p to){i:Nat}(hi:i<to.slots.length)(m:Gm):WF p [⟨s,0,jZ d.id⟩] (zGA l to d s i m).1 to.slots[i].typ:=by
 have h1:=hto.typ (jA3 hi);have hp:=fun m=>zEw hl hd s 2 m h1.2
 rw[←h1.1]at hp;unfold zGA;rw[jA2 hi];cases hv:d.slots[i]? with
 | none=>exact hp _
 | some v =>
  simp only;split
  ·rename_i e;split
   ·have h3:=zN5 hd s m.tick hv;have h4:=(hd.typ (jC1 hv)).1;rw[h4,e,←h1.1]at h3;exact h3
   ·exact hp _
  ·exact hp _
theorem zPg {to:Dfn}(hto:Flat p to)(m:Gm):∀(n:Nat),n≤to.slots.length→∀(j:Nat) (hj:j<(zBI l to d s n m).1.length) (hj':j<to.slots.length),WF p [⟨s,0,jZ d.id⟩] (zBI l to d s n m).1[j] to.slots[j].typ
 | 0,_,j,hj,_=>by simp[zBI]at hj
 | n+1,hn,j,hj,hj'=>by
  have hlen:=zEv l to d s m n;by_cases h:j<n
  ·have:=zPg hto m n (by omega) j (by omega) hj';simp only[zBI];rw[jBs (by omega)];exact this
  ·have hjn:j=n:=by rw[zEv]at hj; omega
   subst hjn;simp only[zBI];rw[jCw (by omega)];simp only[hlen,jBx,jDg];exact zYn hl hd s hto hj' _
theorem zN6 {to:Dfn}(hto:Flat p to)(m:Gm):WF p [⟨s,0,jZ d.id⟩] (zET l to d s m).1 (jZ to.id):=by
 have hlen:=zEv l to d s m to.slots.length;have h6:=hto.few;exact .record _ _ _ _ _ _ (by omega) to hto rfl (by simp[hlen]) fun j hj=>by rw[jBk];exact zPg hl hd s hto m _ (jA _) j hj (by omega)
end
def isS (s:Id)(k:Exp):Bool:=decide (k.k=2)&&decide (k.ref=s)
mutual
def zEp (s:Id):Exp→Bool→Bool
 | .mk _ k _ r _ ks _,field=>(decide (k=2)&&decide (r=s)&&!field)||zCj s (decide (k=8)) ks
def zCj (s:Id)(f:Bool):List Exp→Bool
 | []=>false
 | e::l=>zEp s e (f&&isS s e)||zCj s f l
end
mutual
def zIL (s:Id):Exp→List Int
 | .mk _ k n _ _ ks _=>zHo s (decide (k=8)) n ks
def zHo (s:Id)(f:Bool)(n:Int):List Exp→List Int
 | []=>[]
 | e::l=>(if (f&&isS s e)=true then [n] else [])++zIL s e++zHo s f n l
end
def qOU:List Int→Int→List Int
 | [],n=>[n]
 | x::l,n=>if x<n then x::qOU l n else if x=n then x::l else n::x::l
structure Bn (c:Nat)(m:Int)(s:XS):Prop where
 ns:s.ns.length+s.fuel.toNat≤c
 ds:s.ds.length+s.fuel.toNat≤c
 fu:s.fuel≤m
structure Bd (c:Nat)(m:Int)(s:XS):Prop where
 ns:s.ns.length+s.fuel.toNat≤c
 ds:s.ds.length+s.fuel.toNat≤c
 fu:s.fuel≤m
 ok:s.fail=0→s.ds.length+s.fuel.toNat+1≤c
theorem Bd.mono {c:Nat}{m m':Int}{s:XS}(h:Bd c m s)(hm:m≤m'):Bd c m' s:=⟨h.ns,h.ds,by have:=h.fu; omega,h.ok⟩
theorem Bn.fail {c:Nat}{m:Int}{s:XS}(h:Bn c m s){x:Int}(hx:x≠0):Bd c m {s with fail:=x}:=⟨h.ns,h.ds,h.fu,fun e=>(hx e).elim⟩
theorem Bn.tick {c:Nat}{m:Int}{s:XS}(h:Bn c m s)(e:Exp)(hf:¬s.fuel≤0):Bd c (m-1) (zEc e s):=by obtain⟨h1,h2,h3⟩:=h;unfold zEc;exact⟨by simp only[List.length_append,List.length_singleton]; omega,by dsimp only; omega,by dsimp only; omega,fun _=>by dsimp only; omega⟩
theorem Bd.def {c:Nat}{m:Int}{s:XS}(h:Bd c m s)(d:Id)(hf:s.fail=0):Bn c m {s with ds:=s.ds++[d]}:=by have:=h.ok hf;exact⟨h.ns,by simp only[jA7,jC0]; omega,h.fu⟩
section
variable {p:Prg}{ev:Evl}{c:Nat}{m:Int}
end
def Eqv (r r':Val×XS):Prop:=r.2=r'.2∧(r.2.fail=0→r.1=r'.1)
theorem Eqv.rfl' (r:Val×XS):Eqv r r:=⟨rfl,fun _=>rfl⟩
theorem Eqv.eq {r r':Val×XS}(h:Eqv r r')(hf:r.2.fail=0):r'=r:=Prod.ext (h.2 hf).symm h.1.symm
section
variable {p:Prg}{f g:Evl}
end
def qFP:K:=G [kMi 2 0] (G [M 3 0,⟨none,.mm (some 4) true [(kt 3),(kc (-1099511627776))]⟩,⟨none,.mm (some 5) false [(kt 4),(kc 1099511627776)]⟩,M 2 5] kr)
theorem qMO:zO prog Tryz.f227.ntmps (Tryz.f227.body.getD .skip)=some qFP.erase:=by kernel_rfl
@[simp] theorem qNz:zA prog 227=true:=by kernel_rfl
theorem zOJ (n:Int):Ret prog 227 [int n] [] (int (zBE n)) []:=by
 refine zK Tryz.func227 rfl qMO (rs:=[.slot 2]) (by kernel_rfl) ?_;unfold qFP;by_cases h1:n < -1099511627776
 ·simp[h1];exact zB 0 (by simp[zBE,h1,show ¬1099511627776<n by omega])
 ·by_cases h2:1099511627776<n
  ·simp[h1,h2];exact zB 0 (by simp[zBE,h2])
  ·simp[h1,h2];exact zB 0 (by simp[zBE,h1,h2])
def qFZ:K:=G [kZ 2 [ki,ki,kl]] (Z (G [M 3 0] (Y 3 (G [kb 4 [ki,ki,kl] [(0,1,(kc 1)),(1,1,(kc 1))],S 2 4 3] kr) ks)) (G [kb 5 [ki,ki,kl] [(0,1,(kc 1))],S 2 5 3] kr))
theorem qMY:zO prog Tryz.f174.ntmps (Tryz.f174.body.getD .skip)=some qFZ.erase:=by kernel_rfl
@[simp] theorem qNA:zA prog 174=true:=by kernel_rfl
theorem zAE (b:Bool):Ret prog 174 [bl b] [] (.agg (zC (zBN b))) []:=by
 refine zK Tryz.func174 rfl qMY (rs:=[.cell 2 3 true]) (by kernel_rfl) ?_;unfold qFZ;cases b with
 | true =>
  simp;exact zB 0 (by simp[zC,zBN,Val.k,Val.n,Val.kids])
 | false =>
  simp;exact zB 0 (by simp[zC,zBN,Val.k,Val.n,Val.kids])
def Rng (a:Int):Prop:=-1099511627776≤a∧a≤1099511627776
def qFU:K:=G [kMi 4 0] (G [M 5 0,M 6 1,kB 7 5 6 .add,kC 8 227 [(kt 7)],M 4 8] kr)
theorem qMT:zO prog Tryz.f226.ntmps (Tryz.f226.body.getD .skip)=some qFU.erase:=by kernel_rfl
@[simp] theorem qN5:zA prog 226=true:=by kernel_rfl
def qFV:K:=G [kMi 4 0] (G [M 5 0,M 6 1,kB 7 5 6 .sub,kC 8 227 [(kt 7)],M 4 8] kr)
theorem qMU:zO prog Tryz.f228.ntmps (Tryz.f228.body.getD .skip)=some qFV.erase:=by kernel_rfl
@[simp] theorem qN6:zA prog 228=true:=by kernel_rfl
def qFY:K:=G [kMi 4 0] (Z (G [M 5 0,kQi 6 5 0 false,M 7 6,T 7 false (M 8 1),T 7 false (kQi 9 8 0 false),kPt 10 7 9] (Y 10 (G [kMi 4 0] kr) ks)) (Z (G [M 11 0,M 12 0,⟨none,.neg (some 13) (kt 12)⟩,⟨none,.mm (some 14) true [(kt 11),(kt 13)]⟩,M 15 1,M 16 1,⟨none,.neg (some 17) (kt 16)⟩,⟨none,.mm (some 18) true [(kt 15),(kt 17)]⟩,⟨none,.bin (some 19) .quo (kc 1099511627776) (kt 18)⟩,kB 20 14 19 .gtr] (Y 20 (Z (G [M 21 0,kBi 22 21 0 .lss,M 23 1,kBi 24 23 0 .lss,⟨none,.eqv (some 25) false .b (kt 22) (kt 24)⟩] (Y 25 (G [kMi 4 1099511627776] kr) ks)) (G [⟨none,.mov (some 4) (kc (-1099511627776))⟩] kr)) ks)) (G [M 26 0,M 27 1,kB 28 26 27 .mul,M 4 28] kr)))
theorem qMX:zO prog Tryz.f229.ntmps (Tryz.f229.body.getD .skip)=some qFY.erase:=by kernel_rfl
@[simp] theorem qN9:zA prog 229=true:=by kernel_rfl
def qFS:K:=G [kMi 4 0] (Z (G [M 6 1,kQi 7 6 0 false] (Y 7 (G [kMi 4 0] kr) ks)) (G [M 8 0,M 9 1,kB 10 8 9 .quo,M 5 10] (Z (G [M 11 0,M 12 1,kB 13 11 12 .rem,kQi 14 13 0 true,M 15 14,T 15 true (M 16 0),T 15 true (kBi 17 16 0 .lss),T 15 true (M 18 1),T 15 true (kBi 19 18 0 .lss),⟨some (15,true),.eqv (some 20) true .b (kt 17) (kt 19)⟩,kPf 21 15 20] (Y 21 (K.ops [M 22 5,kBi 23 22 1 .sub,M 5 23]) ks)) (G [M 24 5,M 4 24] kr))))
theorem qMR:zO prog Tryz.f230.ntmps (Tryz.f230.body.getD .skip)=some qFS.erase:=by kernel_rfl
@[simp] theorem qN2:zA prog 230=true:=by kernel_rfl
def qFX:K:=G [kMi 4 0] (Z (G [M 5 1,kQi 6 5 0 false] (Y 6 (G [kMi 4 0] kr) ks)) (G [M 7 0,M 8 1,M 9 0,M 10 1,kC 11 230 [(kt 9),(kt 10)],kB 12 8 11 .mul,kB 13 7 12 .sub,M 4 13] kr))
theorem qMW:zO prog Tryz.f231.ntmps (Tryz.f231.body.getD .skip)=some qFX.erase:=by kernel_rfl
@[simp] theorem qN8:zA prog 231=true:=by kernel_rfl
theorem zXL {a b:Int}(ha:Rng a)(hb:Rng b):Ret prog 226 [int a,int b] [] (int (zBE (a+b))) []:=by obtain⟨a1,a2⟩:=ha;obtain⟨b1,b2⟩:=hb;refine zK Tryz.func226 rfl qMT (rs:=[.slot 4]) (by kernel_rfl) ?_;unfold qFU;have hw:=jT (a+b) (by omega);simp[hw];refine qK (zOJ (a+b)) (by simp) (by simp) ?_;simp;exact zB 0 (by simp)
theorem zXZ {a b:Int}(ha:Rng a)(hb:Rng b):Ret prog 228 [int a,int b] [] (int (zBE (a-b))) []:=by obtain⟨a1,a2⟩:=ha;obtain⟨b1,b2⟩:=hb;refine zK Tryz.func228 rfl qMU (rs:=[.slot 4]) (by kernel_rfl) ?_;unfold qFV;have hw:=jT (a-b) (by omega);simp[hw];refine qK (zOJ (a-b)) (by simp) (by simp) ?_;simp;exact zB 0 (by simp)
theorem zTm {m n q:Nat}(hq:1099511627776 / n=q)(hn:0<n):(q<m→1099511627776<m*n)∧(¬q<m→m*n≤1099511627776):=by
 constructor
 ·intro h;rw[←hq]at h;exact(Nat.div_lt_iff_lt_mul hn).1 h
 ·intro h;rw[←hq]at h;have:=mt (Nat.div_lt_iff_lt_mul hn).2 h;omega
theorem zST (a:Int)(h:a≠0):∃m:Nat,0<m∧(a=m∨a = -(m:Int)):=⟨a.natAbs,by omega,by omega⟩
theorem zTz {a b:Int}(ha:Rng a)(hb:Rng b):Ret prog 229 [int a,int b] [] (int (zBE (a*b))) []:=by
 obtain⟨a1,a2⟩:=ha;obtain⟨b1,b2⟩:=hb;refine zK Tryz.func229 rfl qMX (rs:=[.slot 4]) (by kernel_rfl) ?_;unfold qFY;by_cases h0:a=0
 ·subst h0;simp;exact zB 0 (by simp[zBE])
 by_cases h1:b=0
 ·subst h1;simp[h0];exact zB 0 (by simp[zBE])
 obtain⟨m,m0,hm⟩:=zST a h0;obtain⟨n,n0,hn⟩:=zST b h1;obtain⟨q,hq⟩:∃q:Nat,1099511627776 / n=q:=⟨_,rfl⟩;obtain⟨c1,c2⟩:=zTm (m:=m) hq n0;have hqd:Int.tdiv 1099511627776 (n:Int)=(q:Int):=by rw[tdN (by omega),←hq]; rfl
 have hqle:q≤1099511627776:=by rw[←hq]; exact Nat.div_le_self _ _
 have wq:=jT (q:Int) (by omega);have wm:=jT (m:Int) (by omega);have wn:=jT (n:Int) (by omega);have wm':IntKind.i64.wrap (-(m:Int)) = -m:=IntWalk.i64_in _ (by omega);have wn':IntKind.i64.wrap (-(n:Int)) = -n:=IntWalk.i64_in _ (by omega);have x1:¬((m:Int) < -m):=by omega
 have x2:(-(m:Int))<m:=by omega
 have y1:¬((n:Int) < -n):=by omega
 have y2:(-(n:Int))<n:=by omega
 have z1:¬((m:Int)<0):=by omega
 have z2:(-(m:Int))<0:=by omega
 have z3:¬((n:Int)<0):=by omega
 have z4:(-(n:Int))<0:=by omega
 have m1:¬m=0:=by omega
 have n1:¬n=0:=by omega
 have p0:(m:Int)*n=((m*n:Nat):Int):=by push_cast; rfl
 generalize hmn:m*n=s at *
 by_cases hc:(q:Int)<m
 ·have hs:=c1 (by omega);have k1:zBE (s:Int)=1099511627776:=by unfold zBE; rw[if_pos (by omega)]
  have k2:zBE (-(s:Int)) = -1099511627776:=by unfold zBE; rw[if_neg (by omega),if_pos (by omega)]
  rcases hm with rfl | rfl<;>rcases hn with rfl | rfl<;>simp[m1,n1,wm,wn,wm',wn',x1,x2,y1,y2,z1,z2,z3,z4,m0,n0,hqd,wq,hc]<;>exact zB 0 (by simp[Int.neg_mul,Int.mul_neg,p0,k1,k2])
 ·have hs:=c2 (by omega);have k1:zBE (s:Int)=s:=by unfold zBE; rw[if_neg (by omega),if_neg (by omega)]
  have k2:zBE (-(s:Int)) = -s:=by unfold zBE; rw[if_neg (by omega),if_neg (by omega)]
  have w1:=jT (s:Int) (by omega);have w2:=jT (-(s:Int)) (by omega);rcases hm with rfl | rfl<;>rcases hn with rfl | rfl<;>simp[m1,n1,wm,wn,wm',wn',x1,x2,y1,y2,z1,z2,z3,z4,m0,n0,hqd,wq,hc]<;>exact zB 0 (by simp[Int.neg_mul,Int.mul_neg,p0,k1,k2,w1,w2])
theorem zKz {a b:Int}(ha:Rng a)(hb:Rng b):Ret prog 230 [int a,int b] [] (int (zI7 a b)) []:=by
 obtain⟨a1,a2⟩:=ha;refine zK Tryz.func230 rfl qMR (rs:=[.slot 4]) (by kernel_rfl) ?_;unfold qFS;by_cases h1:b=0
 ·subst h1;simp;exact zB 0 (by simp[zI7])
 have ht:=zSV (b:=b) a1 a2;have w1:=jT (a.tdiv b) (by omega);have w2:=jT (a.tdiv b-1) (by omega);have e:zI7 a b=if a.tmod b≠0∧¬(a<0↔b<0) then a.tdiv b-1 else a.tdiv b:=by unfold zI7; rw[if_neg h1]
 rw[e];by_cases hm:a.tmod b=0
 ·simp[h1,hm,w1];exact zB 0 (by simp[hm])
 by_cases s1:a<0<;>by_cases s2:b<0<;>simp[h1,hm,w1,s1,s2,w2]<;>exact zB 0 (by simp[hm,s1,s2])
theorem zVL {a b:Int}(ha:Rng a)(hb:Rng b):Ret prog 231 [int a,int b] [] (int (zNT a b)) []:=by
 have hd:=zKz ha hb;refine zK Tryz.func231 rfl qMW (rs:=[.slot 4]) (by kernel_rfl) ?_;unfold qFX;by_cases h1:b=0
 ·subst h1;simp;exact zB 0 (by simp[zNT])
 have hr:=zLo (a:=a) hb.1 hb.2;have e:zNT a b=a-b*zI7 a b:=by unfold zNT; rw[if_neg h1]
 obtain⟨a1,a2⟩:=ha;have w1:=jT (b*zI7 a b) (by omega);have w2:=jT (a-b*zI7 a b) (by omega);simp[h1];refine qK hd (by simp) (by simp) ?_;simp[w1,w2];exact zB 0 (by simp[e])
def zPP:Go.Shelf.Ren:=⟨fun | 4=>204 | n=>n,fun | 0=>0 | 3=>3 | 4=>4 | 9=>9 | 20=>20 | 22=>44 | 25=>46 | n=>n,fun n=>n⟩
theorem zWs:Go.Proofs.Lays8.n4 prog zPP:={
 mixed:=by kernel_rfl,
 f4:=⟨Tryz.f204.name,by decide,Tryz.func204.trans (congrArg some (by kernel_rfl))⟩,
 t0:=Tryz.underlying0,
 a0:=Tryz.isAgg0,
 z0:=Tryz.sizeOf0,
 v0:=Tryz.zeroValue0,
 t3:=Tryz.underlying3,
 a3:=Tryz.isAgg3,
 z3:=Tryz.sizeOf3,
 v3:=Tryz.zeroValue3,
 t4:=Tryz.underlying4,
 a4:=Tryz.isAgg4,
 z4:=Tryz.sizeOf4,
 v4:=Tryz.zeroValue4,
 t9:=Tryz.underlying9,
 a9:=Tryz.isAgg9,
 z9:=Tryz.sizeOf9,
 v9:=Tryz.zeroValue9,
 t20:=Tryz.underlying20,
 a20:=Tryz.isAgg20,
 z20:=Tryz.sizeOf20,
 v20:=Tryz.zeroValue20,
 t22:=Tryz.underlying44,
 a22:=Tryz.isAgg44,
 z22:=Tryz.sizeOf44,
 v22:=Tryz.zeroValue44}
@[simp] theorem qHz:zA prog 204=true:=by kernel_rfl
theorem zPn (n:Nat)(hn:n≤1000000):Ret prog 204 [.nil,int n] [] (.row 0 0) [.row false 46 3 0 []] :=
 zTQ (ρ:=zPP) (sz:=3) (bs:=40) (z:=.agg #[.int .i64 0,.int .i64 0,.slice none 0 0]) zWs (by kernel_rfl) rfl (by omega) (by omega) (by omega)
def zOk:K:=G [kMn 2] (G [kMi 3 0] (Z (G [M 9 0,kN 10 9,kMi 11 0] (K.block 0 (K.loop (G [kB 12 11 10 .lss] (Z (Y 12 ks (K.exit 0)) (Z (K.block 1 (G [kX 13 9 11 1,L 14 13 1,M 5 14] (G [M 15 3,M 16 5,kN 17 16,kB 18 15 17 .add,M 3 18] (G [M 19 3,kBi 20 19 0 .lss] (Y 20 (K.ops [⟨none,.mki (some 21) 9 (.const (.string ⟨#[108,101,110,32,111,117,116,32,111,102,32,114,97,110,103,101]⟩))⟩,⟨none,.pan none (kt 21)⟩]) ks))))) (K.ops [kBi 22 11 1 .add,M 11 22]))))))) (G [M 23 3,kC 24 204 [(.const kl),(kt 23)],M 6 24] (Z (G [M 25 0,kN 26 25,kMi 27 0] (K.block 2 (K.loop (G [kB 28 27 26 .lss] (Z (Y 28 ks (K.exit 2)) (Z (K.block 3 (G [kX 29 25 27 1,L 30 29 1,M 8 30] (K.ops [M 31 6,M 32 8,kP 33 46 3 40 31 32,M 6 33]))) (K.ops [kBi 34 27 1 .add,M 27 34]))))))) (G [M 35 6,M 2 35] kr)))))
theorem zVc:zO prog Tryz.f196.ntmps (Tryz.f196.body.getD .skip)=some zOk.erase:=by kernel_rfl
@[simp] theorem qBy:zA prog 196=true:=by kernel_rfl
def zAJ (Ls:List (List Val)):List A:=Ls.map fun l=>A.sl l.length (zJ l)
theorem zEh:∀(Ls:List (List Val)),qE (zAJ Ls)
 | []=>qE.nil
 | l::Ls=>by
  have h1:=zEh Ls;have h2:=zBp l;refine⟨?_,fun rf g=>?_⟩
  ·show qU (A.sl l.length (zJ l)::zAJ Ls)=_;simp[h1.1];rfl
  ·show vwL rf g (A.sl l.length (zJ l)::zAJ Ls)=_;simp[h1.2];rfl
@[simp] theorem zY8 (l:List (List Val)):qU (zAJ l)=zAJ l:=(zEh l).1
@[simp] theorem qDy {rf g}(l:List (List Val)):vwL rf g (zAJ l)=zAJ l:=(zEh l).2 _ _
@[simp] theorem zZQ (l:List (List Val)):(zAJ l).length=l.length:=by simp[zAJ]
theorem zH9 {Ls:List (List Val)}{i:Nat}(h:i<Ls.length):(zAJ Ls).drop i=.sl Ls[i].length (zJ Ls[i])::zAJ (Ls.drop (i+1)):=by rw[zAJ,←List.map_drop,jAy h]; rfl
def zDI (Ls:List (List Val)):Nat:=Ls.flatten.length
theorem zNg {Ls:List (List Val)}{i:Nat}(h:i<Ls.length):zDI (Ls.take (i+1))=zDI (Ls.take i)+Ls[i].length:=by rw[zDI,zDI,jAh h,jD8]; simp
theorem zSW (Ls:List (List Val))(i:Nat):zDI (Ls.take i)≤zDI Ls:=by
 have:Ls.flatten=(Ls.take i).flatten++(Ls.drop i).flatten:=by rw[←jD8,jCd]
 rw[zDI,zDI,this,jA7]; omega
theorem zLA (Ls:List (List Val))(hb:zDI Ls≤1000000):Ret prog 196 [.sl Ls.length (zAJ Ls)] [] (.sl (zDI Ls) (zJ Ls.flatten)) []:=by
 refine zK Tryz.func196 rfl zVc (rs:=[.slot 2]) (by kernel_rfl) ?_;unfold zOk;simp;intro hl;refine jX (S:=Nat) (fun i=>[(0,.sl Ls.length (zAJ Ls)),(3,int (zDI (Ls.take i))),(9,.sl Ls.length (zAJ Ls)),(10,int Ls.length),(11,int i)]) (fun s=>[]) (fun i=>i≤Ls.length) (fun i=>Ls.length-i) 0 (by simp)
  (zP [] 0 (by simp) (by simp) (by simp) (by simp[zDI])) ?_
 intro i hi;by_cases h:i<Ls.length
 ·have ht:=zNg h;have hle:=zSW Ls (i+1);have hw:IntKind.i64.wrap ((zDI (Ls.take i):Int)+(Ls[i].length:Int))=(zDI (Ls.take (i+1)):Nat):=by rw[ht]; push_cast; exact IntWalk.i64_in _ (by omega)
  have h0:¬((zDI (Ls.take (i+1)):Nat):Int)<0:=by omega
  simp[h,zH9 h];intro _;simp[hw,h0];exact zU (i+1) h (by omega) (zP [] 0 (by simp) (by simp) (by simp) (by simp[qO h hl]))
 ·have hil:i=Ls.length:=by omega
  subst hil;have hI:¬(Ls.length:Int)<Ls.length:=by omega
  simp;refine jN (zPn (zDI Ls) hb) [] (by simp) (by simp) (by simp) ?_;simp;intro _;refine jX (S:=Nat) (fun i=>[(6,.row 0 (zDI (Ls.take i))),(25,.sl Ls.length (zAJ Ls)),(26,int Ls.length),(27,int i)]) (fun i=>[.row false 46 3 (zDI (Ls.take i)) (zJ (Ls.take i).flatten)]) (fun i=>i≤Ls.length) (fun i=>Ls.length-i) 0 (by simp)
   (zP [0] 0 (by simp) (by simp) (by simp[zDI]) (by simp[zDI])) ?_
  intro i hi;by_cases h:i<Ls.length
  ·have ht:=zNg h;have hle:=zSW Ls (i+1);have hf:(Ls.take (i+1)).flatten=(Ls.take i).flatten++Ls[i]:=by rw[jAh h,jD8]; simp
   simp[h,zH9 h];refine⟨⟨by simp[maxLen]; omega,by omega⟩,?_⟩;exact zU (i+1) h (by omega) (zP [0] 0 (by simp) (by simp) (by simp[ht,hf,zAT]) (by simp[ht,qO h hl]))
  ·have hil:i=Ls.length:=by omega
   subst hil;simp;exact zB 1 (by simp)
def qFQ:K:=G [kMn 2] (G [kMn 3] (Z (G [M 6 0,kN 7 6,kMi 8 0] (K.block 0 (K.loop (G [kB 9 8 7 .lss] (Z (Y 9 ks (K.exit 0)) (Z (K.block 1 (G [kX 10 6 8 3,J 11 10 3,kZ 5 [ki,ki,kl],S 5 11 3] (G [D 12 5 2,L 13 12 1,kC 14 108 [(kt 13)],D 15 5 2,S 15 14 1] (K.ops [M 16 3,J 17 5 3,kd 18 46 3 1 [ki,ki,kl] [(0,3,(kt 17))],kP 19 46 3 40 16 18,M 3 19])))) (K.ops [kBi 20 8 1 .add,M 8 20]))))))) (G [M 21 3,M 2 21] kr)))
theorem qMP:zO prog Tryz.f108.ntmps (Tryz.f108.body.getD .skip)=some qFQ.erase:=by kernel_rfl
@[simp] theorem qN0:zA prog 108=true:=by kernel_rfl
mutual
theorem zGY:∀(l:List Val),jG l≤1000000→Ret prog 108 [.sl l.length (zJ l)] [] (.sl l.length (zJ l)) []
 | l,hz=>by
  have hl6:=zDD l;refine zK Tryz.func108 rfl qMP (rs:=[.slot 2]) (by kernel_rfl) ?_;unfold qFQ;simp;intro hl;refine jX (S:=Nat) (fun i=>[(3,.row 0 i),(6,.sl l.length (zJ l)),(7,int l.length),(8,int i)]) (fun i=>[.row false 46 3 i (zJ (l.take i))]) (fun i=>i≤l.length) (fun i=>l.length-i) 0 (by simp)
   ((zAS (t:=3) (by simp) 46 3).trans (zP [0] 0 (by simp) (by simp) (by simp) (by simp))) ?_
  intro i hi;by_cases h:i<l.length
  ·have hk:=zJk l hz l[i] (jA3 h);have ht:zJ (l.take (i+1))=zJ (l.take i)++[.lit (.int .i64 l[i].k),.lit (.int .i64 l[i].n),.sl l[i].kids.length (zJ l[i].kids)]:=by rw[jAh h,zAT]; simp
   simp[h,qY h];refine qK hk (by simp) (by simp) ?_;simp;refine⟨⟨by simp[maxLen]; omega,by omega⟩,?_⟩;exact zU (i+1) h (by omega) (zP [0] 0 (by simp) (by simp) (by simp[ht]) (by simp[qO h hl]))
  ·have hil:i=l.length:=by omega
   subst hil;simp;exact zB 1 (by simp)
theorem zJk:∀(l:List Val),jG l≤1000000→∀x∈l,Ret prog 108 [.sl x.kids.length (zJ x.kids)] [] (.sl x.kids.length (zJ x.kids)) []
 | [],_,x,h=>by simp at h
 | .mk k n ks::l,hz,x,h=>by
  simp only[jG,qD]at hz
  if e:x∈l then exact zJk l (by omega) x e
  else
   have:x=.mk k n ks:=(jA6.1 h).resolve_right e;subst this;exact zGY ks (by omega)
end
def qFW:K:=G [kZ 4 [ki,ki,kl]] (Z (G [M 7 0,kBi 8 7 0 .geq,M 9 8,T 9 true (M 10 0),T 9 true (kBi 11 10 5 .lss),kPf 12 9 11,M 13 12,T 13 true (M 14 1),T 13 true (kN 15 14),T 13 true (kQi 16 15 2 false),kPf 17 13 16] (Y 17 (Z (K.dops [(0,0,M 18 0),(1,0,⟨none,.idxarr (some 19) (.global 0) (kt 18) 5 1⟩),(2,0,L 20 19 1),(3,0,M 21 1),(4,0,kXi 22 21 3 0),(5,0,D 23 22 1),(6,0,L 24 23 1),(7,0,M 25 1),(8,0,kXi 26 25 3 1),(9,0,D 27 26 1),(10,0,L 28 27 1),(11,0,⟨none,.call (some 29) (kt 20) [(kt 24),(kt 28)]⟩),(12,0,kb 30 [ki,ki,kl] [(1,1,(kt 29))]),(13,0,S 4 30 3)]) kr) ks)) (Z (K.block 0 (G [M 32 0,kQi 33 32 9 false,M 34 33,T 34 true (M 35 1),T 34 true (kN 36 35),T 34 true (kQi 37 36 1 false),kPf 38 34 37,M 31 38] (Y 31 (G [M 39 1,kXi 40 39 3 0,D 41 40 1,L 42 41 1,kQi 43 42 0 false,kC 44 174 [(kt 43)],S 4 44 3] kr) (G [M 46 0,kQi 47 46 11 false,M 48 47,T 48 true (M 49 1),T 48 true (kN 50 49),T 48 true (kQi 51 50 1 false),kPf 52 48 51,M 45 52] (Y 45 (G [M 53 1,kXi 54 53 3 0,D 55 54 2,L 56 55 1,kN 57 56,kb 58 [ki,ki,kl] [(1,1,(kt 57))],S 4 58 3] kr) (G [M 60 1,kN 61 60,kQi 62 61 2 true,M 59 62] (Y 59 (G [kb 63 [ki,ki,kl] [],S 4 63 3] kr) ks))))))) (Z (K.wk (K.dops [(0,0,M 64 1),(1,2,kXi 65 64 3 0),(2,2,J 66 65 3),(3,0,M 67 1),(4,2,kXi 68 67 3 1),(5,2,J 69 68 3),(6,301,⟨none,.alr (some 5) 1 [ki,ki,kl]⟩),(7,302,⟨none,.alr (some 6) 2 [ki,ki,kl]⟩),(8,0,S 5 66 3),(9,0,S 6 69 3)])) (Z (G [M 70 0] (K.block 1 (G [kQi 72 70 5 false,M 71 72] (Y 71 (G [D 73 5 1,L 74 73 1,D 75 6 1,
 L 76 75 1,kB 77 74 76 .lss,kC 78 174 [(kt 77)],S 4 78 3] kr) (G [kQi 80 70 6 false,M 79 80] (Y 79 (G [J 81 5 3,J 82 6 3,kC 83 60 [(kt 81),(kt 82)],kQi 84 83 0 false,kC 85 174 [(kt 84)],S 4 85 3] kr) (G [kQi 87 70 7 false,M 86 87] (Y 86 (G [D 88 5 1,L 89 88 1,kQi 90 89 0 true,M 91 90,T 91 true (D 92 6 1),T 91 true (L 93 92 1),T 91 true (kQi 94 93 0 true),kPf 95 91 94,kC 96 174 [(kt 95)],S 4 96 3] kr) (G [kQi 98 70 8 false,M 97 98] (Y 97 (G [D 99 5 1,L 100 99 1,kQi 101 100 0 true,M 102 101,T 102 false (D 103 6 1),T 102 false (L 104 103 1),T 102 false (kQi 105 104 0 true),kPt 106 102 105,kC 107 174 [(kt 106)],S 4 107 3] kr) (G [kQi 109 70 10 false,M 108 109] (Y 108 (G [D 110 5 2,L 111 110 1,D 112 6 2,L 113 112 1,kd 114 44 1 2 [kl,kl] [(0,1,(kt 111)),(1,1,(kt 113))],kC 115 196 [(kt 114)],kC 116 108 [(kt 115)],kb 117 [ki,ki,kl] [(0,1,(kc 4)),(2,1,(kt 116))],S 4 117 3] kr) ks)))))))))))) (G [kb 118 [ki,ki,kl] [],S 4 118 3] kr)))))
def qOI:Nat→Option (List (Nat×Nat)):=fun r=>match r with | 9=>some [(0,0),(1,2),(2,2),(3,0),(4,2),(5,2),(6,301),(7,302),(8,0),(9,0)] | _=>none
theorem qMV:qF prog Tryz.f177.ntmps qOI (Tryz.f177.body.getD .skip)=some qFW.erase:=by kernel_rfl
@[simp] theorem qN7:zA prog 177=true:=by kernel_rfl
@[simp] theorem qJR (b:Bool):(zBN b).k=1:=rfl
@[simp] theorem qJS (b:Bool):(zBN b).n=if b then 1 else 0:=rfl
@[simp] theorem qAR (b:Bool):(zBN b).kids=[]:=rfl
@[simp] theorem qBZ {env:Env}:ev env (.global 0)=.rptr [.clo 226 [] [],.clo 228 [] [],.clo 229 [] [],.clo 230 [] [],.clo 231 [] []]:=rfl
theorem yM:2≤maxLen:=by simp[maxLen]
theorem zC2:1≤maxLen:=by simp[maxLen]
theorem qBW {p:Prg}{n:Int}{ts:List Typ}{t:Typ}(h:OpT n ts t){vs:List Val}(hv:TyL p ts vs)(hs:∀v∈vs,qD v≤256):Ret prog 177 [int n,.sl vs.length (zJ vs)] [] (.agg (zC (opV n vs))) []:=by
 refine qS Tryz.func177 rfl qMV (rs:=[.cell 4 3 true]) (by kernel_rfl) ?_;unfold qFW;cases h with
 | arith n h1 h2 =>
  obtain⟨a,b,rfl,ha,hb⟩:=hv.two;obtain⟨x,rfl,hx⟩:=ha.int_inv;obtain⟨y,rfl,hy⟩:=hb.int_inv;have e:opV n [.mk 0 x [],.mk 0 y []]=.mk 0 (zLI n x y) []:=by simp only[opV,if_pos h2]; rfl
  rw[e];have hn:n=0∨n=1∨n=2∨n=3∨n=4:=by omega
  rcases hn with rfl | rfl | rfl | rfl | rfl
  ·simp[Val.k,Val.n,Val.kids,yM,zC2];refine qR (zXL hx hy) (by simp) (by simp) ?_;simp;exact zB 0 (by simp[zC,Val.k,Val.n,Val.kids,zLI])
  ·simp[Val.k,Val.n,Val.kids,yM,zC2];refine qR (zXZ hx hy) (by simp) (by simp) ?_;simp;exact zB 0 (by simp[zC,Val.k,Val.n,Val.kids,zLI])
  ·simp[Val.k,Val.n,Val.kids,yM,zC2];refine qR (zTz hx hy) (by simp) (by simp) ?_;simp;exact zB 0 (by simp[zC,Val.k,Val.n,Val.kids,zLI])
  ·simp[Val.k,Val.n,Val.kids,yM,zC2];refine qR (zKz hx hy) (by simp) (by simp) ?_;simp;exact zB 0 (by simp[zC,Val.k,Val.n,Val.kids,zLI])
  ·simp[Val.k,Val.n,Val.kids,yM,zC2];refine qR (zVL hx hy) (by simp) (by simp) ?_;simp;exact zB 0 (by simp[zC,Val.k,Val.n,Val.kids,zLI])
 | less =>
  obtain⟨a,b,rfl,ha,hb⟩:=hv.two;obtain⟨x,rfl,hx⟩:=ha.int_inv;obtain⟨y,rfl,hy⟩:=hb.int_inv;simp[Val.k,Val.n,Val.kids,yM,zC2];refine⟨_,_,zAf 2,?_⟩;simp[Val.k,Val.n,Val.kids,yM,zC2];refine qK (zAE (decide (x<y))) (by simp) (by simp[zC]) ?_;simp[zC];exact zB 0 (by by_cases hx0:x<y<;>simp[zC,opV,qP,hx0])
 | same u =>
  obtain⟨a,b,rfl,ha,hb⟩:=hv.two;simp[yM];refine⟨_,_,zAf 2,?_⟩;simp[yM];refine qK (zJQ a b) (by simp[zC]) (by simp) ?_;simp;refine qK (zAE (decide (zBX a b=0))) (by simp) (by simp[zC]) ?_;simp[zC];exact zB 0 (by simp[zC,opV])
 | andor n h =>
  obtain⟨a,b,rfl,ha,hb⟩:=hv.two;obtain⟨x,rfl,hx⟩:=ha.bool_inv;obtain⟨y,rfl,hy⟩:=hb.bool_inv;rcases h with rfl | rfl
  ·rcases hx with rfl | rfl<;>rcases hy with rfl | rfl
   ·simp[Val.k,Val.n,Val.kids,yM];refine⟨_,_,zAf 2,?_⟩;simp[Val.k,Val.n,Val.kids,yM];refine qK (zAE false) (by simp) (by simp[zC]) ?_;simp[zC];exact zB 0 (by simp[zC,opV,qP])
   ·simp[Val.k,Val.n,Val.kids,yM];refine⟨_,_,zAf 2,?_⟩;simp[Val.k,Val.n,Val.kids,yM];refine qK (zAE false) (by simp) (by simp[zC]) ?_;simp[zC];exact zB 0 (by simp[zC,opV,qP])
   ·simp[Val.k,Val.n,Val.kids,yM];refine⟨_,_,zAf 2,?_⟩;simp[Val.k,Val.n,Val.kids,yM];refine qK (zAE false) (by simp) (by simp[zC]) ?_;simp[zC];exact zB 0 (by simp[zC,opV,qP])
   ·simp[Val.k,Val.n,Val.kids,yM];refine⟨_,_,zAf 2,?_⟩;simp[Val.k,Val.n,Val.kids,yM];refine qK (zAE true) (by simp) (by simp[zC]) ?_;simp[zC];exact zB 0 (by simp[zC,opV,qP])
  ·rcases hx with rfl | rfl<;>rcases hy with rfl | rfl
   ·simp[Val.k,Val.n,Val.kids,yM];refine⟨_,_,zAf 2,?_⟩;simp[Val.k,Val.n,Val.kids,yM];refine qK (zAE false) (by simp) (by simp[zC]) ?_;simp[zC];exact zB 0 (by simp[zC,opV,qP])
   ·simp[Val.k,Val.n,Val.kids,yM];refine⟨_,_,zAf 2,?_⟩;simp[Val.k,Val.n,Val.kids,yM];refine qK (zAE true) (by simp) (by simp[zC]) ?_;simp[zC];exact zB 0 (by simp[zC,opV,qP])
   ·simp[Val.k,Val.n,Val.kids,yM];refine⟨_,_,zAf 2,?_⟩;simp[Val.k,Val.n,Val.kids,yM];refine qK (zAE true) (by simp) (by simp[zC]) ?_;simp[zC];exact zB 0 (by simp[zC,opV,qP])
   ·simp[Val.k,Val.n,Val.kids,yM];refine⟨_,_,zAf 2,?_⟩;simp[Val.k,Val.n,Val.kids,yM];refine qK (zAE true) (by simp) (by simp[zC]) ?_;simp[zC];exact zB 0 (by simp[zC,opV,qP])
 | not =>
  obtain⟨a,rfl,ha⟩:=hv.one;obtain⟨x,rfl,hx⟩:=ha.bool_inv;simp[Val.k,Val.n,Val.kids,yM,zC2];refine qK (zAE (decide (x=0))) (by simp) (by simp[zC]) ?_;simp[zC];exact zB 0 (by by_cases hx0:x=0<;>simp[zC,opV,qP,hx0])
 | join u =>
  obtain⟨a,b,rfl,ha,hb⟩:=hv.two;have h1:=hs a (by simp);have h2:=hs b (by simp);cases a with | mk k1 n1 l1 =>
  cases b with | mk k2 n2 l2 =>
  simp only[qD]at h1 h2;have z1:=zDD l1;have z2:=zDD l2;have hc:Ret prog 196 [.sl 2 [.sl l1.length (zJ l1),.sl l2.length (zJ l2)]] [] (.sl (l1.length+l2.length) (zJ (l1++l2))) []:=by simpa [zAJ,zDI] using zLA [l1,l2] (by simp[zDI]; omega)
  have hk:=zGY (l1++l2) (by rw[zCc]; omega);rw[jA7]at hk;simp[Val.k,Val.n,Val.kids,yM,zC2];refine⟨_,_,zAf 2,?_⟩;simp[Val.k,Val.n,Val.kids,yM,zC2];refine qK hc (by simp) (by simp) ?_;simp;refine qK hk (by simp) (by simp) ?_;simp;exact zB 0 (by simp[zC,opV,Val.k,Val.n,Val.kids])
 | len u =>
  obtain⟨a,rfl,ha⟩:=hv.one;simp[zC2];exact fun _=>zB 0 (by simp[zC,opV,Val.k,Val.n,Val.kids])
def zHw (n:Nat):List Int:=(List.range n).map fun(i:Nat)=>(i:Int)
def zG4 (s:Id)(e:Exp)(n:Nat):List Int:=(zHw n).filter fun i=>zEp s e false||decide (i∈zIL s e)
@[simp] theorem qNV:zA prog 208=true:=by kernel_rfl
@[simp] theorem qOa:zA prog 207=true:=by kernel_rfl
@[simp] theorem qNZ:zA prog 200=true:=by kernel_rfl
end Go.Proofs.YtdnelmeboihpkaaGreatDoor

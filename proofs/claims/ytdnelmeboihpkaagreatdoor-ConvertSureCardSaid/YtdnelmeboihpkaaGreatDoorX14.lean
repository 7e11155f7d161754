/-
  The maker's functions without recursion.
  trace.differ: the IDs that only one of two maps has, or whose things differ; in some order.
  Types of expressions; which definitions the maker may name.
  value.Def, and ValidType of package value and of the reference.
  trace.Changed.
  The maker's literals.
  Paths of converters, as data.
  value.fits and value.Valid.
  The maker's literals, walked.
  value.fits and value.Valid: whether a value has a type.
  Evaluation as data: operations, and a run with its fuel, its failure, and what it has asked.
  The maker's literals of variants and records; all literals.
  convert.converter, ends, follow and Along.
  fits and Valid of the reference.
  The maker's operations.
  Size and depth in plain numbers; Valid of the reference.
  The maker's matches.
  The zero value of a type, by the reference.
  The maker's fields and calls.
  Values made of numbers, by the reference.
  The maker's calls.
  The maker's expressions, walked.
  The maker's expressions, walked: what binds.
  The maker's expressions have the types that they are to have.
  The number of nodes, their numbers, their IDs.
  The maker's plans: what definitions are to be made.
  The reference's nodes, in preorder; the first node with an ID; same nodes and definitions.
  The maker's plans.
-/
import Derived.Test.YtdnelmeboihpkaaGreatDoorX13
import Derived.Test.YtdnelmeboihpkaaGreatDoorX10
import Derived.Test.YtdnelmeboihpkaaGreatDoorX12
set_option linter.unusedVariables false
set_option maxHeartbeats 8000000
set_option maxRecDepth 100000
set_option linter.unusedSimpArgs false
open Go.Proofs.Tryz (prog)
namespace Go.Proofs.YtdnelmeboihpkaaGreatDoor
open Go.Abs
@[simp] theorem qKM:zA prog 36=true:=by kernel_rfl
structure Bnd where
 id:Id
 n:Int
 typ:Typ
def zI9 (b:Bnd):List A:=[.lit (.int .i64 b.id.a),.lit (.int .i64 b.id.b),.lit (.int .i64 b.id.c),.lit (.int .i64 b.n),.lit (.int .i64 b.typ.k),.lit (.int .i64 b.typ.id.a),.lit (.int .i64 b.typ.id.b),.lit (.int .i64 b.typ.id.c),.sl b.typ.kids.length (jV b.typ.kids)]
theorem zHb (b:Bnd):qE (zI9 b):=by have h1:=yI b.typ.kids;exact⟨by simp[zI9,h1.1],fun rf g=>by simp[zI9,h1.2]⟩
def zEG (l:List Bnd):List A:=l.flatMap zI9
theorem zH7 (l:List Bnd):qE (zEG l):=zAU zHb l
@[simp] theorem qA1 (l:List Bnd):qU (zEG l)=zEG l:=(zH7 l).1
@[simp] theorem qFj {rf g}(l:List Bnd):vwL rf g (zEG l)=zEG l:=(zH7 l).2 _ _
@[simp] theorem qB2:zEG []=[]:=rfl
@[simp] theorem qB1 (l:List Bnd):(zEG l).length=l.length*9:=by rw[zEG,zBG (k:=9) (fun _=>rfl)]
@[simp] theorem qHC (d:Bnd):(zI9 d).length=9:=rfl
@[simp] theorem qHB (d:Bnd):(zI9 d).take 9=zI9 d:=jAm (jA _)
@[simp] theorem qDX (d:Bnd)(l:List A):(zI9 d++l).take 9=zI9 d:=by rw[jC (by simp)]; exact jAm (by simp)
@[simp] theorem qE5 (d:Bnd):qU (zI9 d)=zI9 d:=(zHb d).1
@[simp] theorem qMe (d:Bnd) {rf g}:vwL rf g (zI9 d)=zI9 d:=(zHb d).2 _ _
theorem tmN {x k:Int}(h:0≤x):x.tmod k=x % k:=jDf h
theorem tdN {x k:Int}(h:0≤x):x.tdiv k=x / k:=Int.tdiv_eq_ediv_of_nonneg h
def zNX {α : Type}(idf : α→Id)(D:List α)(c : α→Bool)(met:List Nat):List Id:=met.filterMap fun i=>(D[i]?).bind fun x=>if c x then some (idf x) else none
theorem zUz {α : Type}{idf : α→Id}{D:List α}{c : α→Bool}{met:List Nat}{i:Nat}{x : α}(h:D[i]?=some x):zNX idf D c (met++[i])=if c x then zNX idf D c met++[idf x] else zNX idf D c met:=by simp only[zNX,List.filterMap_append,List.filterMap_cons,List.filterMap_nil,h,Option.bind_some];cases c x<;>simp
theorem zOV {α β : Type}{f g : α→Option β}:∀{l:List α},(∀x∈l,f x=g x)→l.filterMap f=l.filterMap g
 | [],_=>rfl
 | x::l,h=>by rw[List.filterMap_cons,List.filterMap_cons,h x (jAk ..),zOV fun y hy=>h y (jAf _ hy)]
theorem zRH {α : Type}{idf : α→Id}{c : α→Bool}(D:List α):zNX idf D c (List.range D.length)=(D.filter c).map idf:=by
 induction D using zG6 with
 | nil=>rfl
 | snoc D y ih =>
  have h1:zNX idf (D++[y]) c (List.range D.length)=zNX idf D c (List.range D.length):=by
   unfold zNX;refine zOV fun i hi=>?_
   rw[jAc (jC7.1 hi)]
  rw[jA7,jC0,List.range_succ,zUz (x:=y) (by simp),h1,ih,List.filter_append,jCu];cases hc:c y<;>simp[hc]
structure Met (n:Nat)(met:List Nat):Prop where
 nd:met.Nodup
 lt:∀i∈met,i<n
theorem Met.snoc {n:Nat}{met:List Nat}(h:Met n met){i:Nat}(hi:i<n)(hn:i∉met):Met n (met++[i]):=by
 refine⟨?_,fun j hj=>?_⟩
 ·rw[jCk];refine⟨h.nd,by simp,fun a ha b hb=>?_⟩;simp only[jAp]at hb;subst hb;exact fun e=>hn (e▸ha)
 ·rcases jAj.1 hj with hj | hj
  ·exact h.lt j hj
  ·rw[jAp.1 hj]; exact hi
theorem Met.le {n:Nat}{met:List Nat}(h:Met n met):met.length≤n:=by
 have:=h.nd.length_le_of_subset (l₂:=List.range n) fun i hi=>jC7.2 (h.lt i hi)
 simpa using this
theorem Met.perm {n:Nat}{met:List Nat}(h:Met n met)(ha:∀i,i<n→i∈met):met.Perm (List.range n) :=
 (List.perm_ext_iff_of_nodup h.nd List.nodup_range).2 fun i=>⟨fun hi=>jC7.2 (h.lt i hi),fun hi=>ha i (jC7.1 hi)⟩
theorem Met.sel {α : Type}{idf : α→Id}{c : α→Bool}{D:List α}{met:List Nat}(h:Met D.length met)(ha:∀i,i<D.length→i∈met):(zNX idf D c met).Perm ((D.filter c).map idf):=by rw[←zRH];exact(h.perm ha).filterMap _
@[simp] theorem qII {α : Type}{idf : α→Id}{enc : α→List A}{D:List α}:(zNG idf enc D).length=D.length:=by simp[zNG]
structure Hd where
 id:Id
 kind:Int
 slots:List Slt
 res:Typ
def Dfn.hd (d:Dfn):Hd:=⟨d.id,d.kind,d.slots,d.res⟩
abbrev zAW:Typ:=.mk 0 Id.zero []
abbrev yZ:Typ:=.mk 1 Id.zero []
abbrev zDa (t:Typ):Typ:=.mk 2 Id.zero [t]
abbrev jZ (d:Id):Typ:=.mk 3 d []
inductive TyOk (hs:List Hd):Nat→Typ→Prop
 | int (r:Nat):TyOk hs r zAW
 | bool (r:Nat):TyOk hs r yZ
 | list (r:Nat) (t:Typ) (h:TyOk hs r t):TyOk hs (r+1) (zDa t)
 | dfn (r k:Nat) (h:k<hs.length) (h1:∀(j:Nat) (hj:j<k),hs[j].id≠hs[k].id) (h2:hs[k].kind=0∨hs[k].kind=1∧0<hs[k].slots.length) (h3:hs[k].slots.length≤6)
  (h4:∀s∈hs[k].slots,TyOk hs r s.typ):TyOk hs (r+1) (jZ hs[k].id)
theorem TyOk.mono {hs:List Hd}{r r':Nat}{t:Typ}(h:TyOk hs r t)(hr:r≤r'):TyOk hs r' t:=by
 induction h generalizing r' with
 | int r=>exact .int _
 | bool r=>exact .bool _
 | list r t h ih =>
  obtain⟨q,rfl⟩:∃q,r'=q+1:=⟨r'-1,by omega⟩;exact .list _ _ (ih (by omega))
 | dfn r k h h1 h2 h3 h4 ih =>
  obtain⟨q,rfl⟩:∃q,r'=q+1:=⟨r'-1,by omega⟩;exact .dfn _ k h h1 h2 h3 fun s hs'=>ih s hs' (by omega)
def zE0 (env:List Bnd)(x:Id)(n:Int):Option Typ:=(env.reverse.find? fun b=>decide (b.id=x)&&decide (b.n=n)).map (·.typ)
inductive WT (hs:List Hd)(own:Int):List Bnd→Exp→Typ→Prop
 | int (env i n) (h1 : -1099511627776≤n) (h2:n≤1099511627776):WT hs own env (.mk i 0 n Id.zero Typ.zero [] []) zAW
 | bool (env i n) (h:n=0∨n=1):WT hs own env (.mk i 1 n Id.zero Typ.zero [] []) yZ
 | var (env i n x t) (h:zE0 env x n=some t):WT hs own env (.mk i 2 n x Typ.zero [] []) t
 | call (env i) (k:Nat) (h:k<hs.length) (ks) (ho:(k:Int)<own) (hk:hs[k].kind=2) (hl:ks.length=hs[k].slots.length) (hw:∀(j:Nat) (hj:j<ks.length),WT hs own env ks[j] (hs[k].slots[j]'(hl▸hj)).typ) :
  WT hs own env (.mk i 3 0 hs[k].id Typ.zero ks []) hs[k].res
 | arith (env i n a b) (h1:0≤n) (h2:n≤4) (ha:WT hs own env a zAW) (hb:WT hs own env b zAW):WT hs own env (.mk i 4 n Id.zero Typ.zero [a,b] []) zAW
 | less (env i a b) (ha:WT hs own env a zAW) (hb:WT hs own env b zAW):WT hs own env (.mk i 4 5 Id.zero Typ.zero [a,b] []) yZ
 | same (env i a b u) (ha:WT hs own env a u) (hb:WT hs own env b u):WT hs own env (.mk i 4 6 Id.zero Typ.zero [a,b] []) yZ
 | andor (env i n a b) (h:n=7∨n=8) (ha:WT hs own env a yZ) (hb:WT hs own env b yZ):WT hs own env (.mk i 4 n Id.zero Typ.zero [a,b] []) yZ
 | not (env i a) (ha:WT hs own env a yZ):WT hs own env (.mk i 4 9 Id.zero Typ.zero [a] []) yZ
 | join (env i a b t) (ha:WT hs own env a (zDa t)) (hb:WT hs own env b (zDa t)):WT hs own env (.mk i 4 10 Id.zero Typ.zero [a,b] []) (zDa t)
 | len (env i a t) (ha:WT hs own env a (zDa t)):WT hs own env (.mk i 4 11 Id.zero Typ.zero [a] []) zAW
 | ite (env i a b c t) (ha:WT hs own env a yZ) (hb:WT hs own env b t) (hc:WT hs own env c t):WT hs own env (.mk i 5 0 Id.zero Typ.zero [a,b,c] []) t
 | lets (env i a b u t ns) (hn:ns.length≤10) (ha:WT hs own env a u) (hb:WT hs own (env++[⟨i,0,u⟩]) b t):WT hs own env (.mk i 6 0 Id.zero Typ.zero [a,b] ns) t
 | record (env i) (k:Nat) (h:k<hs.length) (ks) (hk:hs[k].kind=0) (hl:ks.length=hs[k].slots.length) (hw:∀(j:Nat) (hj:j<ks.length),WT hs own env ks[j] (hs[k].slots[j]'(hl▸hj)).typ) :
  WT hs own env (.mk i 7 0 hs[k].id Typ.zero ks []) (jZ hs[k].id)
 | field (env i) (k:Nat) (h:k<hs.length) (j:Nat) (hj:j<hs[k].slots.length) (a) (hk:hs[k].kind=0) (ha:WT hs own env a (jZ hs[k].id)):WT hs own env (.mk i 8 j hs[k].id Typ.zero [a] []) hs[k].slots[j].typ
 | case (env i) (k:Nat) (h:k<hs.length) (j:Nat) (hj:j<hs[k].slots.length) (a) (hk:hs[k].kind=1) (ha:WT hs own env a hs[k].slots[j].typ):WT hs own env (.mk i 9 j hs[k].id Typ.zero [a] []) (jZ hs[k].id)
 | mtch (env i) (k:Nat) (h:k<hs.length) (a ks t ns) (hn:ns.length≤10) (hk:hs[k].kind=1) (hl:ks.length=hs[k].slots.length) (ha:WT hs own env a (jZ hs[k].id))
  (hw:∀(j:Nat) (hj:j<ks.length),WT hs own (env++[⟨i,j,(hs[k].slots[j]'(hl▸hj)).typ⟩]) ks[j] t):WT hs own env (.mk i 10 0 hs[k].id Typ.zero (a::ks) ns) t
 | list (env i t ks) (hw:∀(j:Nat) (hj:j<ks.length),WT hs own env ks[j] t):WT hs own env (.mk i 11 0 Id.zero t ks []) (zDa t)
 | fold (env i l s b u t ns) (hn:ns.length≤10) (hl:WT hs own env l (zDa u)) (hs':WT hs own env s t) (hb:WT hs own (env++[⟨i,0,u⟩]++[⟨i,1,t⟩]) b t):WT hs own env (.mk i 12 0 Id.zero Typ.zero [l,s,b] ns) t
mutual
def tmps:Exp→List Int
 | .mk i _ _ _ _ ks _=>zIp ks++[i.c]
def zIp:List Exp→List Int
 | []=>[]
 | e::l=>tmps e++zIp l
end
mutual
def Exp.num0:Exp→Prop
 | .mk i _ _ _ _ ks _=>(i.a=0∧i.b=0)∧zPB ks
def zPB:List Exp→Prop
 | []=>True
 | e::l=>e.num0∧zPB l
end
theorem zMK:∀l:List Exp,zPB l↔∀e∈l,e.num0
 | []=>by simp[zPB]
 | e::l=>by simp[zPB,zMK l]
structure Seg (lo hi:Int)(l:List Int):Prop where
 nd:l.Nodup
 rng:∀x∈l,lo≤x∧x<hi
theorem Seg.append {a b c:Int}{l l':List Int}(h:Seg a b l)(h':Seg b c l')(hab:a≤b)(hbc:b≤c):Seg a c (l++l'):=by
 refine⟨jCk.2 ⟨h.nd,h'.nd,fun x hx y hy e=>?_⟩,fun x hx=>?_⟩
 ·have h1:=h.rng x hx;have h2:=h'.rng y hy;omega
 ·rcases jAj.1 hx with hx | hx
  ·have:=h.rng x hx; omega
  ·have:=h'.rng x hx; omega
theorem Seg.perm {a b:Int}{l l':List Int}(h:Seg a b l)(hp:l.Perm l'):Seg a b l':=⟨hp.nodup_iff.1 h.nd,fun x hx=>h.rng x (hp.mem_iff.2 hx)⟩
theorem Seg.one (a:Int):Seg a (a+1) [a]:=⟨by simp,fun x hx=>by simp at hx; omega⟩
theorem Seg.nil {a b:Int}:Seg a b []:=⟨by simp,fun x hx=>by simp at hx⟩
theorem Seg.mono {a b a' b':Int}{l:List Int}(h:Seg a b l)(h1:a'≤a)(h2:b≤b'):Seg a' b' l:=⟨h.nd,fun x hx=>by have:=h.rng x hx; omega⟩
structure Adv (m m':Mk)(c:Int):Prop where
 mods:m'.mods=m.mods
 defs:m'.defs=m.defs
 l:m'.l=m.l
 own:m'.own=m.own
 home:m'.home=m.home
 at1:m.at_≤m'.at_
 at2:m'.at_≤m.at_+c
 temp1:m.temp≤m'.temp
 temp2:m'.temp≤m.temp+c
 left1:m.left-c≤m'.left
 left2:m'.left≤m.left
 name1:m.name≤m'.name
 name2:m'.name≤m.name+c
theorem Adv.trans {m m1 m2:Mk}{c c':Int}(h:Adv m m1 c)(k:Adv m1 m2 c'):Adv m m2 (c+c'):=by obtain⟨h1,h2,h3,h4,h5,h6,h7,h8,h9,h10,h11,h12,h13⟩:=h;obtain⟨k1,k2,k3,k4,k5,k6,k7,k8,k9,k10,k11,k12,k13⟩:=k;exact⟨k1.trans h1,k2.trans h2,k3.trans h3,k4.trans h4,k5.trans h5,by omega,by omega,by omega,by omega,by omega,by omega,by omega,by omega⟩
theorem Adv.mono {m m1:Mk}{c c':Int}(h:Adv m m1 c)(hc:c≤c'):Adv m m1 c':=by obtain⟨h1,h2,h3,h4,h5,h6,h7,h8,h9,h10,h11,h12,h13⟩:=h;exact⟨h1,h2,h3,h4,h5,by omega,by omega,by omega,by omega,by omega,by omega,by omega,by omega⟩
structure Lim (m:Mk)(c:Int):Prop where
 at1:0≤m.at_
 at2:m.at_+c≤1000000000000000
 temp1:0≤m.temp
 temp2:m.temp+c≤1000000000000000
 left1 : -1000000000000000≤m.left-c
 left2:m.left≤1000000000000000
 name1:0≤m.name
 name2:m.name+c≤1000000000000000
theorem Lim.adv {m m1:Mk}{c c':Int}(h:Lim m (c+c'))(k:Adv m m1 c):Lim m1 c':=by obtain⟨h1,h2,h3,h4,h5,h6,h7,h8⟩:=h;obtain⟨k1,k2,k3,k4,k5,k6,k7,k8,k9,k10,k11,k12,k13⟩:=k;exact⟨by omega,by omega,by omega,by omega,by omega,by omega,by omega,by omega⟩
theorem Lim.mono {m:Mk}{c c':Int}(h:Lim m c)(hc:c'≤c):Lim m c':=by obtain⟨h1,h2,h3,h4,h5,h6,h7,h8⟩:=h;exact⟨by omega,by omega,by omega,by omega,by omega,by omega,by omega,by omega⟩
structure Cx (hs:List Hd)(R:Nat)(m:Mk):Prop where
 heads:m.defs.map Dfn.hd=hs
 len:hs.length≤100
 len0:0<hs.length
 mods:0<m.mods.length
 nums:∀x∈m.l,w64 x=x
 own:m.own≤1000
 typs:∀(k:Nat) (h:k<hs.length),hs[k].kind=0∨hs[k].kind=1→TyOk hs R (jZ hs[k].id)
 slots:∀(k:Nat) (h:k<hs.length),hs[k].slots.length≤6∧∀s∈hs[k].slots,TyOk hs R s.typ
theorem Cx.adv {hs:List Hd}{R:Nat}{m m':Mk}{c:Int}(h:Cx hs R m)(k:Adv m m' c):Cx hs R m':=by obtain⟨h1,h2,h3,h4,h5,h6,h7,h8⟩:=h;exact⟨by rw[k.defs]; exact h1,h2,h3,by rw[k.mods]; exact h4,by rw[k.l]; exact h5,by rw[k.own]; exact h6,h7,h8⟩
theorem Cx.dlen {hs:List Hd}{R:Nat}{m:Mk}(h:Cx hs R m):m.defs.length=hs.length:=by rw[←h.heads,jB4]
theorem Cx.get {hs:List Hd}{R:Nat}{m:Mk}(h:Cx hs R m){k:Nat}(hk:k<m.defs.length):hs[k]'(h.dlen▸hk)=m.defs[k].hd:=by obtain⟨rfl,_⟩:=h;simp
structure EnvOk (hs:List Hd)(R:Nat)(temp:Int)(env:List Bnd):Prop where
 typs:∀b∈env,TyOk hs R b.typ
 nd:env.Pairwise fun b c=>¬(b.id=c.id∧b.n=c.n)
 new:∀b∈env,b.id.b=0→b.id.c<temp
theorem EnvOk.mono {hs:List Hd}{R:Nat}{temp temp':Int}{env:List Bnd}(h:EnvOk hs R temp env)(ht:temp≤temp'):EnvOk hs R temp' env:=⟨h.typs,h.nd,fun b hb h0=>by have:=h.new b hb h0; omega⟩
theorem EnvOk.snoc {hs:List Hd}{R:Nat}{temp:Int}{env:List Bnd}(h:EnvOk hs R temp env)(c n:Int)(t:Typ)(ht:TyOk hs R t)(hc:∀b∈env,b.id=⟨0,0,c⟩→b.n≠n)(hct:c<temp):EnvOk hs R temp (env++[⟨⟨0,0,c⟩,n,t⟩]):=by
 refine⟨fun b hb=>?_,?_,fun b hb h0=>?_⟩
 ·rcases jAj.1 hb with hb | hb
  ·exact h.typs b hb
  ·rw[jAp.1 hb]; exact ht
 ·rw[jCt];refine⟨h.nd,by simp,fun b hb c' hc'=>?_⟩;rw[jAp.1 hc'];exact fun e=>hc b hb e.1 e.2
 ·rcases jAj.1 hb with hb | hb
  ·exact h.new b hb h0
  ·rw[jAp.1 hb]; exact hct
def qW (l:List Dfn)(id:Id):Option Dfn:=l.find? fun d=>decide (d.id=id)
theorem zHi (d:Dfn)(l:List Dfn)(id:Id):qW (d::l) id=if d.id=id then some d else qW l id:=by unfold qW;rw[jD7];by_cases h:d.id=id<;>simp[h]
def zZD:K:=G [kO 2 0,kMb 3 false] (G [D 4 2 0,J 5 4 3,J 6 1 3,⟨none,.eqs (some 7) false [.i,.i,.i] (kt 5) (kt 6)⟩,M 3 7] kr)
theorem qHp:zO prog Tryz.f144.ntmps (Tryz.f144.body.getD .skip)=some zZD.erase:=by kernel_rfl
@[simp] theorem qKW:zA prog 144=true:=by kernel_rfl
def zZF:K:=G [kMi 4 0] (Z (G [M 6 0,kN 7 6,kMi 8 0] (K.block 0 (K.loop (G [kB 9 8 7 .lss] (Z (Y 9 ks (K.exit 0)) (Z (K.block 1 (G [M 10 8,M 5 10] (G [M 11 1,M 12 0,M 13 5,kX 14 12 13 31,J 15 14 31,⟨none,.call (some 16) (kt 11) [(kt 15)]⟩] (Y 16 (G [M 17 5,M 4 17] kr) ks)))) (K.ops [kBi 18 8 1 .add,M 8 18]))))))) (G [⟨none,.mov (some 4) (kc (-1))⟩] kr))
theorem qHr:zO prog Tryz.f143.ntmps (Tryz.f143.body.getD .skip)=some zZF.erase:=by kernel_rfl
@[simp] theorem qKY:zA prog 143=true:=by kernel_rfl
def zZC:K:=G [kO 2 0,kO 3 1,kZ 4 kz0,kMb 5 false] (G [D 7 2 1,L 8 7 1,⟨none,.clo (some 9) 144 [] [(kt 3)]⟩,kC 10 143 [(kt 8),(kt 9)],M 6 10] (Z (G [M 11 6,kBi 12 11 0 .lss] (Y 12 (G [kb 13 kz0 [],S 4 13 31,kMb 5 false] kr) ks)) (G [D 14 2 1,L 15 14 1,M 16 6,kX 17 15 16 31,J 18 17 31,S 4 18 31,kMb 5 true] kr)))
theorem qHo:zO prog Tryz.f96.ntmps (Tryz.f96.body.getD .skip)=some zZC.erase:=by kernel_rfl
@[simp] theorem qKV:zA prog 96=true:=by kernel_rfl
@[simp] theorem qOg:zA prog 169=true:=by kernel_rfl
@[simp] theorem qOh:zA prog 139=true:=by kernel_rfl
def qGo:K:=G [kO 2 0,kO 3 1,kMb 4 false] (Z (G [kMi 5 1] (K.block 0 (K.loop (Z (G [M 8 5,kBi 9 8 24 .leq] (Y 9 ks (K.exit 0))) (Z (K.block 1 (G [D 12 3 0,L 13 12 1] (K.block 2 (Z (G [kQi 15 13 0 false,M 14 15] (Y 14 ks (K.ops [kQi 16 13 1 false,M 14 16]))) (Y 14 (G [D 17 3 1,J 18 17 3,kb 19 [ki,ki,ki] [],⟨none,.eqs (some 20) false [.i,.i,.i] (kt 18) (kt 19)⟩,M 21 20,T 21 true (D 22 3 4),T 21 true (L 23 22 1),T 21 true (kN 24 23),T 21 true (kQi 25 24 0 false),kPf 26 21 25,M 4 26] kr) (G [kQi 28 13 3 false,M 27 28] (Y 27 (G [J 30 2 2,D 31 3 1,J 32 31 3,kC 33 96 [(kt 30),(kt 32)],M 29 33,kE 34 29 0,kE 35 29 1,kZ 6 kz0,S 6 34 31,M 7 35] (G [M 36 7,M 37 36,T 37 true (D 38 6 3),T 37 true (L 39 38 1),T 37 true (kQi 40 39 0 false),T 37 true (M 41 40),T 41 false (D 42 6 3),T 41 false (L 43 42 1),T 41 false (kQi 44 43 1 false),T 37 true (kPt 45 41 44),kPf 46 37 45,M 47 46,T 47 true (D 48 3 4),T 47 true (L 49 48 1),T 47 true (kN 50 49),T 47 true (kQi 51 50 0 false),kPf 52 47 51,M 4 52] kr)) (G [kQi 54 13 2 false,M 53 54] (Y 53 (Z (G [D 55 3 1,J 56 55 3,kb 57 [ki,ki,ki] [],⟨none,.eqs (some 58) true [.i,.i,.i] (kt 56) (kt 57)⟩,M 59 58,T 59 false (D 60 3 4),T 59 false (L 61 60 1),T 59 false (kN 62 61),T 59 false (kQi 63 62 1 true),kPt 64 59 63] (Y 64 (G [kMb 4 false] kr) ks)) (K.ops [D 65 3 4,L 66 65 1,kXi 67 66 5 0,J 68 67 5,S 3 68 5])) (G [kMb 4 false] kr)))))))))) (K.ops [M 10 5,kBi 11 10 1 .add,M 5 11])))))) (G [kMb 4 false] kr))
theorem qNn:zO prog Tryz.f114.ntmps (Tryz.f114.body.getD .skip)=some qGo.erase:=by kernel_rfl
@[simp] theorem qO5:zA prog 114=true:=by kernel_rfl
theorem zXK (d:Dfn)(id:Id):Ret prog 144 [.agg (zH d),.ptr 0 0] [.box (zF id)] (bl (decide (d.id=id))) [.box (zF id)]:=by refine zK Tryz.func144 rfl qHp (rs:=[.slot 3]) (by kernel_rfl) ?_;unfold zZD;simp[zH,zF,zXY];exact zI [0] 0 (by simp) (by simp) (by simp) (by simp)
def zLF:List Dfn→Id→Nat→Int
 | [],_,_=>-1
 | d::l,id,n=>if d.id=id then n else zLF l id (n+1)
theorem zMA:∀(l:List Dfn) (id:Id) (n:Nat),(qW l id=none∧zLF l id n = -1)∨∃(i:Nat) (h:i<l.length),zLF l id n=(n+i:Nat)∧qW l id=some l[i]
 | [],id,n=>.inl ⟨rfl,rfl⟩
 | d::l,id,n=>by
  simp only[zHi,zLF];by_cases hd:d.id=id
  ·exact .inr ⟨0,by simp,by simp[hd],by simp[hd]⟩
  ·simp only[hd,if_false];rcases zMA l id (n+1)with h | ⟨i,hi,h1,h2⟩
   ·exact .inl h
   ·exact .inr ⟨i+1,by simpa using hi,by rw[h1]; congr 1; omega,by simpa using h2⟩
theorem zNC (l:List Dfn)(id:Id):Ret prog 143 [.sl l.length (qM l),.clo 144 [] [.ptr 0 0]] [.box (zF id)] (int (zLF l id 0)) [.box (zF id)]:=by
 refine zK Tryz.func143 rfl qHr (rs:=[.slot 4]) (by kernel_rfl) ?_;unfold zZF;simp;intro hl;refine jX (S:=Nat) (fun i=>[(0,.sl l.length (qM l)),(1,.clo 144 [] [.ptr 0 0]),(6,.sl l.length (qM l)),(7,int l.length),(8,int i)]) (fun s=>[.box (zF id)]) (fun i=>i≤l.length∧zLF l id 0=zLF (l.drop i) id i) (fun i=>l.length-i) 0 (by simp)
  (zP [0] 0 (by simp) (by simp) (by simp[zF]) (by simp)) ?_
 rintro i ⟨hi,ho⟩;by_cases h:i<l.length
 ·have hd:l.drop i=l[i]::l.drop (i+1):=jAy h;simp[h,zAI h];refine jN (zXK l[i] id) [0] (by simp) (by simp) (by simp) ?_;simp;refine qT (fun h'=>?_) (fun h'=>?_)<;>simp at h'
  ·simp;exact zI [0] 0 (by simp) (by simp) (by simp) (by rw[ho,hd]; simp[zLF,h'])
  ·simp;exact zU (i+1) ⟨h,by rw[ho,hd]; simp[zLF,h']⟩ (by omega) (zP [0] 0 (by simp) (by simp) (by simp) (by simp[qO h hl]))
 ·have hi:i=l.length:=by omega
  subst hi;simp;exact zI [0] 0 (by simp) (by simp) (by simp) (by rw[ho]; simp[zLF])
def zCa (p:Prg)(id:Id):A:=.tup [.agg (zH ((qW p.defs id).getD .zero)),bl (qW p.defs id).isSome]
theorem zD1 (p:Prg)(id:Id):Ret prog 96 [.agg (zM p),.agg (zF id)] [] (zCa p id) []:=by
 refine zK Tryz.func96 rfl qHo (rs:=[.cell 4 31 true,.slot 5]) (by kernel_rfl) ?_;unfold zZC;simp[zM];refine jN (zNC p.defs id) [1] (by simp) (by simp) (by simp) ?_;simp;rcases zMA p.defs id 0 with ⟨h1,h2⟩ | ⟨i,hi,h1,h2⟩
 ·simp[h2];exact zB 0 (by simp[zCa,h1,zH,Dfn.zero,Id.zero,Typ.zero,Exp.zero])
 ·have hn:¬((i:Int)<0):=by omega
  simp[h1,hn,hi,zAI hi];exact zB 0 (by simp[zCa,h2])
def zFW:Option Dfn→Bool
 | some d=>decide (d.kind=0∨d.kind=1)
 | none=>false
def yH (p:Prg):Nat→Typ→Bool
 | 0,_=>false
 | n+1,t=>if t.k=2 then (match t.kids with
  | [x]=>decide (t.id=Id.zero)&&yH p n x
  | _=>false) else if t.kids≠[] then false else if t.k=3 then zFW (qW p.defs t.id) else decide (t.id=Id.zero)&&decide (t.k=0∨t.k=1)
def validT (p:Prg)(t:Typ):Bool:=yH p 24 t
theorem zL0 (p:Prg)(t0:Typ):Ret prog 114 [.agg (zM p),.agg (zS t0)] [] (bl (validT p t0)) []:=by
 refine zK Tryz.func114 rfl qNn (rs:=[.slot 4]) (by kernel_rfl) ?_;unfold qGo;simp[zM];refine jX (S:=Nat×Typ) (fun s=>[(2,.ptr 0 0),(3,.ptr 1 0),(5,int s.1)]) (fun s=>[.box (zM p),.box (zS s.2)]) (fun s=>1≤s.1∧s.1≤25∧validT p t0=yH p (25-s.1) s.2) (fun s=>25-s.1) (1,t0) (by simp[validT])
  (zP [0,1] 0 (by simp) (by simp) (by simp[zM]) (by simp)) ?_
 rintro⟨i,t⟩ ⟨hi0,hi,ho⟩;simp only at hi0 hi ho;by_cases h:i≤24
 ·have hi24:(i:Int)≤24:=by omega
  obtain⟨n,hn⟩:∃n,25-i=n+1:=⟨24-i,by omega⟩;have hn':25-(i+1)=n:=by omega
  have hw:=zBg i (by omega);rw[hn]at ho;cases t with
  | mk k id kids =>
  by_cases h2:k=2
  ·subst h2;by_cases hid:id=Id.zero
   ·subst hid;rcases kids with _ | ⟨x,_ | ⟨y,l⟩⟩
    ·simp[zS,zM,hi24];exact zB 0 (by rw[ho]; simp[yH])
    ·simp[zS,zM,hi24];intro _;refine zU (i+1,x) ⟨by simp,by simp only; omega,?_⟩ (by simp only; omega) (zP [0,1] 0 (by simp) (by simp) (by simp[zM,zS,zDN]) (by simp[hw]));simp only;rw[ho,hn'];simp[yH]
    ·have h1:¬((l.length:Int)+1+1=1):=by omega
     simp[zS,zM,hi24,h1];exact fun _=>zB 0 (by rw[ho]; simp[yH])
   ·have hv:yH p (n+1) (.mk 2 id kids)=false:=by simp only[yH,Typ.k_mk,Typ.id_mk,Typ.kids_mk,if_true];split<;>simp[hid]
    simp[zS,zM,hi24,hid];exact zB 0 (by rw[ho,hv]; simp)
  by_cases h3:k=3
  ·subst h3;simp[zS,zM,hi24];refine qK (zD1 p id) (by simp[zM,zF]) (by simp[zCa]) ?_;cases hf:qW p.defs id with
   | none =>
    have hv:yH p (n+1) (.mk 3 id kids)=false:=by cases kids<;>simp[yH,hf,zFW]
    simp[zCa,hf,zH,Dfn.zero,Id.zero,Typ.zero,Exp.zero];exact zB 0 (by rw[ho,hv]; simp)
   | some f =>
    by_cases h0:f.kind=0∨f.kind=1
    ·have hv:yH p (n+1) (.mk 3 id kids)=decide (kids.length=0):=by cases kids<;>simp[yH,hf,zFW,h0]
     rcases h0 with h0 | h0
     ·simp[zCa,hf,zH,h0];exact fun _=>zB 0 (by rw[ho,hv]; simp)
     ·simp[zCa,hf,zH,h0];exact fun _=>zB 0 (by rw[ho,hv]; simp)
    ·have hv:yH p (n+1) (.mk 3 id kids)=false:=by cases kids<;>simp[yH,hf,zFW,h0]
     have g0:f.kind≠0:=fun e=>h0 (.inl e)
     have g1:f.kind≠1:=fun e=>h0 (.inr e)
     simp[zCa,hf,zH,g0,g1];exact zB 0 (by rw[ho,hv]; simp)
  ·by_cases h0:k=0∨k=1
   ·by_cases hid:id=Id.zero
    ·subst hid;have hv:yH p (n+1) (.mk k Id.zero kids)=decide (kids.length=0):=by cases kids<;>simp[yH,h2,h3,h0]
     rcases h0 with rfl | rfl
     ·simp[zS,zM,hi24];exact fun _=>zB 0 (by rw[ho,hv]; simp)
     ·simp[zS,zM,hi24];exact fun _=>zB 0 (by rw[ho,hv]; simp)
    ·have hv:yH p (n+1) (.mk k id kids)=false:=by simp only[yH,Typ.k_mk,Typ.id_mk,Typ.kids_mk,h2,h3,if_false];simp[hid]
     rcases h0 with rfl | rfl
     ·simp[zS,zM,hi24,hid];exact zB 0 (by rw[ho,hv]; simp)
     ·simp[zS,zM,hi24,hid];exact zB 0 (by rw[ho,hv]; simp)
   ·have hv:yH p (n+1) (.mk k id kids)=false:=by simp only[yH,Typ.k_mk,Typ.id_mk,Typ.kids_mk,h2,h3,if_false];simp[h0]
    have g0:k≠0:=fun e=>h0 (.inl e)
    have g1:k≠1:=fun e=>h0 (.inr e)
    simp[zS,zM,hi24,g0,g1,h2,h3];exact zB 0 (by rw[ho,hv]; simp)
 ·have:i=25:=by omega
  subst this;simp;exact zB 0 (by rw[ho]; simp[yH])
@[simp] theorem qJN {f:Nat}{o:KOp}{env:Env}(h1:6<f)(h2:f<1000):zAQ f o env=True:=by
 unfold zAQ;split
 ·omega
 ·omega
 ·rw[if_neg (by omega),if_neg (by omega),if_neg (by omega)]
@[simp] theorem qFy {P:Program}{Qd:Value→St→Prop}{f d l:Nat}{zs:List Value}{K':Env→St→Prop}{env:Env} {σ : St}:jE P Qd f K' (.alr (some d) l zs) env σ = wpO P zAC K' (.alr (some d) l zs) env σ:=by simp[jE,KOp.lite,KOp.keeps]
@[simp] theorem qMw {P:Program}{d l:Nat}{zs:List Value}{Qp:Value→Env→St→Prop}{K':Env→St→Prop}{env:Env} {σ : St}:wpO P Qp K' (.alr (some d) l zs) env σ = (match σ[l]? with
 | some .rsv=>K' (env.put (some d) (.ptr l 0)) (σ.set l (.box (zs.map qN)))
 | _=>False):=rfl
@[simp] theorem qNI:zA prog 131=true:=by kernel_rfl
abbrev qHX:FuncId:=85
@[simp] theorem qK8:zA prog 85=true:=by kernel_rfl
def zSe (hs:List Hd)(own:Int)(f:FuncId)(m:Mk)(args:List A)(env:List Bnd)(t:Typ)(c:Int):Prop :=
 ∃(e:Exp) (m':Mk),Ret prog f args (mkS m) (.agg (zR e)) (mkS m')∧Adv m m' c∧WT hs own env e t∧Seg m.temp m'.temp (tmps e)∧e.num0
def zUQ (hs:List Hd)(R:Nat)(c depth:Int)(Q:Nat→Prop)(len:Nat):Prop :=
 ∀(m:Mk) (r:Nat) (t:Typ) (env:List Bnd),Cx hs R m→Lim m c→TyOk hs r t→Q r→EnvOk hs R m.temp env→0<env.length→env.length≤len →
  zSe hs m.own qHX m [.ptr 0 0,.agg (zS t),.sl env.length (zEG env),int depth] env t c
theorem Adv.zero (m:Mk):Adv m m 0:=⟨rfl,rfl,rfl,rfl,rfl,by omega,by omega,by omega,by omega,by omega,by omega,by omega,by omega⟩
def zA1 (p:Prg)(id:Id):Option (Typ×Typ):=match qW p.defs id with
 | none=>none
 | some d=>if d.kind=5 then (match d.slots with | [s]=>some (s.typ,d.res) | _=>none) else none
def zIn (p:Prg)(l:List Id)(i:Nat):Bool:=match zA1 p (l.getD i .zero)with
 | none=>false
 | some a=>decide (i=0)||(match zA1 p (l.getD (i-1) .zero)with | some b=>zE6 a.1 b.2 | none=>false)
def zD9 (p:Prg)(l:List Id):Nat→Bool
 | 0=>true
 | n+1=>zD9 p l n&&zIn p l n
def zGQ (p:Prg)(l:List Id):Bool:=zD9 p l l.length
theorem zPH {p:Prg}{l:List Id}{n m:Nat}(hnm:n≤m)(h:zD9 p l m=true):zD9 p l n=true:=by
 induction hnm with
 | refl=>exact h
 | step _ ih=>exact ih (by simp only[zD9,jA4]at h; exact h.1)
theorem zMM {p:Prg}{l:List Id}{i:Nat}(hi:i<l.length)(h:zIn p l i=false):zGQ p l=false:=by
 cases hp:zGQ p l with
 | false=>rfl
 | true =>
  have:=zPH (show i+1≤l.length by omega) hp;simp[zD9,h]at this
def dfn (p:Prg)(id:Id):Dfn:=(qW p.defs id).getD .zero
def fSt (p:Prg)(t:Typ):St:=[.box (zM p),.box (zS t)]
def zLE (q:Val→Bool):List Val→Nat→Int
 | [],_=>-1
 | x::l,n=>if q x then n else zLE q l (n+1)
theorem zPt (q:Val→Bool):∀(l:List Val) (n:Nat),(l.any q=true∧0≤zLE q l n)∨(l.any q=false∧zLE q l n = -1)
 | [],n=>.inr ⟨rfl,rfl⟩
 | x::l,n=>by
  simp only[zLE,List.any_cons];cases hx:q x with
  | true=>exact .inl ⟨by simp,by simp⟩
  | false=>simpa using zPt q l (n+1)
mutual
def zAL (p:Prg):Typ→Val→Bool
 | t,.mk k n l=>validT p t&&(if t.k=0 then decide (k=0)&&decide (l.length=0)&&decide (-1099511627776≤n)&&decide (n≤1099511627776) else if t.k=1 then decide (k=1)&&decide (l.length=0)&&(decide (n=0)||decide (n=1))
  else if t.k=2 then decide (k=4)&&decide (n=0)&&zOR p (t.kids.headD .zero) l
  else if (dfn p t.id).kind=1 then decide (k=3)&&decide (0≤n)&&decide (n<(dfn p t.id).slots.length)&&decide (l.length=1)&&zOS p ((dfn p t.id).slots.map Slt.typ)[n.toNat]? l
  else decide (k=2)&&decide (n=0)&&decide (l.length=(dfn p t.id).slots.length)&&zB8 p ((dfn p t.id).slots.map Slt.typ) l)
def zOR (p:Prg)(t:Typ):List Val→Bool
 | []=>true
 | v::l=>zAL p t v&&zOR p t l
def zOS (p:Prg):Option Typ→List Val→Bool
 | some t,v::_=>zAL p t v
 | _,_=>false
def zB8 (p:Prg):List Typ→List Val→Bool
 | t::ts,v::l=>zAL p t v&&zB8 p ts l
 | _,_=>true
end
theorem zMp (p:Prg)(t:Typ):∀(l:List Val),zOR p t l=l.all (zAL p t)
 | []=>by rw[zOR]; rfl
 | v::l=>by rw[zOR,zMp p t l]; rfl
theorem zCb (p:Prg)(t:Typ)(v:Val):zAL p t v=(validT p t&&(if t.k=0 then decide (v.k=0)&&decide (v.kids.length=0)&&decide (-1099511627776≤v.n)&&decide (v.n≤1099511627776) else if t.k=1 then decide (v.k=1)&&decide (v.kids.length=0)&&(decide (v.n=0)||decide (v.n=1))
 else if t.k=2 then decide (v.k=4)&&decide (v.n=0)&&v.kids.all (zAL p (t.kids.headD .zero))
 else if (dfn p t.id).kind=1 then decide (v.k=3)&&decide (0≤v.n)&&decide (v.n<(dfn p t.id).slots.length)&&decide (v.kids.length=1)&&zOS p ((dfn p t.id).slots.map Slt.typ)[v.n.toNat]? v.kids
 else decide (v.k=2)&&decide (v.n=0)&&decide (v.kids.length=(dfn p t.id).slots.length)&&zB8 p ((dfn p t.id).slots.map Slt.typ) v.kids)):=by
 cases v with
 | mk k n l=>rw[zAL,zMp]; rfl
def qGk:K:=G [kO 3 0,kO 4 1,kO 5 2,kMb 6 false] (Z (G [J 11 3 2,J 12 4 5,kC 13 114 [(kt 11),(kt 12)],kR 14 13] (Y 14 (G [kMb 6 false] kr) ks)) (Z (G [D 15 4 0,L 16 15 1] (K.block 0 (G [kQi 18 16 0 false,M 17 18] (Y 17 (G [D 19 5 0,L 20 19 1,kQi 21 20 0 false,M 22 21,T 22 true (D 23 5 2),T 22 true (L 24 23 1),T 22 true (kN 25 24),T 22 true (kQi 26 25 0 false),kPf 27 22 26,M 28 27,T 28 true (D 29 5 1),T 28 true (L 30 29 1),⟨some (28,true),.bin (some 31) .geq (kt 30) (kc (-1099511627776))⟩,kPf 32 28 31,M 33 32,T 33 true (D 34 5 1),T 33 true (L 35 34 1),T 33 true (kBi 36 35 1099511627776 .leq),kPf 37 33 36,M 6 37] kr) (G [kQi 39 16 1 false,M 38 39] (Y 38 (G [D 40 5 0,L 41 40 1,kQi 42 41 1 false,M 43 42,T 43 true (D 44 5 2),T 43 true (L 45 44 1),T 43 true (kN 46 45),T 43 true (kQi 47 46 0 false),kPf 48 43 47,M 49 48,T 49 true (D 50 5 1),T 49 true (L 51 50 1),T 49 true (kQi 52 51 0 false),T 49 true (M 53 52),T 53 false (D 54 5 1),T 53 false (L 55 54 1),T 53 false (kQi 56 55 1 false),T 49 true (kPt 57 53 56),kPf 58 49 57,M 6 58] kr) (G [kQi 60 16 2 false,M 59 60] (Y 59 (G [D 61 5 0,L 62 61 1,kQi 63 62 4 false,M 64 63,T 64 true (D 65 5 1),T 64 true (L 66 65 1),T 64 true (kQi 67 66 0 false),kPf 68 64 67,M 69 68,T 69 true (D 70 5 2),T 69 true (L 71 70 1),⟨some (69,true),.clo (some 72) 115 [] [(kt 3),(kt 4)]⟩,T 69 true (kC 73 112 [(kt 71),(kt 72)]),T 69 true (kR 74 73),kPf 75 69 74,M 6 75] kr) ks)))))))) (G [J 77 3 2,D 78 4 1,J 79 78 3,kC 80 96 [(kt 77),(kt 79)],
 M 76 80,kE 81 76 0,kE 82 76 1,kZ 7 kz0,S 7 81 31,M 8 82] (Z (G [D 83 7 3,L 84 83 1,kQi 85 84 1 false] (Y 85 (Z (K.dops [(0,0,D 86 5 0),(1,0,L 87 86 1),(2,0,kQi 88 87 3 false),(3,0,M 89 88),(4,0,T 89 true (D 90 5 1)),(5,0,T 89 true (L 91 90 1)),(6,0,T 89 true (kBi 92 91 0 .geq)),(7,0,kPf 93 89 92),(8,0,M 94 93),(9,0,T 94 true (D 95 5 1)),(10,0,T 94 true (L 96 95 1)),(11,0,T 94 true (D 97 7 8)),(12,0,T 94 true (L 98 97 1)),(13,0,T 94 true (kN 99 98)),(14,0,T 94 true (kB 100 96 99 .lss)),(15,0,kPf 101 94 100),(16,0,M 102 101),(17,0,T 102 true (D 103 5 2)),(18,0,T 102 true (L 104 103 1)),(19,0,T 102 true (kN 105 104)),(20,0,T 102 true (kQi 106 105 1 false)),(21,0,kPf 107 102 106),(22,0,M 108 107),(23,0,T 108 true (J 109 3 2)),(24,0,T 108 true (D 110 7 8)),(25,0,T 108 true (L 111 110 1)),(26,0,T 108 true (D 112 5 1)),(27,0,T 108 true (L 113 112 1)),(28,0,T 108 true (kX 114 111 113 11)),(29,0,T 108 true (D 115 114 4)),(30,0,T 108 true (J 116 115 5)),(31,0,T 108 true (D 117 5 2)),(32,0,T 108 true (L 118 117 1)),(33,0,T 108 true (kXi 119 118 3 0)),(34,0,T 108 true (J 120 119 3)),(35,0,T 108 true (kC 121 74 [(kt 109),(kt 116),(kt 120)])),(36,0,kPf 122 108 121),(37,0,M 6 122)]) kr) ks)) (Z (G [D 123 5 0,L 124 123 1,kQi 125 124 2 true,M 126 125,T 126 false (D 127 5 1),T 126 false (L 128 127 1),T 126 false (kQi 129 128 0 true),kPt 130 126 129,M 131 130,T 131 false (D 132 5 2),T 131 false (L 133 132 1),T 131 false (kN 134 133),T 131 false (D 135 7 8),T 131 false (L 136 135 1),
 T 131 false (kN 137 136),T 131 false (kQ 138 134 137 true),kPt 139 131 138] (Y 139 (G [kMb 6 false] kr) ks)) (Z (G [D 140 5 2,L 141 140 1,kN 142 141,kMi 143 0] (K.block 1 (K.loop (G [kB 144 143 142 .lss] (Z (Y 144 ks (K.exit 1)) (Z (K.block 2 (G [M 145 143,kX 146 141 143 3,J 147 146 3,kZ 10 [ki,ki,kl],M 9 145,S 10 147 3] (Z (K.dops [(0,0,J 148 3 2),(1,0,D 149 7 8),(2,0,L 150 149 1),(3,0,M 151 9),(4,0,kX 152 150 151 11),(5,0,D 153 152 4),(6,0,J 154 153 5),(7,0,J 155 10 3),(8,0,kC 156 74 [(kt 148),(kt 154),(kt 155)]),(9,0,kR 157 156)]) (Y 157 (G [kMb 6 false] kr) ks)))) (K.ops [kBi 158 143 1 .add,M 143 158]))))))) (G [kMb 6 true] kr)))))))
theorem qNj:zO prog Tryz.f74.ntmps (Tryz.f74.body.getD .skip)=some qGk.erase:=by kernel_rfl
@[simp] theorem qO0:zA prog 74=true:=by kernel_rfl
def zZE:K:=G [kO 3 0,kMb 4 false] (Z (K.dops [(0,0,J 5 1 2),(1,0,D 6 2 4),(2,0,L 7 6 1),(3,0,kXi 8 7 5 0),(4,0,J 9 8 5),(5,0,J 10 3 3),(6,0,kC 11 74 [(kt 5),(kt 9),(kt 10)]),(7,0,kR 12 11),(8,0,M 4 12)]) kr)
theorem qHq:zO prog Tryz.f115.ntmps (Tryz.f115.body.getD .skip)=some zZE.erase:=by kernel_rfl
@[simp] theorem qKX:zA prog 115=true:=by kernel_rfl
def qGn:K:=G [kO 3 0,kO 4 1,kO 5 2,kMb 6 false] (G [J 7 5 3,kC 8 73 [(kt 7)],M 9 8,T 9 true (J 10 3 2),T 9 true (J 11 4 5),T 9 true (J 12 5 3),T 9 true (kC 13 74 [(kt 10),(kt 11),(kt 12)]),kPf 14 9 13,M 6 14] kr)
theorem qNm:zO prog Tryz.f30.ntmps (Tryz.f30.body.getD .skip)=some qGn.erase:=by kernel_rfl
@[simp] theorem qO4:zA prog 30=true:=by kernel_rfl
theorem zVU (p:Prg)(t x:Typ)(hx:t.kids=[x])(v:Val)(b:Bool)(h:Ret prog 74 [.agg (zM p),.agg (zS x),.agg (zC v)] [] (bl b) []) :
 Ret prog 115 [.agg (zC v),.ptr 0 0,.ptr 1 0] (fSt p t) (bl (!b)) (fSt p t):=by
 refine zK Tryz.func115 rfl qHq (rs:=[.slot 4]) (by kernel_rfl) ?_;unfold zZE;simp[fSt,zM,zS,zC,hx];refine qR h (by simp[zM,zS,zC,zDN]) (by simp) ?_;simp;exact zI [0,1] 0 (by decide) (by simp) (by simp[zM,zS,hx]) (by simp)
theorem zYs (p:Prg)(t:Typ)(q:Val→Bool)(l:List Val)(h:∀v∈l,Ret prog 115 [.agg (zC v),.ptr 0 0,.ptr 1 0] (fSt p t) (bl (q v)) (fSt p t)) :
 Ret prog 153 [.sl l.length (zJ l),.clo 115 [] [.ptr 0 0,.ptr 1 0]] (fSt p t) (int (zLE q l 0)) (fSt p t):=by
 refine zK Tryz.func153 rfl qHs (rs:=[.slot 4]) (by kernel_rfl) ?_;unfold qBe;simp[fSt,zM,zS];intro hl;refine jX (S:=Nat) (fun i=>[(0,.sl l.length (zJ l)),(1,.clo 115 [] [.ptr 0 0,.ptr 1 0]),(6,.sl l.length (zJ l)),(7,int l.length),(8,int i)]) (fun i=>fSt p t) (fun i=>i≤l.length∧zLE q l 0=zLE q (l.drop i) i) (fun i=>l.length-i) 0 (by simp)
  (zP [0,1] 0 (by decide) (by simp) (by simp[fSt,zM,zS]) (by simp)) ?_
 rintro i ⟨hi,ho⟩;by_cases hil:i<l.length
 ·have hd:l.drop i=l[i]::l.drop (i+1):=jAy hil;simp[hil,qY hil,fSt,zM,zS];refine jN (h l[i] (jA3 hil)) [0,1] (by simp) (by simp[fSt,zM,zS]) (by simp[zC]) ?_;cases hq:q l[i]with
  | true =>
   simp[fSt,zM,zS];exact zI [0,1] 0 (by decide) (by simp) (by simp[zM,zS]) (by rw[ho,hd]; simp[zLE,hq])
  | false =>
   simp[fSt,zM,zS];exact zU (i+1) ⟨hil,by rw[ho,hd]; simp[zLE,hq]⟩ (by omega) (zP [0,1] 0 (by decide) (by simp) (by simp[fSt,zM,zS]) (by simp[qO hil hl]))
 ·have:i=l.length:=by omega
  subst this;simp[fSt,zM,zS];exact zI [0,1] 0 (by decide) (by simp) (by simp[zM,zS]) (by rw[ho]; simp[zLE])
theorem zXI (p:Prg)(t:Typ)(q:Val→Bool)(l:List Val)(h:∀v∈l,Ret prog 115 [.agg (zC v),.ptr 0 0,.ptr 1 0] (fSt p t) (bl (q v)) (fSt p t)) :
 Ret prog 112 [.sl l.length (zJ l),.clo 115 [] [.ptr 0 0,.ptr 1 0]] (fSt p t) (bl (l.any q)) (fSt p t):=by
 refine zK Tryz.func112 rfl qHn (rs:=[.slot 4]) (by kernel_rfl) ?_;unfold qBd;simp[fSt,zM,zS];refine jN (zYs p t q l h) [0,1] (by simp) (by simp[fSt,zM,zS]) (by simp) ?_;rcases zPt q l 0 with ⟨h1,h2⟩ | ⟨h1,h2⟩
 ·simp[fSt,zM,zS,h2];exact zI [0,1] 0 (by decide) (by simp) (by simp[zM,zS]) (by simp[h1])
 ·simp[fSt,zM,zS,h2];exact zI [0,1] 0 (by decide) (by simp) (by simp[zM,zS]) (by simp[h1])
theorem zRQ {p:Prg}{t:Typ}(h:validT p t=true)(h2:t.k=2):∃x,t.kids=[x]:=by
 cases t with
 | mk k id kids =>
  simp only[Typ.k_mk]at h2;subst h2;simp only[validT,yH,Typ.k_mk,Typ.id_mk,Typ.kids_mk,if_true]at h;split at h
  ·exact⟨_,rfl⟩
  ·cases h
theorem zT2 {p:Prg}{ts:List Typ}:zB8 p ts []=true:=by cases ts<;>simp[zB8]
theorem zVV {p:Prg}{t:Typ}{v:Val}(h:validT p t=false):zAL p t v=false:=by rw[zCb,h]; rfl
theorem zJR (p:Prg)(t:Typ)(v:Val):Ret prog 74 [.agg (zM p),.agg (zS t),.agg (zC v)] [] (bl (zAL p t v)) []:=by
 refine zK Tryz.func74 rfl qNj (rs:=[.slot 6]) (by kernel_rfl) ?_;unfold qGk;simp[zM,zS,zC];refine qK (zL0 p t) (by simp[zM,zS]) (by simp) ?_;cases hv:validT p t with
 | false =>
  simp;exact zB 0 (by simp[zVV hv])
 | true =>
 by_cases h0:t.k=0
 ·have e:zAL p t v=(decide (v.k=0)&&decide (v.kids.length=0)&&decide (-1099511627776≤v.n)&&decide (v.n≤1099511627776)):=by rw[zCb,hv,if_pos h0,jBd]
  by_cases c1:v.k=0
  ·by_cases c2:v.kids.length=0
   ·by_cases c3 : -1099511627776≤v.n
    ·simp[hv,h0,c1,c2,c3];exact zB 0 (by rw[e]; simp[c1,c2,c3])
    ·simp[hv,h0,c1,c2,c3];exact zB 0 (by rw[e]; simp[c1,c2,c3])
   ·simp[hv,h0,c1,c2];exact fun _=>zB 0 (by rw[e]; simp[c1,c2])
  ·simp[hv,h0,c1];exact zB 0 (by rw[e]; simp[c1])
 by_cases h1:t.k=1
 ·have e:zAL p t v=(decide (v.k=1)&&decide (v.kids.length=0)&&(decide (v.n=0)||decide (v.n=1))):=by rw[zCb,hv,if_neg h0,if_pos h1,jBd]
  by_cases c1:v.k=1
  ·by_cases c2:v.kids.length=0
   ·by_cases c3:v.n=0
    ·simp[hv,h1,c1,c2,c3];exact zB 0 (by rw[e]; simp[c1,c2,c3])
    ·simp[hv,h1,c1,c2,c3];exact zB 0 (by rw[e]; simp[c1,c2,c3])
   ·simp[hv,h1,c1,c2];exact fun _=>zB 0 (by rw[e]; simp[c1,c2])
  ·simp[hv,h1,c1];exact zB 0 (by rw[e]; simp[c1])
 by_cases h2:t.k=2
 ·obtain⟨x,hx⟩:=zRQ hv h2;have e:zAL p t v=(decide (v.k=4)&&decide (v.n=0)&&v.kids.all (zAL p x)):=by rw[zCb,hv,if_neg h0,if_neg h1,if_pos h2,jBd,hx]; rfl
  by_cases c1:v.k=4
  ·by_cases c2:v.n=0
   ·simp[hv,h2,c1,c2];refine jN (zXI p t (fun y=>!zAL p x y) v.kids (fun y hy=>zVU p t x hx y _ (zJR p x y))) [0,1] (by simp) (by simp[fSt,zM,zS,h2]) (by simp) ?_;simp[fSt,zM,zS];exact zB 0 (by rw[e]; simp[c1,c2,List.all_eq_not_any_not])
   ·simp[hv,h2,c1,c2];exact zB 0 (by rw[e]; simp[c1,c2])
  ·simp[hv,h2,c1];exact zB 0 (by rw[e]; simp[c1])
 have e:=zCb p t v;rw[hv,if_neg h0,if_neg h1,if_neg h2,jBd]at e;simp[hv,h0,h1,h2];refine qK (zD1 p t.id) (by simp[zM,zF]) (by simp[zCa]) ?_;have hD:(qW p.defs t.id).getD .zero=dfn p t.id:=rfl;generalize dfn p t.id=D at hD e;by_cases hk:D.kind=1
 ·rw[if_pos hk]at e;by_cases c1:v.k=3
  ·by_cases c2:0≤v.n
   ·by_cases c3:v.n<D.slots.length
    ·by_cases c4:v.kids.length=1
     ·obtain⟨x,hx⟩:∃x,v.kids=[x]:=List.length_eq_one_iff.1 c4;obtain⟨i,hi⟩:∃i:Nat,v.n=i:=⟨v.n.toNat,by omega⟩;have hil:i<D.slots.length:=by omega
      simp[zCa,hD,zH,hk,c1,hi,hil,hx,yB hil,yJ];refine qR (zJR p D.slots[i].typ x) (by simp[zM,zS,zC]) (by simp) ?_;simp;exact zB 0 (by rw[e]; simp[c1,hi,hil,hx,zOS])
     ·have c4':¬(v.kids.length:Int)=1:=by omega
      simp[zCa,hD,zH,hk,c1,c2,c3,c4']
      first | exact zB 0 (by rw[e]; simp[c1,c2,c3,c4]) | exact fun _=>zB 0 (by rw[e]; simp[c1,c2,c3,c4]) | exact fun _ _=>zB 0 (by rw[e]; simp[c1,c2,c3,c4])
    ·simp[zCa,hD,zH,hk,c1,c2,c3];exact zB 0 (by rw[e]; simp[c1,c2,c3])
   ·simp[zCa,hD,zH,hk,c1,c2];exact zB 0 (by rw[e]; simp[c1,c2])
  ·simp[zCa,hD,zH,hk,c1];exact zB 0 (by rw[e]; simp[c1])
 rw[if_neg hk]at e;by_cases c1:v.k=2
 ·by_cases c2:v.n=0
  ·by_cases c3:v.kids.length=D.slots.length
   ·simp[zCa,hD,zH,hk,c1,c2,c3];intro hl;refine jX (S:=Nat) (fun i=>[(3,.ptr 0 0),(7,.ptr 3 0),(141,.sl v.kids.length (zJ v.kids)),(142,int v.kids.length),(143,int i)])
     (fun i=>[.box (zM p),.box (zS t),.box (zC v),.box (zH D)]) (fun i=>i≤v.kids.length∧zB8 p (D.slots.map Slt.typ) v.kids=zB8 p ((D.slots.map Slt.typ).drop i) (v.kids.drop i)) (fun i=>v.kids.length-i) 0 (by simp)
     (zP [0,1,2,3] 0 (by decide) (by simp) (by simp[zM,zS,zC,zH,hk,c1,c2,c3]) (by simp[c3])) ?_
    rintro i ⟨hi,ho⟩;by_cases hil:i<v.kids.length
    ·have hiD:i<D.slots.length:=by omega
     have d1:v.kids.drop i=v.kids[i]::v.kids.drop (i+1):=jAy hil;have d2:(D.slots.map Slt.typ).drop i=D.slots[i].typ::(D.slots.map Slt.typ).drop (i+1):=by rw[jAy (by simpa using hiD)]; simp
     simp[hil,hiD,qY hil,yB hiD,zM,zH,yJ];refine qR (zJR p D.slots[i].typ v.kids[i]) (by simp[zM,zS,zC]) (by simp) ?_;cases hf:zAL p D.slots[i].typ v.kids[i]with
     | true =>
      simp;exact zU (i+1) ⟨hil,by rw[ho,d1,d2]; simp[zB8,hf]⟩ (by omega) (zP [0,1,2,3] 0 (by decide) (by simp) (by simp[zM,zS,zC,zH]) (by simp[qO hil (c3▸hl)]))
     | false =>
      simp;exact zB 0 (by rw[e,ho,d1,d2]; simp[zB8,hf])
    ·have:i=v.kids.length:=by omega
     subst this;simp;exact zB 0 (by rw[e,ho,jCv (jA v.kids.length),zT2]; simp[c1,c2,c3])
   ·have c3':¬(v.kids.length:Int)=D.slots.length:=by omega
    simp[zCa,hD,zH,hk,c1,c2,c3']
    first | exact zB 0 (by rw[e]; simp[c1,c2,c3]) | exact fun _=>zB 0 (by rw[e]; simp[c1,c2,c3]) | exact fun _ _=>zB 0 (by rw[e]; simp[c1,c2,c3])
  ·simp[zCa,hD,zH,hk,c1,c2];exact zB 0 (by rw[e]; simp[c1,c2])
 ·simp[zCa,hD,zH,hk,c1];exact zB 0 (by rw[e]; simp[c1])
termination_by qD v
decreasing_by
 ·exact zAG hy
 ·exact zAG (by simp[hx])
 ·exact zAG (jA3 _)
theorem zNi (p:Prg)(t:Typ)(v:Val)(h1:qD v≤256)(h2:zAs v≤24) :
 Ret prog 30 [.agg (zM p),.agg (zS t),.agg (zC v)] [] (bl (zAL p t v)) []:=by
 refine zK Tryz.func30 rfl qNm (rs:=[.slot 6]) (by kernel_rfl) ?_;unfold qGn;simp[zM,zS,zC];refine qK (zWX v h1 h2) (by simp[zC]) (by simp) ?_;simp;refine qK (zJR p t v) (by simp[zM,zS,zC]) (by simp) ?_;simp;exact zB 0 (by simp)
abbrev vz:Val:=.mk 0 0 []
def zI7 (a b:Int):Int:=if b=0 then 0 else if a.tmod b≠0∧¬(a<0↔b<0) then a.tdiv b-1 else a.tdiv b
def zNT (a b:Int):Int:=if b=0 then 0 else a-b*zI7 a b
def zLI (n a b:Int):Int:=if n=0 then zBE (a+b) else if n=1 then zBE (a-b) else if n=2 then zBE (a*b) else if n=3 then zI7 a b else zNT a b
def opV (n:Int):List Val→Val
 | [a]=>if n=9 then zBN (decide (a.n=0)) else .mk 0 a.kids.length []
 | [a,b]=>if n≤4 then .mk 0 (zLI n a.n b.n) [] else if n=5 then zBN (decide (a.n<b.n)) else if n=6 then zBN (decide (zBX a b=0))
  else if n=7 then zBN (decide (a.n=1∧b.n=1)) else if n=8 then zBN (decide (a.n=1∨b.n=1)) else .mk 4 0 (a.kids++b.kids)
 | _=>vz
structure XS where
 fuel:Int
 fail:Int
 ds:List Id
 ns:List Id
abbrev Evl:=Exp→List EVar→XS→Val×XS
def qZ (ev:Evl)(env:List EVar):List Exp→XS→List Val×XS
 | [],s=>([],s)
 | e::l,s=>((ev e env s).1::(qZ ev env l (ev e env s).2).1,(qZ ev env l (ev e env s).2).2)
theorem zIy (ev:Evl)(env:List EVar)(e:Exp):∀(l:List Exp) (s:XS),qZ ev env (l++[e]) s=((qZ ev env l s).1++[(ev e env (qZ ev env l s).2).1],(ev e env (qZ ev env l s).2).2)
 | [],s=>rfl
 | x::l,s=>by simp only[jB9,qZ,zIy ev env e l]
theorem zCq (ev:Evl)(env:List EVar):∀(l:List Exp) (s:XS),(qZ ev env l s).1.length=l.length
 | [],s=>rfl
 | x::l,s=>by simp only[qZ,jAl,zCq ev env l]
def yF (ev:Evl)(env:List EVar)(i:Id)(b:Exp):List Val→Val×XS→Val×XS
 | [],r=>r
 | x::l,r=>yF ev env i b l (ev b (env++[⟨i,0,x⟩]++[⟨i,1,r.1⟩]) r.2)
theorem zHj (ev:Evl)(env:List EVar)(i:Id)(b:Exp)(x:Val):∀(l:List Val) (r:Val×XS),yF ev env i b (l++[x]) r=ev b (env++[⟨i,0,x⟩]++[⟨i,1,(yF ev env i b l r).1⟩]) (yF ev env i b l r).2
 | [],r=>rfl
 | y::l,r=>by simp only[jB9,yF,zHj ev env i b x l]
def zCF (ss:List Slt)(vs:List Val):List EVar:=List.zipWith (fun s v=>⟨s.id,0,v⟩) ss vs
theorem zHF (ss:List Slt)(vs:List Val)(h:vs.length=ss.length):(zCF ss vs).length=ss.length:=by simp[zCF,h]
theorem zMj {ss:List Slt}{vs:List Val}(h:vs.length=ss.length){i:Nat}(hi:i<ss.length):(zCF ss vs).take (i+1)=(zCF ss vs).take i++[⟨ss[i].id,0,vs[i]⟩]:=by rw[jAh (by rw[zHF ss vs h]; exact hi)];simp[zCF]
def zB5 (ev:Evl)(d:Dfn)(vs:List Val)(s:XS):Val×XS:=if s.fail≠0 then (vz,s) else ev d.body (zCF d.slots vs) {s with ds:=s.ds++[d.id]}
def zAn (ev:Evl)(e:Exp)(env:List EVar)(s:XS):Val×XS :=
 if (ev (e.kids.headD .zero) env s).2.fail≠0 then (vz,(ev (e.kids.headD .zero) env s).2)
 else if e.k=5 then ev (e.kids.getD (if (ev (e.kids.headD .zero) env s).1.n=1 then 1 else 2) .zero) env (ev (e.kids.headD .zero) env s).2
 else if e.k=6 then ev (e.kids.getD 1 .zero) (env++[⟨e.id,0,(ev (e.kids.headD .zero) env s).1⟩]) (ev (e.kids.headD .zero) env s).2
 else if e.k=8 then ((ev (e.kids.headD .zero) env s).1.kids.getD e.n.toNat vz,(ev (e.kids.headD .zero) env s).2)
 else if e.k=10 then ev (e.kids.getD (1+(ev (e.kids.headD .zero) env s).1.n).toNat .zero) (env++[⟨e.id,(ev (e.kids.headD .zero) env s).1.n,(ev (e.kids.headD .zero) env s).1.kids.headD vz⟩]) (ev (e.kids.headD .zero) env s).2
 else yF ev env e.id (e.kids.getD 2 .zero) (ev (e.kids.headD .zero) env s).1.kids (ev (e.kids.getD 1 .zero) env (ev (e.kids.headD .zero) env s).2)
def zf (c:Bool)(s:XS)(v:Val):Val:=if c=true∧s.fail≠0 then vz else v
def qV (p:Prg)(fl:Nat)(ev:Evl)(e:Exp)(env:List EVar)(s:XS):Val×XS :=
 if e.k=0 then (.mk 0 e.n [],s)
 else if e.k=1 then (.mk 1 e.n [],s)
 else if e.k=2 then (zEu env e.ref e.n,s)
 else if e.k=5∨e.k=6∨e.k=8∨e.k=10∨e.k=12 then zAn ev e env s
 else if e.k=3 then zB5 ev (dfn p e.ref) (qZ ev env e.kids s).1 (qZ ev env e.kids s).2
 else if e.k=4 then (zf true (qZ ev env e.kids s).2 (opV e.n (qZ ev env e.kids s).1),(qZ ev env e.kids s).2)
 else if e.k=7 then (zf (fl==1) (qZ ev env e.kids s).2 (.mk 2 0 (qZ ev env e.kids s).1),(qZ ev env e.kids s).2)
 else if e.k=9 then (zf (fl==1) (qZ ev env e.kids s).2 (.mk 3 e.n (qZ ev env e.kids s).1),(qZ ev env e.kids s).2)
 else (zf (fl==1) (qZ ev env e.kids s).2 (.mk 4 0 (qZ ev env e.kids s).1),(qZ ev env e.kids s).2)
def zJD (v:Val):Prop:=256<zGm v∨24<zD2 v
instance (v:Val):Decidable (zJD v):=by unfold zJD; infer_instance
abbrev zFK:Int:=18
abbrev zNx:Int:=4
def zDi (r:Val×XS):XS:=if r.2.fail=0∧zJD r.1 then {r.2 with fail:=zNx} else r.2
def zOL (fl:Nat)(r:Val×XS):Val×XS:=(zf (fl==2) (zDi r) r.1,zDi r)
def zEc (e:Exp)(s:XS):XS:={s with fuel:=s.fuel-1,ns:=s.ns++[e.id]}
def zAq (p:Prg)(fl:Nat):Nat→Evl
 | 0,_,_,s=>if s.fail≠0 then (vz,s) else (vz,{s with fail:=zFK})
 | m+1,e,env,s =>
  if s.fail≠0 then (vz,s) else if s.fuel≤0 then (vz,{s with fail:=zFK})
  else zOL fl (qV p fl (zAq p fl m) e env (zEc e s))
theorem zSe.mono {hs:List Hd}{own:Int}{f:FuncId}{m:Mk}{args:List A}{env:List Bnd}{t:Typ}{c c':Int}(h:zSe hs own f m args env t c)(hc:c≤c'):zSe hs own f m args env t c':=by obtain⟨e,m',h1,h2,h3,h4,h5⟩:=h;exact⟨e,m',h1,h2.mono hc,h3,h4,h5⟩
def zZp:K:=G [kO 2 0,kO 3 1,kZ 4 kz0,kMb 5 false] (G [J 9 2 2,J 10 3 3,kC 11 96 [(kt 9),(kt 10)],M 8 11,kE 12 8 0,kE 13 8 1,kZ 6 kz0,S 6 12 31,M 7 13] (Z (K.wk (K.dops [(0,0,J 14 6 31),(1,0,M 15 7),(2,0,M 16 15),(3,0,T 16 true (D 17 6 3)),(4,0,T 16 true (L 18 17 1)),(5,0,T 16 true (kQi 19 18 5 false)),(6,0,kPf 20 16 19),(7,0,M 21 20),(8,2,T 21 true (D 22 6 8)),(9,2,T 21 true (L 23 22 1)),(10,2,T 21 true (kN 24 23)),(11,0,T 21 true (kQi 25 24 1 false)),(12,0,kPf 26 21 25),(13,0,S 4 14 31),(14,0,M 5 26)])) kr))
def qIe:Nat→Option (List (Nat×Nat)):=fun r=>match r with | 2=>some [(0,0),(1,0),(2,0),(3,0),(4,0),(5,0),(6,0),(7,0),(8,2),(9,2),(10,2),(11,0),(12,0),(13,0),(14,0)] | _=>none
theorem qGJ:qF prog Tryz.f56.ntmps qIe (Tryz.f56.body.getD .skip)=some zZp.erase:=by kernel_rfl
@[simp] theorem qKv:zA prog 56=true:=by kernel_rfl
def zFI (d:Dfn):Bool:=decide (d.kind=5)&&decide (d.slots.length=1)
def zOG (p:Prg)(id:Id):A:=.tup [.agg (zH ((qW p.defs id).getD .zero)),bl ((qW p.defs id).isSome&&zFI ((qW p.defs id).getD .zero))]
theorem zHB (p:Prg)(id:Id):Ret prog 56 [.agg (zM p),.agg (zF id)] [] (zOG p id) []:=by
 have hP:=eP p;have hdf:=zD1 p id;unfold zOG;unfold zCa at hdf;generalize (qW p.defs id).getD .zero=d at *
 generalize (qW p.defs id).isSome=b at *
 refine qS Tryz.func56 rfl qGJ (rs:=[.cell 4 31 true,.slot 5]) (by kernel_rfl) ?_;unfold zZp;simp -implicitDefEqProofs [hP,zF];refine qK hdf (by simp[zM,zF]) (by simp) ?_;simp -implicitDefEqProofs [zH];refine⟨_,_,zP (l:=[(4,.ptr 0 0),(6,.rptr (zH d)),(7,bl b)]) (σ':=[.box (kz0.map qN)]) [2] 1 (by simp) (by simp) (by simp) (by simp[zH]),?_⟩;cases b
 ·simp -implicitDefEqProofs [zH];exact zB 0 (by simp[zH])
 ·by_cases h0:d.kind=5
  ·by_cases h1:d.slots.length=1
   ·have h1':(d.slots.length:Int)=1:=by omega
    simp -implicitDefEqProofs [zH,h0,h1']
    first | exact fun _=>zB 0 (by simp[zH,h0,zFI,h1]) | exact zB 0 (by simp[zH,h0,zFI,h1])
   ·have h1':¬(d.slots.length:Int)=1:=by omega
    simp -implicitDefEqProofs [zH,h0,h1']
    first | exact fun _=>zB 0 (by simp[zH,h0,zFI,h1]) | exact zB 0 (by simp[zH,h0,zFI,h1])
  ·simp -implicitDefEqProofs [zH,h0];exact zB 0 (by simp[zH,h0,zFI])
theorem zQF {p:Prg}{id:Id}:((qW p.defs id).isSome&&zFI ((qW p.defs id).getD .zero))=(zA1 p id).isSome:=by
 unfold zA1 zFI;cases qW p.defs id with
 | none=>rfl
 | some d =>
  simp only[Option.isSome_some,jBe,jBd];by_cases h:d.kind=5
  ·rw[if_pos h]
   match hs:d.slots with
   | []=>simp
   | [s]=>simp[h]
   | s::s'::l=>simp
  ·rw[if_neg h]; simp[h]
theorem zKK {p:Prg}{id:Id}{a:Typ×Typ}(h:zA1 p id=some a):∃d s,qW p.defs id=some d∧d.kind=5∧d.slots=[s]∧a=(s.typ,d.res):=by
 unfold zA1 at h;cases hd:qW p.defs id with
 | none=>rw[hd]at h; cases h
 | some d =>
  rw[hd]at h;simp only at h;split at h
  ·rename_i hk;split at h
   ·rename_i s hs;cases h;exact⟨d,s,rfl,hk,hs,rfl⟩
   ·cases h
  ·cases h
def zZs:K:=G [kO 2 0,kZ 4 kz2,kZ 5 kz2,kMb 6 false] (Z (G [M 11 1,kN 12 11,kMi 13 0] (K.block 0 (K.loop (G [kB 14 13 12 .lss] (Z (Y 14 ks (K.exit 0)) (Z (K.block 1 (G [M 15 13,kX 16 11 13 3,J 17 16 3,kZ 8 [ki,ki,ki],M 7 15,S 8 17 3] (G [J 19 2 2,J 20 8 3,kC 21 56 [(kt 19),(kt 20)],M 18 21,kE 22 18 0,kE 23 18 1,kZ 9 kz0,S 9 22 31,M 10 23] (Z (Z (K.dops [(0,0,M 24 10),(1,0,kR 25 24),(2,0,M 26 25),(3,0,T 26 false (M 27 7)),(4,0,T 26 false (kBi 28 27 0 .gtr)),(5,0,T 26 false (M 29 28)),(6,0,T 29 true (D 30 9 8)),(7,0,T 29 true (L 31 30 1)),(8,0,T 29 true (kXi 32 31 11 0)),(9,0,T 29 true (D 33 32 4)),(10,0,T 29 true (J 34 33 5)),(11,0,T 29 true (J 35 5 5)),(12,0,T 29 true (kC 36 90 [(kt 34),(kt 35)])),(13,0,T 29 true (kR 37 36)),(14,0,T 26 false (kPf 38 29 37)),(15,0,kPt 39 26 38)]) (Y 39 (G [kb 40 kz2 [],kb 41 kz2 [],S 4 40 5,S 5 41 5,kMb 6 false] kr) ks)) (Z (G [M 42 7,kQi 43 42 0 false] (Y 43 (K.ops [D 44 9 8,L 45 44 1,kXi 46 45 11 0,D 47 46 4,J 48 47 5,S 4 48 5]) ks)) (K.ops [D 49 9 9,J 50 49 5,S 5 50 5])))))) (K.ops [kBi 51 13 1 .add,M 13 51]))))))) (Z (K.dops [(0,0,J 52 4 5),(1,2002,J 53 5 5),(2,0,M 54 1),(3,2,kN 55 54),(4,0,kBi 56 55 0 .gtr),(5,1002,S 4 52 5),(6,0,S 5 53 5),(7,0,M 6 56)]) kr))
def qIf:Nat→Option (List (Nat×Nat)):=fun r=>match r with | 11=>some [(0,0),(1,2002),(2,0),(3,2),(4,0),(5,1002),(6,0),(7,0)] | _=>none
theorem qGM:qF prog Tryz.f44.ntmps qIf (Tryz.f44.body.getD .skip)=some zZs.erase:=by kernel_rfl
@[simp] theorem qKy:zA prog 44=true:=by kernel_rfl
def zVX (p:Prg)(l:List Id):Typ:=((zA1 p (l.getD 0 .zero)).getD (.zero,.zero)).1
def toN (p:Prg)(l:List Id):Nat→Typ
 | 0=>.zero
 | n+1=>((zA1 p (l.getD n .zero)).getD (.zero,.zero)).2
def zHE (p:Prg)(l:List Id):Typ×Typ×Bool:=if zGQ p l=true then (if l=[] then .zero else zVX p l,toN p l l.length,decide (l≠[])) else (.zero,.zero,false)
def zJl (p:Prg)(l:List Id):A:=.tup [.agg (zS (zHE p l).1),.agg (zS (zHE p l).2.1),bl (zHE p l).2.2]
theorem zXR (p:Prg)(l:List Id)(hl:l.length≤1000000):Ret prog 44 [.agg (zM p),.sl l.length (zQ l)] [] (zJl p l) []:=by
 have hP:=eP p;refine qS Tryz.func44 rfl qGM (rs:=[.cell 4 5 true,.cell 5 5 true,.slot 6]) (by kernel_rfl) ?_;unfold zZs;simp -implicitDefEqProofs [hP];intro hlm;refine jX (S:=Nat) (fun i=>[(1,.sl l.length (zQ l)),(2,.ptr 0 0),(4,.ptr 1 0),(5,.ptr 2 0),(11,.sl l.length (zQ l)),(12,int l.length),(13,int i)]) (fun i=>[.box (zM p),.box (zS (if i=0 then .zero else zVX p l)),.box (zS (toN p l i))])
  (fun i=>i≤l.length∧zD9 p l i=true) (fun i=>l.length-i) 0 (by simp[zD9])
  (zP [0,1,2] 0 (by decide) (by simp) (by simp[hP,zS,toN,Typ.zero,Id.zero]) (by simp)) ?_
 rintro i ⟨hi,hp⟩;by_cases h:i<l.length
 ·have hgd:l.getD i .zero=l[i]:=by rw[jBm,jA2 h,jBe]
  have hq:l[i]?=some l[i]:=jA2 h;have hw:=zBg i (by omega);simp -implicitDefEqProofs [hP,h,zCN h];refine qK (zHB p l[i]) (by simp[hP,zF]) (by simp[zOG]) ?_;rw[zOG,zQF];cases hc:zA1 p l[i]with
  | none =>
   have hbad:zGQ p l=false:=zMM h (by rw[zIn,hgd,hc]);simp -implicitDefEqProofs [zS];exact zB 0 (by simp[zJl,zHE,hbad,zS,Typ.zero,Id.zero])
  | some a =>
   obtain⟨d,s,hd,hk,hs,rfl⟩:=zKK hc;have hcs:yN [s]=yJ s:=by simp[yN]
   have hfro:l.getD 0 .zero=l[0]:=by rw[jBm,jA2 (by omega),jBe]
   by_cases h0:i=0
   ·subst h0;simp -implicitDefEqProofs [hP,hd,zS,zH,hs,hcs,yJ];refine zU 1 ⟨h,by simp[zD9,zIn,hq,hc]⟩ (by omega) (zP [0,1,2] 0 (by decide) (by simp) (by simp[hP,zS,toN,zVX,hq,hc]) (by simp[show IntKind.i64.wrap 1=1 from by decide]))
   ·have hi0:(0:Int)<i:=by omega
    obtain⟨j,rfl⟩:∃j,i=j+1:=⟨i-1,by omega⟩;have hqj:l[j]?=some l[j]:=jA2 (by omega);have hgj:l.getD j .zero=l[j]:=by rw[jBm,jA2 (by omega),jBe]
    obtain⟨b,hb⟩:∃b,zA1 p l[j]=some b:=by
     simp only[zD9,jA4]at hp;have h2:=hp.2;rw[zIn,hgj]at h2;cases hb:zA1 p l[j]with
     | none=>rw[hb]at h2; cases h2
     | some b=>exact⟨b,rfl⟩
    have hto:toN p l (j+1)=b.2:=by simp[toN,hqj,hb]
    have hst:zIn p l (j+1)=zE6 s.typ b.2:=by rw[zIn,hgd,hc];simp[hqj,hb]
    simp -implicitDefEqProofs [hP,hd,zS,zH,hs,hcs,yJ,hi0];refine qR (zJ7 s.typ (toN p l (j+1))) (by simp[zS]) (by simp) ?_;rw[hto];cases hsm:zE6 s.typ b.2
    ·have hbad:zGQ p l=false:=zMM h (by rw[hst,hsm]);simp -implicitDefEqProofs [zS];exact zB 0 (by simp[zJl,zHE,hbad,zS,Typ.zero,Id.zero])
    ·have hn1:¬((j:Int)+1=0):=by omega
     simp -implicitDefEqProofs [hP,zS,zH,hn1];refine zU (j+2) ⟨h,by rw[zD9,hp,hst,hsm]; rfl⟩ (by omega) (zP [0,1,2] 0 (by decide) (by simp) (by simp[hP,zS,toN,hq,hc]) (by simp[show IntKind.i64.wrap ((j:Int)+1+1)=(j:Int)+2 from IntWalk.i64_in _ (by omega)]))
 ·have hi':i=l.length:=by omega
  subst hi';have hpv:zGQ p l=true:=hp;have hpos:((0:Int)<l.length)=(l≠[]):=by apply propext;rw[←List.length_pos_iff];omega
  simp -implicitDefEqProofs [hP,zS,hpos]
  first | exact fun _=>zB 0 (by simp[zJl,zHE,hpv,zS,List.length_pos_iff]) | exact zB 0 (by simp[zJl,zHE,hpv,zS,List.length_pos_iff])
@[simp] theorem qNU:zA prog 91=true:=by kernel_rfl
@[simp] theorem qOe:zA prog 47=true:=by kernel_rfl
@[simp] theorem qNO:zA prog 138=true:=by kernel_rfl
@[simp] theorem qJK {d:Option Nat}{x:Operand}{n:Nat}{g:Bool}{env:Env}:zAQ 2002 (.ld d x n g) env=zBt 2 (ev env x):=propext (zG7 (by omega) (by omega))
@[simp] theorem qDq {d:Option Nat}{x:Operand}{l:List Operand}{env:Env}:zAQ 1002 (.call d x l) env=True:=rfl
@[simp] theorem qAs {c l o:Nat}:zBt c (.ptr l o)=(c≤l):=rfl
theorem zZf {n:Nat}(h:n≤1000000000):w64 (n:Int)=n:=IntWalk.i64_in _ (by omega)
theorem zNb:∀(v:Val),qD v≤100000000→zGm v=qD v:=by
 intro v h;rw[zQa,zC3];have key:∀i,i≤v.kids.length→zOc (v.kids.take i)=((1+jG (v.kids.take i):Nat):Int):=by
  intro i;induction i with
  | zero=>intro _; simp[zOc,jG]
  | succ i ih =>
   intro hi;have e1:=zJ9 (l:=v.kids) (i:=i) (by omega);have e2:=zIl v.kids (i+1);have e3:=zC3 v;have hk:qD (v.kids[i]'(by omega))<qD v:=zAG (jA3 _);rw[zNd (by omega),ih (by omega),zNb (v.kids[i]'(by omega)) (by omega),e1];rw[IntWalk.i64_in _ (by omega)];omega
 have:=key v.kids.length (jA _)
 rwa [jBa]at this
termination_by v=>qD v
theorem zFJ:∀(a b:List Val),yT (a++b)=max (yT a) (yT b)
 | [],b=>by simp[yT]
 | x::a,b=>by simp only[jB9,yT,zFJ a b]; omega
mutual
theorem zMd:∀(v:Val),zAs v≤qD v
 | .mk _ _ l=>by simp only[zAs,qD]; have:=zKs l; omega
theorem zKs:∀(l:List Val),yT l≤jG l
 | []=>by simp[yT]
 | v::l=>by simp only[yT,jG]; have:=zMd v; have:=zKs l; omega
end
theorem zKr:∀(v:Val),qD v≤100000000→zD2 v=zAs v:=by
 intro v h;rw[zMe,zCl];have key:∀i,i≤v.kids.length→zNH (v.kids.take i)=((yT (v.kids.take i):Nat):Int):=by
  intro i;induction i with
  | zero=>intro _; simp[zNH,yT]
  | succ i ih =>
   intro hi;have hk:qD (v.kids[i]'(by omega))<qD v:=zAG (jA3 _);rw[zMH (by omega),ih (by omega),zKr (v.kids[i]'(by omega)) (by omega),jAh (by omega),zFJ];simp only[yT,zUf];split<;>omega
 have:=key v.kids.length (jA _);rw[jBa]at this;rw[this];have h1:=zMd v;have h2:=zCl v;have:((yT v.kids:Nat):Int)+1=((yT v.kids+1:Nat):Int):=by omega
 rw[this,zZf (by omega)]
termination_by v=>qD v
@[simp] theorem qNL:zA prog 135=true:=by kernel_rfl
@[simp] theorem zAT:∀(a b:List Val),zJ (a++b)=zJ a++zJ b
 | [],b=>by simp
 | x::a,b=>by simp[zAT a b]
theorem jQ {k n:Int}{l:List Val}:(Val.mk k n l).k=k:=rfl
theorem qP {k n:Int}{l:List Val}:(Val.mk k n l).n=n:=rfl
theorem zV {k n:Int}{l:List Val}:(Val.mk k n l).kids=l:=rfl
@[simp] theorem qOj:zA prog 89=true:=by kernel_rfl
@[simp] theorem qOk:zA prog 43=true:=by kernel_rfl
theorem zU0 {l:List Val}{c:Nat}(h:∀v∈l,qD v≤c):jG l≤l.length*c:=by
 induction l with
 | nil=>simp[jG]
 | cons v l ih =>
  have h1:=h v (jAk ..);have h2:=ih fun x hx=>h x (jAf _ hx)
  simp only[jG,jAl,jAt,Nat.one_mul];omega
@[simp] theorem qNF:zA prog 136=true:=by kernel_rfl
@[simp] theorem qNY:zA prog 40=true:=by kernel_rfl
@[simp] theorem qOf:zA prog 14=true:=by kernel_rfl
@[simp] theorem qNs:zA prog 137=true:=by kernel_rfl
@[simp] theorem qNE:zA prog 85=true:=by kernel_rfl
@[simp] theorem qEW {σ : St}:zCS 2002 σ = σ:=rfl
theorem zUQ.mono {hs:List Hd}{R:Nat}{c c' depth:Int}{Q Q':Nat→Prop}{len len':Nat}(h:zUQ hs R c depth Q len)(hc:c≤c')(hQ:∀r,Q' r→Q r)(hl:len'≤len):zUQ hs R c' depth Q' len' :=
 fun m r t env hx hm hr hq he h1 h2=>(h m r t env hx (hm.mono hc) hr (hQ r hq) he h1 (by omega)).mono hc
@[simp] theorem qKG:zA prog 86=true:=by kernel_rfl
@[simp] theorem qKI:zA prog 87=true:=by kernel_rfl
@[simp] theorem qKR:zA prog 88=true:=by kernel_rfl
@[simp] theorem qJJ {d:Option Nat}{x:Operand}{n:Nat}{g:Bool}{env:Env}:zAQ 2001 (.ld d x n g) env=zBt 1 (ev env x):=propext (zG7 (by omega) (by omega))
@[simp] theorem qDp {d:Option Nat}{x:Operand}{l:List Operand}{env:Env}:zAQ 1001 (.call d x l) env=True:=rfl
@[simp] theorem qEV {σ : St}:zCS 2001 σ = σ:=rfl
theorem zXi (e:Exp):tmps e=zIp e.kids++[e.id.c]:=by cases e; simp only[tmps,Exp.kids,Exp.id]
mutual
def qJv (f:Int→Id):Exp→Exp
 | .mk i k n r t ks ns=>.mk (f i.c) k n (if k=2∧r.b=0 then f r.c else r) t (qAK f ks) ns
def qAK (f:Int→Id):List Exp→List Exp
 | []=>[]
 | e::l=>qJv f e::qAK f l
end
@[simp] theorem qOl:zA prog 125=true:=by kernel_rfl
@[simp] theorem qNH:zA prog 127=true:=by kernel_rfl
@[simp] theorem qKD:zA prog 141=true:=by kernel_rfl
@[simp] theorem qNP:zA prog 84=true:=by kernel_rfl
structure Pln where
 kind:Int
 name:ByteArray
 types:List Typ
 names:List ByteArray
 most:List Int
 out:Typ
 mod:Int
def zIA (p:Pln):List A:=[int p.kind,.lit (.string p.name),.sl p.types.length (jV p.types),.sl p.names.length (zA7 p.names),.sl p.most.length (zBe p.most),int p.out.k,int p.out.id.a,int p.out.id.b,int p.out.id.c,.sl p.out.kids.length (jV p.out.kids),int p.mod]
theorem zHd (p:Pln):qE (zIA p):=by have h1:=yI p.types;have h2:=zBo p.names;have h3:=yI p.out.kids;exact⟨by simp[zIA,h1.1,h2.1,h3.1],fun rf g=>by simp[zIA,h1.2,h2.2,h3.2]⟩
def zFE (l:List Pln):List A:=l.flatMap zIA
theorem zH8 (l:List Pln):qE (zFE l):=zAU zHd l
@[simp] theorem qA4 (l:List Pln):qU (zFE l)=zFE l:=(zH8 l).1
@[simp] theorem qFm {rf g}(l:List Pln):vwL rf g (zFE l)=zFE l:=(zH8 l).2 _ _
@[simp] theorem qB8:zFE []=[]:=rfl
@[simp] theorem qB7 (l:List Pln):(zFE l).length=l.length*11:=by rw[zFE,zBG (k:=11) (fun _=>rfl)]
@[simp] theorem qHH (d:Pln):(zIA d).length=11:=rfl
@[simp] theorem qHG (d:Pln):(zIA d).take 11=zIA d:=jAm (jA _)
@[simp] theorem qEc (d:Pln)(l:List A):(zIA d++l).take 11=zIA d:=by rw[jC (by simp)]; exact jAm (by simp)
@[simp] theorem qE8 (d:Pln):qU (zIA d)=zIA d:=(zHd d).1
@[simp] theorem qMh (d:Pln) {rf g}:vwL rf g (zIA d)=zIA d:=(zHd d).2 _ _
section
variable (l:List Int)(mods:Int)
end
end Go.Proofs.YtdnelmeboihpkaaGreatDoor

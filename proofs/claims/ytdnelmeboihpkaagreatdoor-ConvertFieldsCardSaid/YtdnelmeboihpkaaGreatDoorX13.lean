/-
  Types of expressions; which definitions the maker may name.
  value.Def, and ValidType of package value and of the reference.
  trace.Changed.
  The maker's literals.
  Paths of converters, as data.
  value.fits and value.Valid.
  The maker's literals, walked.
  value.fits and value.Valid: whether a value has a type.
  Evaluation as data: operations, and a run with its fuel, its failure, and what it has asked.
  The maker's literals of variants and records; all literals.
  convert.converter, ends, follow and Along.
  fits and Valid of the reference.
  The maker's operations.
  Size and depth in plain numbers; Valid of the reference.
  The maker's matches.
  The zero value of a type, by the reference.
  The maker's fields and calls.
-/
import Derived.Test.YtdnelmeboihpkaaGreatDoorX12
import Derived.Test.YtdnelmeboihpkaaGreatDoorX11
set_option linter.unusedVariables false
set_option maxHeartbeats 8000000
set_option maxRecDepth 100000
set_option linter.unusedSimpArgs false
open Go.Proofs.Tryz (prog)
namespace Go.Proofs.YtdnelmeboihpkaaGreatDoor
open Go.Abs
structure Hd where
 id:Id
 kind:Int
 slots:List Slt
 res:Typ
def Dfn.hd (d:Dfn):Hd:=⟨d.id,d.kind,d.slots,d.res⟩
abbrev zAU:Typ:=.mk 0 Id.zero []
abbrev zAc:Typ:=.mk 1 Id.zero []
abbrev zDo (t:Typ):Typ:=.mk 2 Id.zero [t]
abbrev jP (d:Id):Typ:=.mk 3 d []
inductive TyOk (hs:List Hd):Nat→Typ→Prop
 | int (r:Nat):TyOk hs r zAU
 | bool (r:Nat):TyOk hs r zAc
 | list (r:Nat) (t:Typ) (h:TyOk hs r t):TyOk hs (r+1) (zDo t)
 | dfn (r k:Nat) (h:k<hs.length) (h1:∀(j:Nat) (hj:j<k),hs[j].id≠hs[k].id) (h2:hs[k].kind=0∨hs[k].kind=1∧0<hs[k].slots.length) (h3:hs[k].slots.length≤6)
  (h4:∀s∈hs[k].slots,TyOk hs r s.typ):TyOk hs (r+1) (jP hs[k].id)
theorem TyOk.mono {hs:List Hd}{r r':Nat}{t:Typ}(h:TyOk hs r t)(hr:r≤r'):TyOk hs r' t:=by
 induction h generalizing r' with
 | int r=>exact .int _
 | bool r=>exact .bool _
 | list r t h ih =>
  obtain⟨q,rfl⟩:∃q,r'=q+1:=⟨r'-1,by omega⟩;exact .list _ _ (ih (by omega))
 | dfn r k h h1 h2 h3 h4 ih =>
  obtain⟨q,rfl⟩:∃q,r'=q+1:=⟨r'-1,by omega⟩;exact .dfn _ k h h1 h2 h3 fun s hs'=>ih s hs' (by omega)
def zC7 (env:List Bnd)(x:Id)(n:Int):Option Typ:=(env.reverse.find? fun b=>decide (b.id=x)&&decide (b.n=n)).map (·.typ)
inductive WT (hs:List Hd)(own:Int):List Bnd→Exp→Typ→Prop
 | int (env i n) (h1 : -1099511627776≤n) (h2:n≤1099511627776):WT hs own env (.mk i 0 n Id.zero Typ.zero [] []) zAU
 | bool (env i n) (h:n=0∨n=1):WT hs own env (.mk i 1 n Id.zero Typ.zero [] []) zAc
 | var (env i n x t) (h:zC7 env x n=some t):WT hs own env (.mk i 2 n x Typ.zero [] []) t
 | call (env i) (k:Nat) (h:k<hs.length) (ks) (ho:(k:Int)<own) (hk:hs[k].kind=2) (hl:ks.length=hs[k].slots.length) (hw:∀(j:Nat) (hj:j<ks.length),WT hs own env ks[j] (hs[k].slots[j]'(hl▸hj)).typ) :
  WT hs own env (.mk i 3 0 hs[k].id Typ.zero ks []) hs[k].res
 | arith (env i n a b) (h1:0≤n) (h2:n≤4) (ha:WT hs own env a zAU) (hb:WT hs own env b zAU):WT hs own env (.mk i 4 n Id.zero Typ.zero [a,b] []) zAU
 | less (env i a b) (ha:WT hs own env a zAU) (hb:WT hs own env b zAU):WT hs own env (.mk i 4 5 Id.zero Typ.zero [a,b] []) zAc
 | same (env i a b u) (ha:WT hs own env a u) (hb:WT hs own env b u):WT hs own env (.mk i 4 6 Id.zero Typ.zero [a,b] []) zAc
 | andor (env i n a b) (h:n=7∨n=8) (ha:WT hs own env a zAc) (hb:WT hs own env b zAc):WT hs own env (.mk i 4 n Id.zero Typ.zero [a,b] []) zAc
 | not (env i a) (ha:WT hs own env a zAc):WT hs own env (.mk i 4 9 Id.zero Typ.zero [a] []) zAc
 | join (env i a b t) (ha:WT hs own env a (zDo t)) (hb:WT hs own env b (zDo t)):WT hs own env (.mk i 4 10 Id.zero Typ.zero [a,b] []) (zDo t)
 | len (env i a t) (ha:WT hs own env a (zDo t)):WT hs own env (.mk i 4 11 Id.zero Typ.zero [a] []) zAU
 | ite (env i a b c t) (ha:WT hs own env a zAc) (hb:WT hs own env b t) (hc:WT hs own env c t):WT hs own env (.mk i 5 0 Id.zero Typ.zero [a,b,c] []) t
 | lets (env i a b u t ns) (hn:ns.length≤10) (ha:WT hs own env a u) (hb:WT hs own (env++[⟨i,0,u⟩]) b t):WT hs own env (.mk i 6 0 Id.zero Typ.zero [a,b] ns) t
 | record (env i) (k:Nat) (h:k<hs.length) (ks) (hk:hs[k].kind=0) (hl:ks.length=hs[k].slots.length) (hw:∀(j:Nat) (hj:j<ks.length),WT hs own env ks[j] (hs[k].slots[j]'(hl▸hj)).typ) :
  WT hs own env (.mk i 7 0 hs[k].id Typ.zero ks []) (jP hs[k].id)
 | field (env i) (k:Nat) (h:k<hs.length) (j:Nat) (hj:j<hs[k].slots.length) (a) (hk:hs[k].kind=0) (ha:WT hs own env a (jP hs[k].id)):WT hs own env (.mk i 8 j hs[k].id Typ.zero [a] []) hs[k].slots[j].typ
 | case (env i) (k:Nat) (h:k<hs.length) (j:Nat) (hj:j<hs[k].slots.length) (a) (hk:hs[k].kind=1) (ha:WT hs own env a hs[k].slots[j].typ):WT hs own env (.mk i 9 j hs[k].id Typ.zero [a] []) (jP hs[k].id)
 | mtch (env i) (k:Nat) (h:k<hs.length) (a ks t ns) (hn:ns.length≤10) (hk:hs[k].kind=1) (hl:ks.length=hs[k].slots.length) (ha:WT hs own env a (jP hs[k].id))
  (hw:∀(j:Nat) (hj:j<ks.length),WT hs own (env++[⟨i,j,(hs[k].slots[j]'(hl▸hj)).typ⟩]) ks[j] t):WT hs own env (.mk i 10 0 hs[k].id Typ.zero (a::ks) ns) t
 | list (env i t ks) (hw:∀(j:Nat) (hj:j<ks.length),WT hs own env ks[j] t):WT hs own env (.mk i 11 0 Id.zero t ks []) (zDo t)
 | fold (env i l s b u t ns) (hn:ns.length≤10) (hl:WT hs own env l (zDo u)) (hs':WT hs own env s t) (hb:WT hs own (env++[⟨i,0,u⟩]++[⟨i,1,t⟩]) b t):WT hs own env (.mk i 12 0 Id.zero Typ.zero [l,s,b] ns) t
mutual
def tmps:Exp→List Int
 | .mk i _ _ _ _ ks _=>zI7 ks++[i.c]
def zI7:List Exp→List Int
 | []=>[]
 | e::l=>tmps e++zI7 l
end
mutual
def Exp.num0:Exp→Prop
 | .mk i _ _ _ _ ks _=>(i.a=0∧i.b=0)∧zQh ks
def zQh:List Exp→Prop
 | []=>True
 | e::l=>e.num0∧zQh l
end
theorem zNj:∀l:List Exp,zQh l↔∀e∈l,e.num0
 | []=>by simp[zQh]
 | e::l=>by simp[zQh,zNj l]
structure Seg (lo hi:Int)(l:List Int):Prop where
 nd:l.Nodup
 rng:∀x∈l,lo≤x∧x<hi
theorem Seg.append {a b c:Int}{l l':List Int}(h:Seg a b l)(h':Seg b c l')(hab:a≤b)(hbc:b≤c):Seg a c (l++l'):=by
 refine⟨jCi.2 ⟨h.nd,h'.nd,fun x hx y hy e=>?_⟩,fun x hx=>?_⟩
 ·have h1:=h.rng x hx;have h2:=h'.rng y hy;omega
 ·rcases jAe.1 hx with hx | hx
  ·have:=h.rng x hx; omega
  ·have:=h'.rng x hx; omega
theorem Seg.perm {a b:Int}{l l':List Int}(h:Seg a b l)(hp:l.Perm l'):Seg a b l':=⟨hp.nodup_iff.1 h.nd,fun x hx=>h.rng x (hp.mem_iff.2 hx)⟩
theorem Seg.one (a:Int):Seg a (a+1) [a]:=⟨by simp,fun x hx=>by simp at hx; omega⟩
theorem Seg.nil {a b:Int}:Seg a b []:=⟨by simp,fun x hx=>by simp at hx⟩
theorem Seg.mono {a b a' b':Int}{l:List Int}(h:Seg a b l)(h1:a'≤a)(h2:b≤b'):Seg a' b' l:=⟨h.nd,fun x hx=>by have:=h.rng x hx; omega⟩
structure Adv (m m':Mk)(c:Int):Prop where
 mods:m'.mods=m.mods
 defs:m'.defs=m.defs
 l:m'.l=m.l
 own:m'.own=m.own
 home:m'.home=m.home
 at1:m.at_≤m'.at_
 at2:m'.at_≤m.at_+c
 temp1:m.temp≤m'.temp
 temp2:m'.temp≤m.temp+c
 left1:m.left-c≤m'.left
 left2:m'.left≤m.left
 name1:m.name≤m'.name
 name2:m'.name≤m.name+c
theorem Adv.trans {m m1 m2:Mk}{c c':Int}(h:Adv m m1 c)(k:Adv m1 m2 c'):Adv m m2 (c+c'):=by obtain⟨h1,h2,h3,h4,h5,h6,h7,h8,h9,h10,h11,h12,h13⟩:=h;obtain⟨k1,k2,k3,k4,k5,k6,k7,k8,k9,k10,k11,k12,k13⟩:=k;exact⟨k1.trans h1,k2.trans h2,k3.trans h3,k4.trans h4,k5.trans h5,by omega,by omega,by omega,by omega,by omega,by omega,by omega,by omega⟩
theorem Adv.mono {m m1:Mk}{c c':Int}(h:Adv m m1 c)(hc:c≤c'):Adv m m1 c':=by obtain⟨h1,h2,h3,h4,h5,h6,h7,h8,h9,h10,h11,h12,h13⟩:=h;exact⟨h1,h2,h3,h4,h5,by omega,by omega,by omega,by omega,by omega,by omega,by omega,by omega⟩
structure Lim (m:Mk)(c:Int):Prop where
 at1:0≤m.at_
 at2:m.at_+c≤1000000000000000
 temp1:0≤m.temp
 temp2:m.temp+c≤1000000000000000
 left1 : -1000000000000000≤m.left-c
 left2:m.left≤1000000000000000
 name1:0≤m.name
 name2:m.name+c≤1000000000000000
theorem Lim.adv {m m1:Mk}{c c':Int}(h:Lim m (c+c'))(k:Adv m m1 c):Lim m1 c':=by obtain⟨h1,h2,h3,h4,h5,h6,h7,h8⟩:=h;obtain⟨k1,k2,k3,k4,k5,k6,k7,k8,k9,k10,k11,k12,k13⟩:=k;exact⟨by omega,by omega,by omega,by omega,by omega,by omega,by omega,by omega⟩
theorem Lim.mono {m:Mk}{c c':Int}(h:Lim m c)(hc:c'≤c):Lim m c':=by obtain⟨h1,h2,h3,h4,h5,h6,h7,h8⟩:=h;exact⟨by omega,by omega,by omega,by omega,by omega,by omega,by omega,by omega⟩
structure Cx (hs:List Hd)(R:Nat)(m:Mk):Prop where
 heads:m.defs.map Dfn.hd=hs
 len:hs.length≤100
 len0:0<hs.length
 mods:0<m.mods.length
 nums:∀x∈m.l,w64 x=x
 own:m.own≤1000
 typs:∀(k:Nat) (h:k<hs.length),hs[k].kind=0∨hs[k].kind=1→TyOk hs R (jP hs[k].id)
 slots:∀(k:Nat) (h:k<hs.length),hs[k].slots.length≤6∧∀s∈hs[k].slots,TyOk hs R s.typ
theorem Cx.adv {hs:List Hd}{R:Nat}{m m':Mk}{c:Int}(h:Cx hs R m)(k:Adv m m' c):Cx hs R m':=by obtain⟨h1,h2,h3,h4,h5,h6,h7,h8⟩:=h;exact⟨by rw[k.defs]; exact h1,h2,h3,by rw[k.mods]; exact h4,by rw[k.l]; exact h5,by rw[k.own]; exact h6,h7,h8⟩
theorem Cx.dlen {hs:List Hd}{R:Nat}{m:Mk}(h:Cx hs R m):m.defs.length=hs.length:=by rw[←h.heads,jB2]
theorem Cx.get {hs:List Hd}{R:Nat}{m:Mk}(h:Cx hs R m){k:Nat}(hk:k<m.defs.length):hs[k]'(h.dlen▸hk)=m.defs[k].hd:=by obtain⟨rfl,_⟩:=h;simp
structure EnvOk (hs:List Hd)(R:Nat)(temp:Int)(env:List Bnd):Prop where
 typs:∀b∈env,TyOk hs R b.typ
 nd:env.Pairwise fun b c=>¬(b.id=c.id∧b.n=c.n)
 new:∀b∈env,b.id.b=0→b.id.c<temp
theorem EnvOk.mono {hs:List Hd}{R:Nat}{temp temp':Int}{env:List Bnd}(h:EnvOk hs R temp env)(ht:temp≤temp'):EnvOk hs R temp' env:=⟨h.typs,h.nd,fun b hb h0=>by have:=h.new b hb h0; omega⟩
theorem EnvOk.snoc {hs:List Hd}{R:Nat}{temp:Int}{env:List Bnd}(h:EnvOk hs R temp env)(c n:Int)(t:Typ)(ht:TyOk hs R t)(hc:∀b∈env,b.id=⟨0,0,c⟩→b.n≠n)(hct:c<temp):EnvOk hs R temp (env++[⟨⟨0,0,c⟩,n,t⟩]):=by
 refine⟨fun b hb=>?_,?_,fun b hb h0=>?_⟩
 ·rcases jAe.1 hb with hb | hb
  ·exact h.typs b hb
  ·rw[jAh.1 hb]; exact ht
 ·rw[jCs];refine⟨h.nd,by simp,fun b hb c' hc'=>?_⟩;rw[jAh.1 hc'];exact fun e=>hc b hb e.1 e.2
 ·rcases jAe.1 hb with hb | hb
  ·exact h.new b hb h0
  ·rw[jAh.1 hb]; exact hct
def qQ (l:List Dfn)(id:Id):Option Dfn:=l.find? fun d=>decide (d.id=id)
theorem zHv (d:Dfn)(l:List Dfn)(id:Id):qQ (d::l) id=if d.id=id then some d else qQ l id:=by unfold qQ;rw[jD8];by_cases h:d.id=id<;>simp[h]
theorem zRk (l:List Dfn)(id:Id):zHR l id=((qQ l id).getD .zero,(qQ l id).isSome):=by unfold zHR qQ;cases l.find? fun d=>decide (d.id=id)<;>rfl
def qA2:K:=G [kO 2 0,kMb 3 false] (G [D 4 2 0,J 5 4 3,J 6 1 3,⟨none,.eqs (some 7) false [.i,.i,.i] (kt 5) (kt 6)⟩,M 3 7] kr)
theorem qIs:zQ prog Tryz.f144.ntmps (Tryz.f144.body.getD .skip)=some qA2.erase:=by kernel_rfl
@[simp] theorem qMd:zB prog 144=true:=by kernel_rfl
def qA4:K:=G [kMi 4 0] (Z (G [M 6 0,kN 7 6,kMi 8 0] (K.block 0 (K.loop (G [kB 9 8 7 .lss] (Z (Y 9 ks (K.exit 0)) (Z (K.block 1 (G [M 10 8,M 5 10] (G [M 11 1,M 12 0,M 13 5,kX 14 12 13 31,J 15 14 31,⟨none,.call (some 16) (kt 11) [(kt 15)]⟩] (Y 16 (G [M 17 5,M 4 17] kr) ks)))) (K.ops [kBi 18 8 1 .add,M 8 18]))))))) (G [⟨none,.mov (some 4) (kc (-1))⟩] kr))
theorem qIu:zQ prog Tryz.f143.ntmps (Tryz.f143.body.getD .skip)=some qA4.erase:=by kernel_rfl
@[simp] theorem qMf:zB prog 143=true:=by kernel_rfl
def qA1:K:=G [kO 2 0,kO 3 1,kZ 4 kz0,kMb 5 false] (G [D 7 2 1,L 8 7 1,⟨none,.clo (some 9) 144 [] [(kt 3)]⟩,kC 10 143 [(kt 8),(kt 9)],M 6 10] (Z (G [M 11 6,kBi 12 11 0 .lss] (Y 12 (G [kb 13 kz0 [],S 4 13 31,kMb 5 false] kr) ks)) (G [D 14 2 1,L 15 14 1,M 16 6,kX 17 15 16 31,J 18 17 31,S 4 18 31,kMb 5 true] kr)))
theorem qIr:zQ prog Tryz.f96.ntmps (Tryz.f96.body.getD .skip)=some qA1.erase:=by kernel_rfl
@[simp] theorem qMc:zB prog 96=true:=by kernel_rfl
def qBU:K:=G [kO 3 0,kO 4 1,kMb 6 false] (Z (G [M 9 2,kBi 10 9 24 .gtr] (Y 10 (G [kMb 6 false] kr) ks)) (Z (G [D 11 4 0,L 12 11 1,kQi 13 12 2 false] (Y 13 (Z (K.dops [(0,0,D 14 4 1),(1,0,J 15 14 3),(2,0,kb 16 [ki,ki,ki] []),(3,0,⟨none,.eqs (some 17) false [.i,.i,.i] (kt 15) (kt 16)⟩),(4,0,M 18 17),(5,0,T 18 true (D 19 4 4)),(6,0,T 18 true (L 20 19 1)),(7,0,T 18 true (kN 21 20)),(8,0,T 18 true (kQi 22 21 1 false)),(9,0,kPf 23 18 22),(10,0,M 24 23),(11,0,T 24 true (J 25 3 2)),(12,0,T 24 true (D 26 4 4)),(13,0,T 24 true (L 27 26 1)),(14,0,T 24 true (kXi 28 27 5 0)),(15,0,T 24 true (J 29 28 5)),(16,0,T 24 true (M 30 2)),(17,0,T 24 true (kBi 31 30 1 .add)),(18,0,T 24 true (kC 32 169 [(kt 25),(kt 29),(kt 31)])),(19,0,kPf 33 24 32),(20,0,M 6 33)]) kr) ks)) (Z (G [D 34 4 4,L 35 34 1,kN 36 35,kBi 37 36 0 .gtr] (Y 37 (G [kMb 6 false] kr) ks)) (Z (G [D 38 4 0,L 39 38 1,kQi 40 39 3 false] (Y 40 (G [J 42 3 2,D 43 4 1,J 44 43 3,kC 45 36 [(kt 42),(kt 44)],M 41 45,kE 46 41 0,kE 47 41 1,kZ 7 kz0,S 7 46 31,M 8 47] (G [M 48 8,M 49 48,T 49 true (D 50 7 3),T 49 true (L 51 50 1),T 49 true (kQi 52 51 0 false),T 49 true (M 53 52),T 53 false (D 54 7 3),T 53 false (L 55 54 1),T 53 false (kQi 56 55 1 false),T 49 true (kPt 57 53 56),kPf 58 49 57,M 6 58] kr)) ks)) (G [D 59 4 1,J 60 59 3,kb 61 [ki,ki,ki] [],⟨none,.eqs (some 62) false [.i,.i,.i] (kt 60) (kt 61)⟩,M 63 62,T 63 true (D 64 4 0),T 63 true (L 65 64 1),T 63 true (kQi 66 65 0 false),T 63 true (M 67 66),T 67 false (D 68 4 0),T 67 false (L 69 68 1),
 T 67 false (kQi 70 69 1 false),T 63 true (kPt 71 67 70),kPf 72 63 71,M 6 72] kr)))))
theorem qIj:zQ prog Tryz.f169.ntmps (Tryz.f169.body.getD .skip)=some qBU.erase:=by kernel_rfl
@[simp] theorem qPw:zB prog 169=true:=by kernel_rfl
def qHf:K:=G [kO 2 0,kO 3 1,kMb 4 false] (G [J 5 2 2,J 6 3 5,kC 7 169 [(kt 5),(kt 6),(kc 1)],M 4 7] kr)
theorem qOq:zQ prog Tryz.f139.ntmps (Tryz.f139.body.getD .skip)=some qHf.erase:=by kernel_rfl
@[simp] theorem qPx:zB prog 139=true:=by kernel_rfl
def qHq:K:=G [kO 2 0,kO 3 1,kMb 4 false] (Z (G [kMi 5 1] (K.block 0 (K.loop (Z (G [M 8 5,kBi 9 8 24 .leq] (Y 9 ks (K.exit 0))) (Z (K.block 1 (G [D 12 3 0,L 13 12 1] (K.block 2 (Z (G [kQi 15 13 0 false,M 14 15] (Y 14 ks (K.ops [kQi 16 13 1 false,M 14 16]))) (Y 14 (G [D 17 3 1,J 18 17 3,kb 19 [ki,ki,ki] [],⟨none,.eqs (some 20) false [.i,.i,.i] (kt 18) (kt 19)⟩,M 21 20,T 21 true (D 22 3 4),T 21 true (L 23 22 1),T 21 true (kN 24 23),T 21 true (kQi 25 24 0 false),kPf 26 21 25,M 4 26] kr) (G [kQi 28 13 3 false,M 27 28] (Y 27 (G [J 30 2 2,D 31 3 1,J 32 31 3,kC 33 96 [(kt 30),(kt 32)],M 29 33,kE 34 29 0,kE 35 29 1,kZ 6 kz0,S 6 34 31,M 7 35] (G [M 36 7,M 37 36,T 37 true (D 38 6 3),T 37 true (L 39 38 1),T 37 true (kQi 40 39 0 false),T 37 true (M 41 40),T 41 false (D 42 6 3),T 41 false (L 43 42 1),T 41 false (kQi 44 43 1 false),T 37 true (kPt 45 41 44),kPf 46 37 45,M 47 46,T 47 true (D 48 3 4),T 47 true (L 49 48 1),T 47 true (kN 50 49),T 47 true (kQi 51 50 0 false),kPf 52 47 51,M 4 52] kr)) (G [kQi 54 13 2 false,M 53 54] (Y 53 (Z (G [D 55 3 1,J 56 55 3,kb 57 [ki,ki,ki] [],⟨none,.eqs (some 58) true [.i,.i,.i] (kt 56) (kt 57)⟩,M 59 58,T 59 false (D 60 3 4),T 59 false (L 61 60 1),T 59 false (kN 62 61),T 59 false (kQi 63 62 1 true),kPt 64 59 63] (Y 64 (G [kMb 4 false] kr) ks)) (K.ops [D 65 3 4,L 66 65 1,kXi 67 66 5 0,J 68 67 5,S 3 68 5])) (G [kMb 4 false] kr)))))))))) (K.ops [M 10 5,kBi 11 10 1 .add,M 5 11])))))) (G [kMb 4 false] kr))
theorem qO1:zQ prog Tryz.f114.ntmps (Tryz.f114.body.getD .skip)=some qHq.erase:=by kernel_rfl
@[simp] theorem qPK:zB prog 114=true:=by kernel_rfl
theorem zY6 (d:Dfn)(id:Id):Ret prog 144 [.agg (zF d),.ptr 0 0] [.box (zG id)] (bl (decide (d.id=id))) [.box (zG id)]:=by refine zH Tryz.func144 rfl qIs (rs:=[.slot 3]) (by kernel_rfl) ?_;unfold qA2;simp[zF,zG,zYJ];exact zL [0] 0 (by simp) (by simp) (by simp) (by simp)
def zMk:List Dfn→Id→Nat→Int
 | [],_,_=>-1
 | d::l,id,n=>if d.id=id then n else zMk l id (n+1)
theorem zMZ:∀(l:List Dfn) (id:Id) (n:Nat),(qQ l id=none∧zMk l id n = -1)∨∃(i:Nat) (h:i<l.length),zMk l id n=(n+i:Nat)∧qQ l id=some l[i]
 | [],id,n=>.inl ⟨rfl,rfl⟩
 | d::l,id,n=>by
  simp only[zHv,zMk];by_cases hd:d.id=id
  ·exact .inr ⟨0,by simp,by simp[hd],by simp[hd]⟩
  ·simp only[hd,if_false];rcases zMZ l id (n+1)with h | ⟨i,hi,h1,h2⟩
   ·exact .inl h
   ·exact .inr ⟨i+1,by simpa using hi,by rw[h1]; congr 1; omega,by simpa using h2⟩
theorem zOc (l:List Dfn)(id:Id):Ret prog 143 [.sl l.length (qI l),.clo 144 [] [.ptr 0 0]] [.box (zG id)] (int (zMk l id 0)) [.box (zG id)]:=by
 refine zH Tryz.func143 rfl qIu (rs:=[.slot 4]) (by kernel_rfl) ?_;unfold qA4;simp;intro hl;refine jR (S:=Nat) (fun i=>[(0,.sl l.length (qI l)),(1,.clo 144 [] [.ptr 0 0]),(6,.sl l.length (qI l)),(7,int l.length),(8,int i)]) (fun s=>[.box (zG id)]) (fun i=>i≤l.length∧zMk l id 0=zMk (l.drop i) id i) (fun i=>l.length-i) 0 (by simp)
  (zP [0] 0 (by simp) (by simp) (by simp[zG]) (by simp)) ?_
 rintro i ⟨hi,ho⟩;by_cases h:i<l.length
 ·have hd:l.drop i=l[i]::l.drop (i+1):=jAv h;simp[h,zAH h];refine jO (zY6 l[i] id) [0] (by simp) (by simp) (by simp) ?_;simp;refine qZ (fun h'=>?_) (fun h'=>?_)<;>simp at h'
  ·simp;exact zL [0] 0 (by simp) (by simp) (by simp) (by rw[ho,hd]; simp[zMk,h'])
  ·simp;exact zO (i+1) ⟨h,by rw[ho,hd]; simp[zMk,h']⟩ (by omega) (zP [0] 0 (by simp) (by simp) (by simp) (by simp[qC h hl]))
 ·have hi:i=l.length:=by omega
  subst hi;simp;exact zL [0] 0 (by simp) (by simp) (by simp) (by rw[ho]; simp[zMk])
def zAS (p:Prg)(id:Id):A:=.tup [.agg (zF ((qQ p.defs id).getD .zero)),bl (qQ p.defs id).isSome]
theorem zDF (p:Prg)(id:Id):Ret prog 96 [.agg (zK p),.agg (zG id)] [] (zAS p id) []:=by
 refine zH Tryz.func96 rfl qIr (rs:=[.cell 4 31 true,.slot 5]) (by kernel_rfl) ?_;unfold qA1;simp[zK];refine jO (zOc p.defs id) [1] (by simp) (by simp) (by simp) ?_;simp;rcases zMZ p.defs id 0 with ⟨h1,h2⟩ | ⟨i,hi,h1,h2⟩
 ·simp[h2];exact zA 0 (by simp[zAS,h1,zF,Dfn.zero,Id.zero,Typ.zero,Exp.zero])
 ·have hn:¬((i:Int)<0):=by omega
  simp[h1,hn,hi,zAH hi];exact zA 0 (by simp[zAS,h2])
theorem zEH (p:Prg)(hL:p.defs.length≤1000000)(id:Id):Ret prog 36 [.agg (zK p),.agg (zG id)] [] (zAS p id) []:=by have h:=zZ6 p.mods p.defs id hL;rw[zRk]at h;exact h
def zDH:Option Dfn→Bool
 | some d=>decide (d.kind=0∨d.kind=1)
 | none=>false
def jN (p:Prg):Nat→Typ→Bool
 | 0,_=>false
 | n+1,t=>if t.k=2 then (match t.kids with
  | [x]=>decide (t.id=Id.zero)&&jN p n x
  | _=>false) else if t.kids≠[] then false else if t.k=3 then zDH (qQ p.defs t.id) else decide (t.id=Id.zero)&&decide (t.k=0∨t.k=1)
def validT (p:Prg)(t:Typ):Bool:=jN p 24 t
theorem zIx (p:Prg)(hL:p.defs.length≤1000000):∀(n:Nat) (d:Int) (t:Typ),d=25-(n:Int)→n≤24→Ret prog 169 [.agg (zK p),.agg (zM t),int d] [] (bl (jN p n t)) []
 | 0,d,t,hd,_=>by refine zH Tryz.func169 rfl qIj (rs:=[.slot 6]) (by kernel_rfl) ?_;unfold qBU;subst hd;simp[zM,zK];exact zA 0 (by simp[jN])
 | n+1,d,t,hd,hn=>by
  refine zH Tryz.func169 rfl qIj (rs:=[.slot 6]) (by kernel_rfl) ?_;unfold qBU;have h24:¬(24<d):=by omega
  cases t with
  | mk k id kids =>
  by_cases hk:k=2
  ·subst hk;by_cases hid:id=Id.zero
   ·subst hid;rcases kids with _ | ⟨x,_ | ⟨y,l⟩⟩
    ·simp[zM,zK,h24];exact zA 0 (by simp[jN])
    ·have hw:=jT (d+1) (by omega);simp[zM,zK,h24];refine qU (zIx p hL n (d+1) x (by omega) (by omega)) (by simp[zK,zM,hw,zBx]) (by simp) ?_;simp;exact zA 0 (by simp[jN,Id.zero])
    ·have h1:¬((l.length:Int)+1+1=1):=by omega
     simp[zM,zK,h24,h1];exact zA 0 (by simp[jN])
   ·have hv:jN p (n+1) (.mk 2 id kids)=false:=by simp only[jN,Typ.k_mk,Typ.id_mk,Typ.kids_mk,if_true];split<;>simp[hid]
    simp[zM,zK,h24,hid,hv];exact zA 0 (by simp)
  ·rcases kids with _ | ⟨x,l⟩
   ·by_cases h3:k=3
    ·subst h3;simp[zM,zK,h24];refine qE (zEH p hL id) (by simp[zK,zG]) (by simp[zAS]) ?_;cases hf:qQ p.defs id with
     | none =>
      simp[zAS,hf,zF,Dfn.zero,Id.zero,Typ.zero,Exp.zero];exact zA 0 (by simp[jN,hf,zDH])
     | some f =>
      by_cases h0:f.kind=0
      ·simp[zAS,hf,zF,h0];exact zA 0 (by simp[jN,hf,zDH,h0])
      ·simp[zAS,hf,zF,h0];exact zA 0 (by simp[jN,hf,zDH,h0])
    ·by_cases hid:id=Id.zero
     ·subst hid;by_cases h0:k=0
      ·subst h0;simp[zM,zK,h24];exact zA 0 (by simp[jN,Id.zero])
      ·simp[zM,zK,h24,hk,h3,h0];exact zA 0 (by simp[jN,Id.zero,hk,h3,h0])
     ·simp[zM,zK,h24,hk,h3,hid];have hv:jN p (n+1) (.mk k id [])=false:=by simp only[jN,Typ.k_mk,Typ.id_mk,Typ.kids_mk,hk,h3,if_false];simp[hid]
      exact zA 0 (by rw[hv]; simp)
   ·have hl:(0:Int)<(l.length:Int)+1:=by omega
    simp[zM,zK,h24,hk,hl];have hv:jN p (n+1) (.mk k id (x::l))=false:=by simp only[jN,Typ.k_mk,Typ.id_mk,Typ.kids_mk,hk,if_false];rfl
    exact fun _=>zA 0 (by rw[hv]; simp)
theorem zQr (p:Prg)(hL:p.defs.length≤1000000)(t:Typ):Ret prog 139 [.agg (zK p),.agg (zM t)] [] (bl (validT p t)) []:=by refine zH Tryz.func139 rfl qOq (rs:=[.slot 4]) (by kernel_rfl) ?_;unfold qHf;simp[zK,zM];refine qE (zIx p hL 24 1 t (by omega) (by omega)) (by simp[zK,zM]) (by simp) ?_;simp;exact zA 0 (by simp[validT])
theorem zLU (p:Prg)(t0:Typ):Ret prog 114 [.agg (zK p),.agg (zM t0)] [] (bl (validT p t0)) []:=by
 refine zH Tryz.func114 rfl qO1 (rs:=[.slot 4]) (by kernel_rfl) ?_;unfold qHq;simp[zK];refine jR (S:=Nat×Typ) (fun s=>[(2,.ptr 0 0),(3,.ptr 1 0),(5,int s.1)]) (fun s=>[.box (zK p),.box (zM s.2)]) (fun s=>1≤s.1∧s.1≤25∧validT p t0=jN p (25-s.1) s.2) (fun s=>25-s.1) (1,t0) (by simp[validT])
  (zP [0,1] 0 (by simp) (by simp) (by simp[zK]) (by simp)) ?_
 rintro⟨i,t⟩ ⟨hi0,hi,ho⟩;simp only at hi0 hi ho;by_cases h:i≤24
 ·have hi24:(i:Int)≤24:=by omega
  obtain⟨n,hn⟩:∃n,25-i=n+1:=⟨24-i,by omega⟩;have hn':25-(i+1)=n:=by omega
  have hw:=zAz i (by omega);rw[hn]at ho;cases t with
  | mk k id kids =>
  by_cases h2:k=2
  ·subst h2;by_cases hid:id=Id.zero
   ·subst hid;rcases kids with _ | ⟨x,_ | ⟨y,l⟩⟩
    ·simp[zM,zK,hi24];exact zA 0 (by rw[ho]; simp[jN])
    ·simp[zM,zK,hi24];intro _;refine zO (i+1,x) ⟨by simp,by simp only; omega,?_⟩ (by simp only; omega) (zP [0,1] 0 (by simp) (by simp) (by simp[zK,zM,zBx]) (by simp[hw]));simp only;rw[ho,hn'];simp[jN]
    ·have h1:¬((l.length:Int)+1+1=1):=by omega
     simp[zM,zK,hi24,h1];exact fun _=>zA 0 (by rw[ho]; simp[jN])
   ·have hv:jN p (n+1) (.mk 2 id kids)=false:=by simp only[jN,Typ.k_mk,Typ.id_mk,Typ.kids_mk,if_true];split<;>simp[hid]
    simp[zM,zK,hi24,hid];exact zA 0 (by rw[ho,hv]; simp)
  by_cases h3:k=3
  ·subst h3;simp[zM,zK,hi24];refine qE (zDF p id) (by simp[zK,zG]) (by simp[zAS]) ?_;cases hf:qQ p.defs id with
   | none =>
    have hv:jN p (n+1) (.mk 3 id kids)=false:=by cases kids<;>simp[jN,hf,zDH]
    simp[zAS,hf,zF,Dfn.zero,Id.zero,Typ.zero,Exp.zero];exact zA 0 (by rw[ho,hv]; simp)
   | some f =>
    by_cases h0:f.kind=0∨f.kind=1
    ·have hv:jN p (n+1) (.mk 3 id kids)=decide (kids.length=0):=by cases kids<;>simp[jN,hf,zDH,h0]
     rcases h0 with h0 | h0
     ·simp[zAS,hf,zF,h0];exact fun _=>zA 0 (by rw[ho,hv]; simp)
     ·simp[zAS,hf,zF,h0];exact fun _=>zA 0 (by rw[ho,hv]; simp)
    ·have hv:jN p (n+1) (.mk 3 id kids)=false:=by cases kids<;>simp[jN,hf,zDH,h0]
     have g0:f.kind≠0:=fun e=>h0 (.inl e)
     have g1:f.kind≠1:=fun e=>h0 (.inr e)
     simp[zAS,hf,zF,g0,g1];exact zA 0 (by rw[ho,hv]; simp)
  ·by_cases h0:k=0∨k=1
   ·by_cases hid:id=Id.zero
    ·subst hid;have hv:jN p (n+1) (.mk k Id.zero kids)=decide (kids.length=0):=by cases kids<;>simp[jN,h2,h3,h0]
     rcases h0 with rfl | rfl
     ·simp[zM,zK,hi24];exact fun _=>zA 0 (by rw[ho,hv]; simp)
     ·simp[zM,zK,hi24];exact fun _=>zA 0 (by rw[ho,hv]; simp)
    ·have hv:jN p (n+1) (.mk k id kids)=false:=by simp only[jN,Typ.k_mk,Typ.id_mk,Typ.kids_mk,h2,h3,if_false];simp[hid]
     rcases h0 with rfl | rfl
     ·simp[zM,zK,hi24,hid];exact zA 0 (by rw[ho,hv]; simp)
     ·simp[zM,zK,hi24,hid];exact zA 0 (by rw[ho,hv]; simp)
   ·have hv:jN p (n+1) (.mk k id kids)=false:=by simp only[jN,Typ.k_mk,Typ.id_mk,Typ.kids_mk,h2,h3,if_false];simp[h0]
    have g0:k≠0:=fun e=>h0 (.inl e)
    have g1:k≠1:=fun e=>h0 (.inr e)
    simp[zM,zK,hi24,g0,g1,h2,h3];exact zA 0 (by rw[ho,hv]; simp)
 ·have:i=25:=by omega
  subst this;simp;exact zA 0 (by rw[ho]; simp[jN])
@[simp] theorem qKU {f:Nat}{o:KOp}{env:Env}(h1:6<f)(h2:f<1000):zBg f o env=True:=by
 unfold zBg;split
 ·omega
 ·omega
 ·rw[if_neg (by omega),if_neg (by omega),if_neg (by omega)]
@[simp] theorem qGt {P:Program}{Qd:Value→St→Prop}{f d l:Nat}{zs:List Value}{K':Env→St→Prop}{env:Env} {σ : St}:jI P Qd f K' (.alr (some d) l zs) env σ = wpO P zAR K' (.alr (some d) l zs) env σ:=by simp[jI,KOp.lite,KOp.keeps]
@[simp] theorem qN3 {P:Program}{d l:Nat}{zs:List Value}{Qp:Value→Env→St→Prop}{K':Env→St→Prop}{env:Env} {σ : St}:wpO P Qp K' (.alr (some d) l zs) env σ = (match σ[l]? with
 | some .rsv=>K' (env.put (some d) (.ptr l 0)) (σ.set l (.box (zs.map qR)))
 | _=>False):=rfl
@[simp] theorem qOY:zB prog 131=true:=by kernel_rfl
abbrev qJa:FuncId:=85
@[simp] theorem qLF:zB prog 85=true:=by kernel_rfl
def zS4 (hs:List Hd)(own:Int)(f:FuncId)(m:Mk)(args:List A)(env:List Bnd)(t:Typ)(c:Int):Prop :=
 ∃(e:Exp) (m':Mk),Ret prog f args (mkS m) (.agg (zU e)) (mkS m')∧Adv m m' c∧WT hs own env e t∧Seg m.temp m'.temp (tmps e)∧e.num0
def zVz (hs:List Hd)(R:Nat)(c depth:Int)(Q:Nat→Prop)(len:Nat):Prop :=
 ∀(m:Mk) (r:Nat) (t:Typ) (env:List Bnd),Cx hs R m→Lim m c→TyOk hs r t→Q r→EnvOk hs R m.temp env→0<env.length→env.length≤len →
  zS4 hs m.own qJa m [.ptr 0 0,.agg (zM t),.sl env.length (zEU env),int depth] env t c
theorem Adv.zero (m:Mk):Adv m m 0:=⟨rfl,rfl,rfl,rfl,rfl,by omega,by omega,by omega,by omega,by omega,by omega,by omega,by omega⟩
def yE (p:Prg)(id:Id):Option (Typ×Typ):=match qQ p.defs id with
 | none=>none
 | some d=>if d.kind=5 then (match d.slots with | [s]=>some (s.typ,d.res) | _=>none) else none
def zKb (p:Prg)(l:List Id)(i:Nat):Bool:=match yE p (l.getD i .zero)with
 | none=>false
 | some a=>decide (i=0)||(match yE p (l.getD (i-1) .zero)with | some b=>zGv a.1 b.2 | none=>false)
def zEF (p:Prg)(l:List Id):Nat→Bool
 | 0=>true
 | n+1=>zEF p l n&&zKb p l n
def zIr (p:Prg)(l:List Id):Bool:=zEF p l l.length
theorem zQl {p:Prg}{l:List Id}{n m:Nat}(hnm:n≤m)(h:zEF p l m=true):zEF p l n=true:=by
 induction hnm with
 | refl=>exact h
 | step _ ih=>exact ih (by simp only[zEF,jA4]at h; exact h.1)
theorem zNl {p:Prg}{l:List Id}{i:Nat}(hi:i<l.length)(h:zKb p l i=false):zIr p l=false:=by
 cases hp:zIr p l with
 | false=>rfl
 | true =>
  have:=zQl (show i+1≤l.length by omega) hp;simp[zEF,h]at this
def dfn (p:Prg)(id:Id):Dfn:=(qQ p.defs id).getD .zero
def fSt (p:Prg)(t:Typ):St:=[.box (zK p),.box (zM t)]
def zMj (q:Val→Bool):List Val→Nat→Int
 | [],_=>-1
 | x::l,n=>if q x then n else zMj q l (n+1)
theorem zPH (q:Val→Bool):∀(l:List Val) (n:Nat),(l.any q=true∧0≤zMj q l n)∨(l.any q=false∧zMj q l n = -1)
 | [],n=>.inr ⟨rfl,rfl⟩
 | x::l,n=>by
  simp only[zMj,List.any_cons];cases hx:q x with
  | true=>exact .inl ⟨by simp,by simp⟩
  | false=>simpa using zPH q l (n+1)
mutual
def yX (p:Prg):Typ→Val→Bool
 | t,.mk k n l=>validT p t&&(if t.k=0 then decide (k=0)&&decide (l.length=0)&&decide (-1099511627776≤n)&&decide (n≤1099511627776) else if t.k=1 then decide (k=1)&&decide (l.length=0)&&(decide (n=0)||decide (n=1))
  else if t.k=2 then decide (k=4)&&decide (n=0)&&zPt p (t.kids.headD .zero) l
  else if (dfn p t.id).kind=1 then decide (k=3)&&decide (0≤n)&&decide (n<(dfn p t.id).slots.length)&&decide (l.length=1)&&zMH p ((dfn p t.id).slots.map Slt.typ)[n.toNat]? l
  else decide (k=2)&&decide (n=0)&&decide (l.length=(dfn p t.id).slots.length)&&zAA p ((dfn p t.id).slots.map Slt.typ) l)
def zPt (p:Prg)(t:Typ):List Val→Bool
 | []=>true
 | v::l=>yX p t v&&zPt p t l
def zMH (p:Prg):Option Typ→List Val→Bool
 | some t,v::_=>yX p t v
 | _,_=>false
def zAA (p:Prg):List Typ→List Val→Bool
 | t::ts,v::l=>yX p t v&&zAA p ts l
 | _,_=>true
end
theorem zME (p:Prg)(t:Typ):∀(l:List Val),zPt p t l=l.all (yX p t)
 | []=>by rw[zPt]; rfl
 | v::l=>by rw[zPt,zME p t l]; rfl
theorem zAf (p:Prg)(t:Typ)(v:Val):yX p t v=(validT p t&&(if t.k=0 then decide (v.k=0)&&decide (v.kids.length=0)&&decide (-1099511627776≤v.n)&&decide (v.n≤1099511627776) else if t.k=1 then decide (v.k=1)&&decide (v.kids.length=0)&&(decide (v.n=0)||decide (v.n=1))
 else if t.k=2 then decide (v.k=4)&&decide (v.n=0)&&v.kids.all (yX p (t.kids.headD .zero))
 else if (dfn p t.id).kind=1 then decide (v.k=3)&&decide (0≤v.n)&&decide (v.n<(dfn p t.id).slots.length)&&decide (v.kids.length=1)&&zMH p ((dfn p t.id).slots.map Slt.typ)[v.n.toNat]? v.kids
 else decide (v.k=2)&&decide (v.n=0)&&decide (v.kids.length=(dfn p t.id).slots.length)&&zAA p ((dfn p t.id).slots.map Slt.typ) v.kids)):=by
 cases v with
 | mk k n l=>rw[yX,zME]; rfl
def qHm:K:=G [kO 3 0,kO 4 1,kO 5 2,kMb 6 false] (Z (G [J 11 3 2,J 12 4 5,kC 13 114 [(kt 11),(kt 12)],kR 14 13] (Y 14 (G [kMb 6 false] kr) ks)) (Z (G [D 15 4 0,L 16 15 1] (K.block 0 (G [kQi 18 16 0 false,M 17 18] (Y 17 (G [D 19 5 0,L 20 19 1,kQi 21 20 0 false,M 22 21,T 22 true (D 23 5 2),T 22 true (L 24 23 1),T 22 true (kN 25 24),T 22 true (kQi 26 25 0 false),kPf 27 22 26,M 28 27,T 28 true (D 29 5 1),T 28 true (L 30 29 1),⟨some (28,true),.bin (some 31) .geq (kt 30) (kc (-1099511627776))⟩,kPf 32 28 31,M 33 32,T 33 true (D 34 5 1),T 33 true (L 35 34 1),T 33 true (kBi 36 35 1099511627776 .leq),kPf 37 33 36,M 6 37] kr) (G [kQi 39 16 1 false,M 38 39] (Y 38 (G [D 40 5 0,L 41 40 1,kQi 42 41 1 false,M 43 42,T 43 true (D 44 5 2),T 43 true (L 45 44 1),T 43 true (kN 46 45),T 43 true (kQi 47 46 0 false),kPf 48 43 47,M 49 48,T 49 true (D 50 5 1),T 49 true (L 51 50 1),T 49 true (kQi 52 51 0 false),T 49 true (M 53 52),T 53 false (D 54 5 1),T 53 false (L 55 54 1),T 53 false (kQi 56 55 1 false),T 49 true (kPt 57 53 56),kPf 58 49 57,M 6 58] kr) (G [kQi 60 16 2 false,M 59 60] (Y 59 (G [D 61 5 0,L 62 61 1,kQi 63 62 4 false,M 64 63,T 64 true (D 65 5 1),T 64 true (L 66 65 1),T 64 true (kQi 67 66 0 false),kPf 68 64 67,M 69 68,T 69 true (D 70 5 2),T 69 true (L 71 70 1),⟨some (69,true),.clo (some 72) 115 [] [(kt 3),(kt 4)]⟩,T 69 true (kC 73 112 [(kt 71),(kt 72)]),T 69 true (kR 74 73),kPf 75 69 74,M 6 75] kr) ks)))))))) (G [J 77 3 2,D 78 4 1,J 79 78 3,kC 80 96 [(kt 77),(kt 79)],
 M 76 80,kE 81 76 0,kE 82 76 1,kZ 7 kz0,S 7 81 31,M 8 82] (Z (G [D 83 7 3,L 84 83 1,kQi 85 84 1 false] (Y 85 (Z (K.dops [(0,0,D 86 5 0),(1,0,L 87 86 1),(2,0,kQi 88 87 3 false),(3,0,M 89 88),(4,0,T 89 true (D 90 5 1)),(5,0,T 89 true (L 91 90 1)),(6,0,T 89 true (kBi 92 91 0 .geq)),(7,0,kPf 93 89 92),(8,0,M 94 93),(9,0,T 94 true (D 95 5 1)),(10,0,T 94 true (L 96 95 1)),(11,0,T 94 true (D 97 7 8)),(12,0,T 94 true (L 98 97 1)),(13,0,T 94 true (kN 99 98)),(14,0,T 94 true (kB 100 96 99 .lss)),(15,0,kPf 101 94 100),(16,0,M 102 101),(17,0,T 102 true (D 103 5 2)),(18,0,T 102 true (L 104 103 1)),(19,0,T 102 true (kN 105 104)),(20,0,T 102 true (kQi 106 105 1 false)),(21,0,kPf 107 102 106),(22,0,M 108 107),(23,0,T 108 true (J 109 3 2)),(24,0,T 108 true (D 110 7 8)),(25,0,T 108 true (L 111 110 1)),(26,0,T 108 true (D 112 5 1)),(27,0,T 108 true (L 113 112 1)),(28,0,T 108 true (kX 114 111 113 11)),(29,0,T 108 true (D 115 114 4)),(30,0,T 108 true (J 116 115 5)),(31,0,T 108 true (D 117 5 2)),(32,0,T 108 true (L 118 117 1)),(33,0,T 108 true (kXi 119 118 3 0)),(34,0,T 108 true (J 120 119 3)),(35,0,T 108 true (kC 121 74 [(kt 109),(kt 116),(kt 120)])),(36,0,kPf 122 108 121),(37,0,M 6 122)]) kr) ks)) (Z (G [D 123 5 0,L 124 123 1,kQi 125 124 2 true,M 126 125,T 126 false (D 127 5 1),T 126 false (L 128 127 1),T 126 false (kQi 129 128 0 true),kPt 130 126 129,M 131 130,T 131 false (D 132 5 2),T 131 false (L 133 132 1),T 131 false (kN 134 133),T 131 false (D 135 7 8),T 131 false (L 136 135 1),
 T 131 false (kN 137 136),T 131 false (kQ 138 134 137 true),kPt 139 131 138] (Y 139 (G [kMb 6 false] kr) ks)) (Z (G [D 140 5 2,L 141 140 1,kN 142 141,kMi 143 0] (K.block 1 (K.loop (G [kB 144 143 142 .lss] (Z (Y 144 ks (K.exit 1)) (Z (K.block 2 (G [M 145 143,kX 146 141 143 3,J 147 146 3,kZ 10 [ki,ki,kl],M 9 145,S 10 147 3] (Z (K.dops [(0,0,J 148 3 2),(1,0,D 149 7 8),(2,0,L 150 149 1),(3,0,M 151 9),(4,0,kX 152 150 151 11),(5,0,D 153 152 4),(6,0,J 154 153 5),(7,0,J 155 10 3),(8,0,kC 156 74 [(kt 148),(kt 154),(kt 155)]),(9,0,kR 157 156)]) (Y 157 (G [kMb 6 false] kr) ks)))) (K.ops [kBi 158 143 1 .add,M 143 158]))))))) (G [kMb 6 true] kr)))))))
theorem qOx:zQ prog Tryz.f74.ntmps (Tryz.f74.body.getD .skip)=some qHm.erase:=by kernel_rfl
@[simp] theorem qPF:zB prog 74=true:=by kernel_rfl
def qA3:K:=G [kO 3 0,kMb 4 false] (Z (K.dops [(0,0,J 5 1 2),(1,0,D 6 2 4),(2,0,L 7 6 1),(3,0,kXi 8 7 5 0),(4,0,J 9 8 5),(5,0,J 10 3 3),(6,0,kC 11 74 [(kt 5),(kt 9),(kt 10)]),(7,0,kR 12 11),(8,0,M 4 12)]) kr)
theorem qIt:zQ prog Tryz.f115.ntmps (Tryz.f115.body.getD .skip)=some qA3.erase:=by kernel_rfl
@[simp] theorem qMe:zB prog 115=true:=by kernel_rfl
def qHp:K:=G [kO 3 0,kO 4 1,kO 5 2,kMb 6 false] (G [J 7 5 3,kC 8 73 [(kt 7)],M 9 8,T 9 true (J 10 3 2),T 9 true (J 11 4 5),T 9 true (J 12 5 3),T 9 true (kC 13 74 [(kt 10),(kt 11),(kt 12)]),kPf 14 9 13,M 6 14] kr)
theorem qO0:zQ prog Tryz.f30.ntmps (Tryz.f30.body.getD .skip)=some qHp.erase:=by kernel_rfl
@[simp] theorem qPJ:zB prog 30=true:=by kernel_rfl
theorem zW5 (p:Prg)(t x:Typ)(hx:t.kids=[x])(v:Val)(b:Bool)(h:Ret prog 74 [.agg (zK p),.agg (zM x),.agg (zC v)] [] (bl b) []) :
 Ret prog 115 [.agg (zC v),.ptr 0 0,.ptr 1 0] (fSt p t) (bl (!b)) (fSt p t):=by
 refine zH Tryz.func115 rfl qIt (rs:=[.slot 4]) (by kernel_rfl) ?_;unfold qA3;simp[fSt,zK,zM,zC,hx];refine qU h (by simp[zK,zM,zC,zBx]) (by simp) ?_;simp;exact zL [0,1] 0 (by decide) (by simp) (by simp[zK,zM,hx]) (by simp)
theorem zZc (p:Prg)(t:Typ)(q:Val→Bool)(l:List Val)(h:∀v∈l,Ret prog 115 [.agg (zC v),.ptr 0 0,.ptr 1 0] (fSt p t) (bl (q v)) (fSt p t)) :
 Ret prog 153 [.sl l.length (zJ l),.clo 115 [] [.ptr 0 0,.ptr 1 0]] (fSt p t) (int (zMj q l 0)) (fSt p t):=by
 refine zH Tryz.func153 rfl qIv (rs:=[.slot 4]) (by kernel_rfl) ?_;unfold qBX;simp[fSt,zK,zM];intro hl;refine jR (S:=Nat) (fun i=>[(0,.sl l.length (zJ l)),(1,.clo 115 [] [.ptr 0 0,.ptr 1 0]),(6,.sl l.length (zJ l)),(7,int l.length),(8,int i)]) (fun i=>fSt p t) (fun i=>i≤l.length∧zMj q l 0=zMj q (l.drop i) i) (fun i=>l.length-i) 0 (by simp)
  (zP [0,1] 0 (by decide) (by simp) (by simp[fSt,zK,zM]) (by simp)) ?_
 rintro i ⟨hi,ho⟩;by_cases hil:i<l.length
 ·have hd:l.drop i=l[i]::l.drop (i+1):=jAv hil;simp[hil,qY hil,fSt,zK,zM];refine jO (h l[i] (jA3 hil)) [0,1] (by simp) (by simp[fSt,zK,zM]) (by simp[zC]) ?_;cases hq:q l[i]with
  | true =>
   simp[fSt,zK,zM];exact zL [0,1] 0 (by decide) (by simp) (by simp[zK,zM]) (by rw[ho,hd]; simp[zMj,hq])
  | false =>
   simp[fSt,zK,zM];exact zO (i+1) ⟨hil,by rw[ho,hd]; simp[zMj,hq]⟩ (by omega) (zP [0,1] 0 (by decide) (by simp) (by simp[fSt,zK,zM]) (by simp[qC hil hl]))
 ·have:i=l.length:=by omega
  subst this;simp[fSt,zK,zM];exact zL [0,1] 0 (by decide) (by simp) (by simp[zK,zM]) (by rw[ho]; simp[zMj])
theorem zY4 (p:Prg)(t:Typ)(q:Val→Bool)(l:List Val)(h:∀v∈l,Ret prog 115 [.agg (zC v),.ptr 0 0,.ptr 1 0] (fSt p t) (bl (q v)) (fSt p t)) :
 Ret prog 112 [.sl l.length (zJ l),.clo 115 [] [.ptr 0 0,.ptr 1 0]] (fSt p t) (bl (l.any q)) (fSt p t):=by
 refine zH Tryz.func112 rfl qIq (rs:=[.slot 4]) (by kernel_rfl) ?_;unfold qBW;simp[fSt,zK,zM];refine jO (zZc p t q l h) [0,1] (by simp) (by simp[fSt,zK,zM]) (by simp) ?_;rcases zPH q l 0 with ⟨h1,h2⟩ | ⟨h1,h2⟩
 ·simp[fSt,zK,zM,h2];exact zL [0,1] 0 (by decide) (by simp) (by simp[zK,zM]) (by simp[h1])
 ·simp[fSt,zK,zM,h2];exact zL [0,1] 0 (by decide) (by simp) (by simp[zK,zM]) (by simp[h1])
theorem zSr {p:Prg}{t:Typ}(h:validT p t=true)(h2:t.k=2):∃x,t.kids=[x]:=by
 cases t with
 | mk k id kids =>
  simp only[Typ.k_mk]at h2;subst h2;simp only[validT,jN,Typ.k_mk,Typ.id_mk,Typ.kids_mk,if_true]at h;split at h
  ·exact⟨_,rfl⟩
  ·cases h
theorem zUa {p:Prg}{ts:List Typ}:zAA p ts []=true:=by cases ts<;>simp[zAA]
theorem zW6 {p:Prg}{t:Typ}{v:Val}(h:validT p t=false):yX p t v=false:=by rw[zAf,h]; rfl
theorem zKq (p:Prg)(t:Typ)(v:Val):Ret prog 74 [.agg (zK p),.agg (zM t),.agg (zC v)] [] (bl (yX p t v)) []:=by
 refine zH Tryz.func74 rfl qOx (rs:=[.slot 6]) (by kernel_rfl) ?_;unfold qHm;simp[zK,zM,zC];refine qE (zLU p t) (by simp[zK,zM]) (by simp) ?_;cases hv:validT p t with
 | false =>
  simp;exact zA 0 (by simp[zW6 hv])
 | true =>
 by_cases h0:t.k=0
 ·have e:yX p t v=(decide (v.k=0)&&decide (v.kids.length=0)&&decide (-1099511627776≤v.n)&&decide (v.n≤1099511627776)):=by rw[zAf,hv,if_pos h0,jC3]
  by_cases c1:v.k=0
  ·by_cases c2:v.kids.length=0
   ·by_cases c3 : -1099511627776≤v.n
    ·simp[hv,h0,c1,c2,c3];exact zA 0 (by rw[e]; simp[c1,c2,c3])
    ·simp[hv,h0,c1,c2,c3];exact zA 0 (by rw[e]; simp[c1,c2,c3])
   ·simp[hv,h0,c1,c2];exact fun _=>zA 0 (by rw[e]; simp[c1,c2])
  ·simp[hv,h0,c1];exact zA 0 (by rw[e]; simp[c1])
 by_cases h1:t.k=1
 ·have e:yX p t v=(decide (v.k=1)&&decide (v.kids.length=0)&&(decide (v.n=0)||decide (v.n=1))):=by rw[zAf,hv,if_neg h0,if_pos h1,jC3]
  by_cases c1:v.k=1
  ·by_cases c2:v.kids.length=0
   ·by_cases c3:v.n=0
    ·simp[hv,h1,c1,c2,c3];exact zA 0 (by rw[e]; simp[c1,c2,c3])
    ·simp[hv,h1,c1,c2,c3];exact zA 0 (by rw[e]; simp[c1,c2,c3])
   ·simp[hv,h1,c1,c2];exact fun _=>zA 0 (by rw[e]; simp[c1,c2])
  ·simp[hv,h1,c1];exact zA 0 (by rw[e]; simp[c1])
 by_cases h2:t.k=2
 ·obtain⟨x,hx⟩:=zSr hv h2;have e:yX p t v=(decide (v.k=4)&&decide (v.n=0)&&v.kids.all (yX p x)):=by rw[zAf,hv,if_neg h0,if_neg h1,if_pos h2,jC3,hx]; rfl
  by_cases c1:v.k=4
  ·by_cases c2:v.n=0
   ·simp[hv,h2,c1,c2];refine jO (zY4 p t (fun y=>!yX p x y) v.kids (fun y hy=>zW5 p t x hx y _ (zKq p x y))) [0,1] (by simp) (by simp[fSt,zK,zM,h2]) (by simp) ?_;simp[fSt,zK,zM];exact zA 0 (by rw[e]; simp[c1,c2,List.all_eq_not_any_not])
   ·simp[hv,h2,c1,c2];exact zA 0 (by rw[e]; simp[c1,c2])
  ·simp[hv,h2,c1];exact zA 0 (by rw[e]; simp[c1])
 have e:=zAf p t v;rw[hv,if_neg h0,if_neg h1,if_neg h2,jC3]at e;simp[hv,h0,h1,h2];refine qE (zDF p t.id) (by simp[zK,zG]) (by simp[zAS]) ?_;have hD:(qQ p.defs t.id).getD .zero=dfn p t.id:=rfl;generalize dfn p t.id=D at hD e;by_cases hk:D.kind=1
 ·rw[if_pos hk]at e;by_cases c1:v.k=3
  ·by_cases c2:0≤v.n
   ·by_cases c3:v.n<D.slots.length
    ·by_cases c4:v.kids.length=1
     ·obtain⟨x,hx⟩:∃x,v.kids=[x]:=List.length_eq_one_iff.1 c4;obtain⟨i,hi⟩:∃i:Nat,v.n=i:=⟨v.n.toNat,by omega⟩;have hil:i<D.slots.length:=by omega
      simp[zAS,hD,zF,hk,c1,hi,hil,hx,jV hil,yK];refine qU (zKq p D.slots[i].typ x) (by simp[zK,zM,zC]) (by simp) ?_;simp;exact zA 0 (by rw[e]; simp[c1,hi,hil,hx,zMH])
     ·have c4':¬(v.kids.length:Int)=1:=by omega
      simp[zAS,hD,zF,hk,c1,c2,c3,c4']
      first | exact zA 0 (by rw[e]; simp[c1,c2,c3,c4]) | exact fun _=>zA 0 (by rw[e]; simp[c1,c2,c3,c4]) | exact fun _ _=>zA 0 (by rw[e]; simp[c1,c2,c3,c4])
    ·simp[zAS,hD,zF,hk,c1,c2,c3];exact zA 0 (by rw[e]; simp[c1,c2,c3])
   ·simp[zAS,hD,zF,hk,c1,c2];exact zA 0 (by rw[e]; simp[c1,c2])
  ·simp[zAS,hD,zF,hk,c1];exact zA 0 (by rw[e]; simp[c1])
 rw[if_neg hk]at e;by_cases c1:v.k=2
 ·by_cases c2:v.n=0
  ·by_cases c3:v.kids.length=D.slots.length
   ·simp[zAS,hD,zF,hk,c1,c2,c3];intro hl;refine jR (S:=Nat) (fun i=>[(3,.ptr 0 0),(7,.ptr 3 0),(141,.sl v.kids.length (zJ v.kids)),(142,int v.kids.length),(143,int i)])
     (fun i=>[.box (zK p),.box (zM t),.box (zC v),.box (zF D)]) (fun i=>i≤v.kids.length∧zAA p (D.slots.map Slt.typ) v.kids=zAA p ((D.slots.map Slt.typ).drop i) (v.kids.drop i)) (fun i=>v.kids.length-i) 0 (by simp)
     (zP [0,1,2,3] 0 (by decide) (by simp) (by simp[zK,zM,zC,zF,hk,c1,c2,c3]) (by simp[c3])) ?_
    rintro i ⟨hi,ho⟩;by_cases hil:i<v.kids.length
    ·have hiD:i<D.slots.length:=by omega
     have d1:v.kids.drop i=v.kids[i]::v.kids.drop (i+1):=jAv hil;have d2:(D.slots.map Slt.typ).drop i=D.slots[i].typ::(D.slots.map Slt.typ).drop (i+1):=by rw[jAv (by simpa using hiD)]; simp
     simp[hil,hiD,qY hil,jV hiD,zK,zF,yK];refine qU (zKq p D.slots[i].typ v.kids[i]) (by simp[zK,zM,zC]) (by simp) ?_;cases hf:yX p D.slots[i].typ v.kids[i]with
     | true =>
      simp;exact zO (i+1) ⟨hil,by rw[ho,d1,d2]; simp[zAA,hf]⟩ (by omega) (zP [0,1,2,3] 0 (by decide) (by simp) (by simp[zK,zM,zC,zF]) (by simp[qC hil (c3▸hl)]))
     | false =>
      simp;exact zA 0 (by rw[e,ho,d1,d2]; simp[zAA,hf])
    ·have:i=v.kids.length:=by omega
     subst this;simp;exact zA 0 (by rw[e,ho,jCm (jA v.kids.length),zUa]; simp[c1,c2,c3])
   ·have c3':¬(v.kids.length:Int)=D.slots.length:=by omega
    simp[zAS,hD,zF,hk,c1,c2,c3']
    first | exact zA 0 (by rw[e]; simp[c1,c2,c3]) | exact fun _=>zA 0 (by rw[e]; simp[c1,c2,c3]) | exact fun _ _=>zA 0 (by rw[e]; simp[c1,c2,c3])
  ·simp[zAS,hD,zF,hk,c1,c2];exact zA 0 (by rw[e]; simp[c1,c2])
 ·simp[zAS,hD,zF,hk,c1];exact zA 0 (by rw[e]; simp[c1])
termination_by zW v
decreasing_by
 ·exact zAB hy
 ·exact zAB (by simp[hx])
 ·exact zAB (jA3 _)
theorem zN5 (p:Prg)(t:Typ)(v:Val)(h1:zW v≤256)(h2:yV v≤24) :
 Ret prog 30 [.agg (zK p),.agg (zM t),.agg (zC v)] [] (bl (yX p t v)) []:=by
 refine zH Tryz.func30 rfl qO0 (rs:=[.slot 6]) (by kernel_rfl) ?_;unfold qHp;simp[zK,zM,zC];refine qE (zXI v h1 h2) (by simp[zC]) (by simp) ?_;simp;refine qE (zKq p t v) (by simp[zK,zM,zC]) (by simp) ?_;simp;exact zA 0 (by simp)
abbrev vz:Val:=.mk 0 0 []
def zIR (a b:Int):Int:=if b=0 then 0 else if a.tmod b≠0∧¬(a<0↔b<0) then a.tdiv b-1 else a.tdiv b
def zOu (a b:Int):Int:=if b=0 then 0 else a-b*zIR a b
def zMn (n a b:Int):Int:=if n=0 then zBS (a+b) else if n=1 then zBS (a-b) else if n=2 then zBS (a*b) else if n=3 then zIR a b else zOu a b
def opV (n:Int):List Val→Val
 | [a]=>if n=9 then zCb (decide (a.n=0)) else .mk 0 a.kids.length []
 | [a,b]=>if n≤4 then .mk 0 (zMn n a.n b.n) [] else if n=5 then zCb (decide (a.n<b.n)) else if n=6 then zCb (decide (zCu a b=0))
  else if n=7 then zCb (decide (a.n=1∧b.n=1)) else if n=8 then zCb (decide (a.n=1∨b.n=1)) else .mk 4 0 (a.kids++b.kids)
 | _=>vz
structure XS where
 fuel:Int
 fail:Int
 ds:List Id
 ns:List Id
abbrev Evl:=Exp→List EVar→XS→Val×XS
def qX (ev:Evl)(env:List EVar):List Exp→XS→List Val×XS
 | [],s=>([],s)
 | e::l,s=>((ev e env s).1::(qX ev env l (ev e env s).2).1,(qX ev env l (ev e env s).2).2)
theorem zIG (ev:Evl)(env:List EVar)(e:Exp):∀(l:List Exp) (s:XS),qX ev env (l++[e]) s=((qX ev env l s).1++[(ev e env (qX ev env l s).2).1],(ev e env (qX ev env l s).2).2)
 | [],s=>rfl
 | x::l,s=>by simp only[jB5,qX,zIG ev env e l]
theorem zAE (ev:Evl)(env:List EVar):∀(l:List Exp) (s:XS),(qX ev env l s).1.length=l.length
 | [],s=>rfl
 | x::l,s=>by simp only[qX,jAl,zAE ev env l]
def yL (ev:Evl)(env:List EVar)(i:Id)(b:Exp):List Val→Val×XS→Val×XS
 | [],r=>r
 | x::l,r=>yL ev env i b l (ev b (env++[⟨i,0,x⟩]++[⟨i,1,r.1⟩]) r.2)
theorem zHw (ev:Evl)(env:List EVar)(i:Id)(b:Exp)(x:Val):∀(l:List Val) (r:Val×XS),yL ev env i b (l++[x]) r=ev b (env++[⟨i,0,x⟩]++[⟨i,1,(yL ev env i b l r).1⟩]) (yL ev env i b l r).2
 | [],r=>rfl
 | y::l,r=>by simp only[jB5,yL,zHw ev env i b x l]
def zC2 (ss:List Slt)(vs:List Val):List EVar:=List.zipWith (fun s v=>⟨s.id,0,v⟩) ss vs
theorem zHU (ss:List Slt)(vs:List Val)(h:vs.length=ss.length):(zC2 ss vs).length=ss.length:=by simp[zC2,h]
theorem zM7 {ss:List Slt}{vs:List Val}(h:vs.length=ss.length){i:Nat}(hi:i<ss.length):(zC2 ss vs).take (i+1)=(zC2 ss vs).take i++[⟨ss[i].id,0,vs[i]⟩]:=by rw[jA9 (by rw[zHU ss vs h]; exact hi)];simp[zC2]
def zBv (ev:Evl)(d:Dfn)(vs:List Val)(s:XS):Val×XS:=if s.fail≠0 then (vz,s) else ev d.body (zC2 d.slots vs) {s with ds:=s.ds++[d.id]}
def yY (ev:Evl)(e:Exp)(env:List EVar)(s:XS):Val×XS :=
 if (ev (e.kids.headD .zero) env s).2.fail≠0 then (vz,(ev (e.kids.headD .zero) env s).2)
 else if e.k=5 then ev (e.kids.getD (if (ev (e.kids.headD .zero) env s).1.n=1 then 1 else 2) .zero) env (ev (e.kids.headD .zero) env s).2
 else if e.k=6 then ev (e.kids.getD 1 .zero) (env++[⟨e.id,0,(ev (e.kids.headD .zero) env s).1⟩]) (ev (e.kids.headD .zero) env s).2
 else if e.k=8 then ((ev (e.kids.headD .zero) env s).1.kids.getD e.n.toNat vz,(ev (e.kids.headD .zero) env s).2)
 else if e.k=10 then ev (e.kids.getD (1+(ev (e.kids.headD .zero) env s).1.n).toNat .zero) (env++[⟨e.id,(ev (e.kids.headD .zero) env s).1.n,(ev (e.kids.headD .zero) env s).1.kids.headD vz⟩]) (ev (e.kids.headD .zero) env s).2
 else yL ev env e.id (e.kids.getD 2 .zero) (ev (e.kids.headD .zero) env s).1.kids (ev (e.kids.getD 1 .zero) env (ev (e.kids.headD .zero) env s).2)
def zf (c:Bool)(s:XS)(v:Val):Val:=if c=true∧s.fail≠0 then vz else v
def qN (p:Prg)(fl:Nat)(ev:Evl)(e:Exp)(env:List EVar)(s:XS):Val×XS :=
 if e.k=0 then (.mk 0 e.n [],s)
 else if e.k=1 then (.mk 1 e.n [],s)
 else if e.k=2 then (zCH env e.ref e.n,s)
 else if e.k=5∨e.k=6∨e.k=8∨e.k=10∨e.k=12 then yY ev e env s
 else if e.k=3 then zBv ev (dfn p e.ref) (qX ev env e.kids s).1 (qX ev env e.kids s).2
 else if e.k=4 then (zf true (qX ev env e.kids s).2 (opV e.n (qX ev env e.kids s).1),(qX ev env e.kids s).2)
 else if e.k=7 then (zf (fl==1) (qX ev env e.kids s).2 (.mk 2 0 (qX ev env e.kids s).1),(qX ev env e.kids s).2)
 else if e.k=9 then (zf (fl==1) (qX ev env e.kids s).2 (.mk 3 e.n (qX ev env e.kids s).1),(qX ev env e.kids s).2)
 else (zf (fl==1) (qX ev env e.kids s).2 (.mk 4 0 (qX ev env e.kids s).1),(qX ev env e.kids s).2)
def zHJ (v:Val):Prop:=256<zDN v∨24<zCq v
instance (v:Val):Decidable (zHJ v):=by unfold zHJ; infer_instance
abbrev zE1:Int:=18
abbrev zNM:Int:=4
def zCF (r:Val×XS):XS:=if r.2.fail=0∧zHJ r.1 then {r.2 with fail:=zNM} else r.2
def zPn (fl:Nat)(r:Val×XS):Val×XS:=(zf (fl==2) (zCF r) r.1,zCF r)
def zAF (e:Exp)(s:XS):XS:={s with fuel:=s.fuel-1,ns:=s.ns++[e.id]}
def qH (p:Prg)(fl:Nat):Nat→Evl
 | 0,_,_,s=>if s.fail≠0 then (vz,s) else (vz,{s with fail:=zE1})
 | m+1,e,env,s =>
  if s.fail≠0 then (vz,s) else if s.fuel≤0 then (vz,{s with fail:=zE1})
  else zPn fl (qN p fl (qH p fl m) e env (zAF e s))
theorem zS4.mono {hs:List Hd}{own:Int}{f:FuncId}{m:Mk}{args:List A}{env:List Bnd}{t:Typ}{c c':Int}(h:zS4 hs own f m args env t c)(hc:c≤c'):zS4 hs own f m args env t c':=by obtain⟨e,m',h1,h2,h3,h4,h5⟩:=h;exact⟨e,m',h1,h2.mono hc,h3,h4,h5⟩
def qAd:K:=G [kO 2 0,kO 3 1,kZ 4 kz0,kMb 5 false] (G [J 9 2 2,J 10 3 3,kC 11 96 [(kt 9),(kt 10)],M 8 11,kE 12 8 0,kE 13 8 1,kZ 6 kz0,S 6 12 31,M 7 13] (Z (K.wk (K.dops [(0,0,J 14 6 31),(1,0,M 15 7),(2,0,M 16 15),(3,0,T 16 true (D 17 6 3)),(4,0,T 16 true (L 18 17 1)),(5,0,T 16 true (kQi 19 18 5 false)),(6,0,kPf 20 16 19),(7,0,M 21 20),(8,2,T 21 true (D 22 6 8)),(9,2,T 21 true (L 23 22 1)),(10,2,T 21 true (kN 24 23)),(11,0,T 21 true (kQi 25 24 1 false)),(12,0,kPf 26 21 25),(13,0,S 4 14 31),(14,0,M 5 26)])) kr))
def qJj:Nat→Option (List (Nat×Nat)):=fun r=>match r with | 2=>some [(0,0),(1,0),(2,0),(3,0),(4,0),(5,0),(6,0),(7,0),(8,2),(9,2),(10,2),(11,0),(12,0),(13,0),(14,0)] | _=>none
theorem qHK:qD prog Tryz.f56.ntmps qJj (Tryz.f56.body.getD .skip)=some qAd.erase:=by kernel_rfl
@[simp] theorem qL2:zB prog 56=true:=by kernel_rfl
def zFV (d:Dfn):Bool:=decide (d.kind=5)&&decide (d.slots.length=1)
def zPh (p:Prg)(id:Id):A:=.tup [.agg (zF ((qQ p.defs id).getD .zero)),bl ((qQ p.defs id).isSome&&zFV ((qQ p.defs id).getD .zero))]
theorem zHQ (p:Prg)(id:Id):Ret prog 56 [.agg (zK p),.agg (zG id)] [] (zPh p id) []:=by
 have hP:=eP p;have hdf:=zDF p id;unfold zPh;unfold zAS at hdf;generalize (qQ p.defs id).getD .zero=d at *
 generalize (qQ p.defs id).isSome=b at *
 refine qP Tryz.func56 rfl qHK (rs:=[.cell 4 31 true,.slot 5]) (by kernel_rfl) ?_;unfold qAd;simp -implicitDefEqProofs [hP,zG];refine qE hdf (by simp[zK,zG]) (by simp) ?_;simp -implicitDefEqProofs [zF];refine⟨_,_,zP (l:=[(4,.ptr 0 0),(6,.rptr (zF d)),(7,bl b)]) (σ':=[.box (kz0.map qR)]) [2] 1 (by simp) (by simp) (by simp) (by simp[zF]),?_⟩;cases b
 ·simp -implicitDefEqProofs [zF];exact zA 0 (by simp[zF])
 ·by_cases h0:d.kind=5
  ·by_cases h1:d.slots.length=1
   ·have h1':(d.slots.length:Int)=1:=by omega
    simp -implicitDefEqProofs [zF,h0,h1']
    first | exact fun _=>zA 0 (by simp[zF,h0,zFV,h1]) | exact zA 0 (by simp[zF,h0,zFV,h1])
   ·have h1':¬(d.slots.length:Int)=1:=by omega
    simp -implicitDefEqProofs [zF,h0,h1']
    first | exact fun _=>zA 0 (by simp[zF,h0,zFV,h1]) | exact zA 0 (by simp[zF,h0,zFV,h1])
  ·simp -implicitDefEqProofs [zF,h0];exact zA 0 (by simp[zF,h0,zFV])
theorem zRj {p:Prg}{id:Id}:((qQ p.defs id).isSome&&zFV ((qQ p.defs id).getD .zero))=(yE p id).isSome:=by
 unfold yE zFV;cases qQ p.defs id with
 | none=>rfl
 | some d =>
  simp only[Option.isSome_some,jBg,jC3];by_cases h:d.kind=5
  ·rw[if_pos h]
   match hs:d.slots with
   | []=>simp
   | [s]=>simp[h]
   | s::s'::l=>simp
  ·rw[if_neg h]; simp[h]
theorem zLm {p:Prg}{id:Id}{a:Typ×Typ}(h:yE p id=some a):∃d s,qQ p.defs id=some d∧d.kind=5∧d.slots=[s]∧a=(s.typ,d.res):=by
 unfold yE at h;cases hd:qQ p.defs id with
 | none=>rw[hd]at h; cases h
 | some d =>
  rw[hd]at h;simp only at h;split at h
  ·rename_i hk;split at h
   ·rename_i s hs;cases h;exact⟨d,s,rfl,hk,hs,rfl⟩
   ·cases h
  ·cases h
def qAg:K:=G [kO 2 0,kZ 4 kz2,kZ 5 kz2,kMb 6 false] (Z (G [M 11 1,kN 12 11,kMi 13 0] (K.block 0 (K.loop (G [kB 14 13 12 .lss] (Z (Y 14 ks (K.exit 0)) (Z (K.block 1 (G [M 15 13,kX 16 11 13 3,J 17 16 3,kZ 8 [ki,ki,ki],M 7 15,S 8 17 3] (G [J 19 2 2,J 20 8 3,kC 21 56 [(kt 19),(kt 20)],M 18 21,kE 22 18 0,kE 23 18 1,kZ 9 kz0,S 9 22 31,M 10 23] (Z (Z (K.dops [(0,0,M 24 10),(1,0,kR 25 24),(2,0,M 26 25),(3,0,T 26 false (M 27 7)),(4,0,T 26 false (kBi 28 27 0 .gtr)),(5,0,T 26 false (M 29 28)),(6,0,T 29 true (D 30 9 8)),(7,0,T 29 true (L 31 30 1)),(8,0,T 29 true (kXi 32 31 11 0)),(9,0,T 29 true (D 33 32 4)),(10,0,T 29 true (J 34 33 5)),(11,0,T 29 true (J 35 5 5)),(12,0,T 29 true (kC 36 90 [(kt 34),(kt 35)])),(13,0,T 29 true (kR 37 36)),(14,0,T 26 false (kPf 38 29 37)),(15,0,kPt 39 26 38)]) (Y 39 (G [kb 40 kz2 [],kb 41 kz2 [],S 4 40 5,S 5 41 5,kMb 6 false] kr) ks)) (Z (G [M 42 7,kQi 43 42 0 false] (Y 43 (K.ops [D 44 9 8,L 45 44 1,kXi 46 45 11 0,D 47 46 4,J 48 47 5,S 4 48 5]) ks)) (K.ops [D 49 9 9,J 50 49 5,S 5 50 5])))))) (K.ops [kBi 51 13 1 .add,M 13 51]))))))) (Z (K.dops [(0,0,J 52 4 5),(1,2002,J 53 5 5),(2,0,M 54 1),(3,2,kN 55 54),(4,0,kBi 56 55 0 .gtr),(5,1002,S 4 52 5),(6,0,S 5 53 5),(7,0,M 6 56)]) kr))
def qJk:Nat→Option (List (Nat×Nat)):=fun r=>match r with | 11=>some [(0,0),(1,2002),(2,0),(3,2),(4,0),(5,1002),(6,0),(7,0)] | _=>none
theorem qHN:qD prog Tryz.f44.ntmps qJk (Tryz.f44.body.getD .skip)=some qAg.erase:=by kernel_rfl
@[simp] theorem qL5:zB prog 44=true:=by kernel_rfl
def zWB (p:Prg)(l:List Id):Typ:=((yE p (l.getD 0 .zero)).getD (.zero,.zero)).1
def toN (p:Prg)(l:List Id):Nat→Typ
 | 0=>.zero
 | n+1=>((yE p (l.getD n .zero)).getD (.zero,.zero)).2
def zHT (p:Prg)(l:List Id):Typ×Typ×Bool:=if zIr p l=true then (if l=[] then .zero else zWB p l,toN p l l.length,decide (l≠[])) else (.zero,.zero,false)
def zJA (p:Prg)(l:List Id):A:=.tup [.agg (zM (zHT p l).1),.agg (zM (zHT p l).2.1),bl (zHT p l).2.2]
theorem zYC (p:Prg)(l:List Id)(hl:l.length≤1000000):Ret prog 44 [.agg (zK p),.sl l.length (zS l)] [] (zJA p l) []:=by
 have hP:=eP p;refine qP Tryz.func44 rfl qHN (rs:=[.cell 4 5 true,.cell 5 5 true,.slot 6]) (by kernel_rfl) ?_;unfold qAg;simp -implicitDefEqProofs [hP];intro hlm;refine jR (S:=Nat) (fun i=>[(1,.sl l.length (zS l)),(2,.ptr 0 0),(4,.ptr 1 0),(5,.ptr 2 0),(11,.sl l.length (zS l)),(12,int l.length),(13,int i)]) (fun i=>[.box (zK p),.box (zM (if i=0 then .zero else zWB p l)),.box (zM (toN p l i))])
  (fun i=>i≤l.length∧zEF p l i=true) (fun i=>l.length-i) 0 (by simp[zEF])
  (zP [0,1,2] 0 (by decide) (by simp) (by simp[hP,zM,toN,Typ.zero,Id.zero]) (by simp)) ?_
 rintro i ⟨hi,hp⟩;by_cases h:i<l.length
 ·have hgd:l.getD i .zero=l[i]:=by rw[jBk,jA2 h,jBg]
  have hq:l[i]?=some l[i]:=jA2 h;have hw:=zAz i (by omega);simp -implicitDefEqProofs [hP,h,yZ h];refine qE (zHQ p l[i]) (by simp[hP,zG]) (by simp[zPh]) ?_;rw[zPh,zRj];cases hc:yE p l[i]with
  | none =>
   have hbad:zIr p l=false:=zNl h (by rw[zKb,hgd,hc]);simp -implicitDefEqProofs [zM];exact zA 0 (by simp[zJA,zHT,hbad,zM,Typ.zero,Id.zero])
  | some a =>
   obtain⟨d,s,hd,hk,hs,rfl⟩:=zLm hc;have hcs:yN [s]=yK s:=by simp[yN]
   have hfro:l.getD 0 .zero=l[0]:=by rw[jBk,jA2 (by omega),jBg]
   by_cases h0:i=0
   ·subst h0;simp -implicitDefEqProofs [hP,hd,zM,zF,hs,hcs,yK];refine zO 1 ⟨h,by simp[zEF,zKb,hq,hc]⟩ (by omega) (zP [0,1,2] 0 (by decide) (by simp) (by simp[hP,zM,toN,zWB,hq,hc]) (by simp[show IntKind.i64.wrap 1=1 from by decide]))
   ·have hi0:(0:Int)<i:=by omega
    obtain⟨j,rfl⟩:∃j,i=j+1:=⟨i-1,by omega⟩;have hqj:l[j]?=some l[j]:=jA2 (by omega);have hgj:l.getD j .zero=l[j]:=by rw[jBk,jA2 (by omega),jBg]
    obtain⟨b,hb⟩:∃b,yE p l[j]=some b:=by
     simp only[zEF,jA4]at hp;have h2:=hp.2;rw[zKb,hgj]at h2;cases hb:yE p l[j]with
     | none=>rw[hb]at h2; cases h2
     | some b=>exact⟨b,rfl⟩
    have hto:toN p l (j+1)=b.2:=by simp[toN,hqj,hb]
    have hst:zKb p l (j+1)=zGv s.typ b.2:=by rw[zKb,hgd,hc];simp[hqj,hb]
    simp -implicitDefEqProofs [hP,hd,zM,zF,hs,hcs,yK,hi0];refine qU (zJY s.typ (toN p l (j+1))) (by simp[zM]) (by simp) ?_;rw[hto];cases hsm:zGv s.typ b.2
    ·have hbad:zIr p l=false:=zNl h (by rw[hst,hsm]);simp -implicitDefEqProofs [zM];exact zA 0 (by simp[zJA,zHT,hbad,zM,Typ.zero,Id.zero])
    ·have hn1:¬((j:Int)+1=0):=by omega
     simp -implicitDefEqProofs [hP,zM,zF,hn1];refine zO (j+2) ⟨h,by rw[zEF,hp,hst,hsm]; rfl⟩ (by omega) (zP [0,1,2] 0 (by decide) (by simp) (by simp[hP,zM,toN,hq,hc]) (by simp[show IntKind.i64.wrap ((j:Int)+1+1)=(j:Int)+2 from IntWalk.i64_in _ (by omega)]))
 ·have hi':i=l.length:=by omega
  subst hi';have hpv:zIr p l=true:=hp;have hpos:((0:Int)<l.length)=(l≠[]):=by apply propext;rw[←List.length_pos_iff];omega
  simp -implicitDefEqProofs [hP,zM,hpos]
  first | exact fun _=>zA 0 (by simp[zJA,zHT,hpv,zM,List.length_pos_iff]) | exact zA 0 (by simp[zJA,zHT,hpv,zM,List.length_pos_iff])
@[simp] theorem qPk:zB prog 91=true:=by kernel_rfl
@[simp] theorem qPu:zB prog 47=true:=by kernel_rfl
@[simp] theorem qPe:zB prog 138=true:=by kernel_rfl
@[simp] theorem qKR {d:Option Nat}{x:Operand}{n:Nat}{g:Bool}{env:Env}:zBg 2002 (.ld d x n g) env=zB8 2 (ev env x):=propext (zGI (by omega) (by omega))
@[simp] theorem qEj {d:Option Nat}{x:Operand}{l:List Operand}{env:Env}:zBg 1002 (.call d x l) env=True:=rfl
@[simp] theorem qBk {c l o:Nat}:zB8 c (.ptr l o)=(c≤l):=rfl
theorem zZU {n:Nat}(h:n≤1000000000):w64 (n:Int)=n:=IntWalk.i64_in _ (by omega)
theorem zJt:∀(v:Val),zW v≤100000000→zDN v=zW v:=by
 intro v h;rw[zLM,zCm];have key:∀i,i≤v.kids.length→zLS (v.kids.take i)=((1+qS (v.kids.take i):Nat):Int):=by
  intro i;induction i with
  | zero=>intro _; simp[zLS,qS]
  | succ i ih =>
   intro hi;have e1:=zGx (l:=v.kids) (i:=i) (by omega);have e2:=zI4 v.kids (i+1);have e3:=zCm v;have hk:zW (v.kids[i]'(by omega))<zW v:=zAB (jA3 _);rw[zJu (by omega),ih (by omega),zJt (v.kids[i]'(by omega)) (by omega),e1];rw[IntWalk.i64_in _ (by omega)];omega
 have:=key v.kids.length (jA _)
 rwa [jB0]at this
termination_by v=>zW v
theorem zFW:∀(a b:List Val),yI (a++b)=max (yI a) (yI b)
 | [],b=>by simp[yI]
 | x::a,b=>by simp only[jB5,yI,zFW a b]; omega
mutual
theorem zM4:∀(v:Val),yV v≤zW v
 | .mk _ _ l=>by simp only[yV,zW]; have:=zKJ l; omega
theorem zKJ:∀(l:List Val),yI l≤qS l
 | []=>by simp[yI]
 | v::l=>by simp only[yI,qS]; have:=zM4 v; have:=zKJ l; omega
end
theorem zHl:∀(v:Val),zW v≤100000000→zCq v=yV v:=by
 intro v h;rw[zIQ,zCf];have key:∀i,i≤v.kids.length→zLu (v.kids.take i)=((yI (v.kids.take i):Nat):Int):=by
  intro i;induction i with
  | zero=>intro _; simp[zLu,yI]
  | succ i ih =>
   intro hi;have hk:zW (v.kids[i]'(by omega))<zW v:=zAB (jA3 _);rw[zJf (by omega),ih (by omega),zHl (v.kids[i]'(by omega)) (by omega),jA9 (by omega),zFW];simp only[yI,zRN];split<;>omega
 have:=key v.kids.length (jA _);rw[jB0]at this;rw[this];have h1:=zM4 v;have h2:=zCf v;have:((yI v.kids:Nat):Int)+1=((yI v.kids+1:Nat):Int):=by omega
 rw[this,zZU (by omega)]
termination_by v=>zW v
@[simp] theorem qPb:zB prog 135=true:=by kernel_rfl
@[simp] theorem zAI:∀(a b:List Val),zJ (a++b)=zJ a++zJ b
 | [],b=>by simp
 | x::a,b=>by simp[zAI a b]
theorem qV {k n:Int}{l:List Val}:(Val.mk k n l).k=k:=rfl
theorem qA {k n:Int}{l:List Val}:(Val.mk k n l).n=n:=rfl
theorem zR {k n:Int}{l:List Val}:(Val.mk k n l).kids=l:=rfl
def qHg:K:=G [kO 4 0,kO 5 1,kZ 8 [ki,ki,kl],kMi 9 0,kMi 10 0] (Z (G [J 19 4 2,J 20 5 5,kC 21 139 [(kt 19),(kt 20)],kR 22 21] (Y 22 (G [kb 23 [ki,ki,kl] [],M 24 3,S 8 23 3,M 9 24,kMi 10 1] kr) ks)) (G [M 25 3,kBi 26 25 1 .add,M 3 26] (Z (G [M 27 3,kBi 28 27 256 .gtr,M 29 28,T 29 false (M 30 2),T 29 false (kBi 31 30 24 .gtr),kPt 32 29 31] (Y 32 (G [kb 33 [ki,ki,kl] [],M 34 3,S 8 33 3,M 9 34,kMi 10 4] kr) ks)) (Z (G [D 35 5 0,L 36 35 1,kQi 37 36 0 false] (Y 37 (G [kb 38 [ki,ki,kl] [(0,1,(kc 0))],M 39 3,S 8 38 3,M 9 39,kMi 10 0] kr) ks)) (Z (G [D 40 5 0,L 41 40 1,kQi 42 41 1 false] (Y 42 (G [kb 43 [ki,ki,kl] [(0,1,(kc 1))],M 44 3,S 8 43 3,M 9 44,kMi 10 0] kr) ks)) (Z (G [D 45 5 0,L 46 45 1,kQi 47 46 2 false] (Y 47 (G [kb 48 [ki,ki,kl] [(0,1,(kc 4))],M 49 3,S 8 48 3,M 9 49,kMi 10 0] kr) ks)) (G [J 51 4 2,D 52 5 1,J 53 52 3,kC 54 36 [(kt 51),(kt 53)],M 50 54,kE 55 50 0,kE 56 50 1,kZ 11 kz0,S 11 55 31,M 12 56] (G [kb 57 [ki,ki,kl] [(0,1,(kc 2))],kZ 13 [ki,ki,kl],S 13 57 3] (G [D 58 11 8,L 59 58 1,kN 60 59,M 14 60] (Z (G [D 61 11 3,L 62 61 1,kQi 63 62 1 false] (Y 63 (G [D 64 13 0,⟨none,.st none (kt 64) (kc 3) 1⟩] (Z (G [M 65 14,kQi 66 65 0 false] (Y 66 (G [kb 67 [ki,ki,kl] [],M 68 3,S 8 67 3,M 9 68,kMi 10 1] kr) ks)) (K.ops [kMi 14 1]))) ks)) (Z (G [kMi 15 0] (K.block 0 (K.loop (Z (G [M 69 15,M 70 14,kB 71 69 70 .lss] (Y 71 ks (K.exit 0))) (Z (K.block 1 (Z (K.dops [(0,1,J 75 4 2),(1,1,D 76 11 8),(2,1,L 77 76 1),(3,0,M 78 15),(4,1,kX 79 77 78 11),(5,1,D 80 79 4),(6,1,J 81 80 5),(7,0,
 M 82 2),(8,0,kBi 83 82 1 .add),(9,0,M 84 3),(10,1,kC 85 89 [(kt 75),(kt 81),(kt 83),(kt 84)]),(11,0,M 74 85),(12,0,kE 86 74 0),(13,0,kE 87 74 1),(14,0,kE 88 74 2),(15,0,kZ 16 [ki,ki,kl]),(16,0,S 16 86 3),(17,0,M 17 87),(18,0,M 18 88)]) (Z (G [M 89 18,kQi 90 89 0 true] (Y 90 (G [kb 91 [ki,ki,kl] [],M 92 17,M 93 18,S 8 91 3,M 9 92,M 10 93] kr) ks)) (G [M 94 17,M 3 94] (K.ops [D 95 13 2,L 96 95 1,J 97 16 3,kd 98 46 3 1 [ki,ki,kl] [(0,3,(kt 97))],kP 99 46 3 40 96 98,D 100 13 2,S 100 99 1]))))) (K.ops [M 72 15,kBi 73 72 1 .add,M 15 73])))))) (G [J 101 13 3,M 102 3,S 8 101 3,M 9 102,kMi 10 0] kr))))))))))))
theorem qOr:zQ prog Tryz.f89.ntmps (Tryz.f89.body.getD .skip)=some qHg.erase:=by kernel_rfl
@[simp] theorem qPz:zB prog 89=true:=by kernel_rfl
def qHh:K:=G [kO 2 0,kO 3 1,kZ 4 [ki,ki,kl],kMi 5 0] (G [J 10 2 2,J 11 3 5,kC 12 89 [(kt 10),(kt 11),(kc 1),(kc 0)],M 9 12,kE 13 9 0,kE 14 9 1,kE 15 9 2,kZ 6 [ki,ki,kl],S 6 13 3,M 7 14,M 8 15] (Z (G [M 16 8,kQi 17 16 0 true] (Y 17 (G [kb 18 [ki,ki,kl] [],M 19 8,S 4 18 3,M 5 19] kr) ks)) (G [J 20 6 3,S 4 20 3,kMi 5 0] kr)))
theorem qOs:zQ prog Tryz.f43.ntmps (Tryz.f43.body.getD .skip)=some qHh.erase:=by kernel_rfl
@[simp] theorem qP0:zB prog 43=true:=by kernel_rfl
def Wz (p:Prg):Nat→Typ→Prop
 | 0,_=>False
 | f+1,t=>validT p t=true∧(t.k=0∨t.k=1∨t.k=2∨(t.k=3∧((dfn p t.id).kind=0∨(dfn p t.id).kind=1)∧1≤(dfn p t.id).slots.length∧(dfn p t.id).slots.length≤3∧∀s∈(dfn p t.id).slots,Wz p f s.typ))
def zAC (p:Prg):Nat→Typ→Val
 | 0,_=>.mk 0 0 []
 | f+1,t=>if t.k=0 then .mk 0 0 [] else if t.k=1 then .mk 1 0 [] else if t.k=2 then .mk 4 0 []
  else if (dfn p t.id).kind=1 then .mk 3 0 (((dfn p t.id).slots.map fun s=>zAC p f s.typ).take 1) else .mk 2 0 ((dfn p t.id).slots.map fun s=>zAC p f s.typ)
def zcN:Nat→Nat
 | 0=>0
 | f+1=>1+3*zcN f
theorem zEN {l:List Val}{c:Nat}(h:∀v∈l,zW v≤c):qS l≤l.length*c:=by
 induction l with
 | nil=>simp[qS]
 | cons v l ih =>
  have h1:=h v (jAm ..);have h2:=ih fun x hx=>h x (jAg _ hx)
  simp only[qS,jAl,jAw,Nat.one_mul];omega
theorem zJx (p:Prg):∀(f:Nat) (t:Typ),Wz p f t→zW (zAC p f t)≤zcN f
 | 0,t,h=>h.elim
 | f+1,t,h=>by
  unfold Wz at h;unfold zAC zcN;obtain⟨_,h⟩:=h;by_cases h0:t.k=0
  ·rw[if_pos h0]; simp[zW,qS]
  by_cases h1:t.k=1
  ·rw[if_neg h0,if_pos h1]; simp[zW,qS]
  by_cases h2:t.k=2
  ·rw[if_neg h0,if_neg h1,if_pos h2]; simp[zW,qS]
  rw[if_neg h0,if_neg h1,if_neg h2];obtain⟨_,_,_,g3,g4⟩:=h.resolve_left h0|>.resolve_left h1|>.resolve_left h2;have hm:∀v∈(dfn p t.id).slots.map fun s=>zAC p f s.typ,zW v≤zcN f:=fun v hv=>by obtain⟨s,hs,rfl⟩:=jAn.1 hv;exact zJx p f s.typ (g4 s hs)
  have hl:((dfn p t.id).slots.map fun s=>zAC p f s.typ).length≤3:=by simpa using g3
  generalize ((dfn p t.id).slots.map fun s=>zAC p f s.typ)=L at hm hl;split
  ·have:=zEN (l:=L.take 1) fun v hv=>hm v (jC0 hv)
   have e:(L.take 1).length*zcN f≤3*zcN f:=jB7 _ (by simp; omega);simp only[zW]; omega
  ·have:=zEN hm;have e:L.length*zcN f≤3*zcN f:=jB7 _ hl;simp only[zW]; omega
theorem zT6 (p:Prg)(hL:p.defs.length≤1000000):∀(f:Nat) (t:Typ) (d:Int) (u:Nat),Wz p f t→1≤d→d+f≤25→u+zcN f≤256 →
 Ret prog 89 [.agg (zK p),.agg (zM t),int d,int u] [] (.tup [.agg (zC (zAC p f t)),int (u+zW (zAC p f t):Nat),int 0]) []
 | 0,t,d,u,h,_,_,_=>h.elim
 | f+1,t,d,u,h,hd,hdf,hu=>by
  have hz:=zJx p (f+1) t h;unfold Wz at h;obtain⟨hv,h⟩:=h;simp only[zcN]at hu hz;refine zH Tryz.func89 rfl qOr (rs:=[.cell 8 3 true,.slot 9,.slot 10]) (by kernel_rfl) ?_;unfold qHg;have hwu:=zAz u (by omega);have hu1:¬(256:Int)<(u:Int)+1:=by omega
  have hd1:¬24<d:=by omega
  simp[zK,zM];refine qE (zQr p hL t) (by simp[zK,zM]) (by simp) ?_;by_cases h0:t.k=0
  ·have e:zAC p (f+1) t=.mk 0 0 []:=by rw[zAC,if_pos h0]
   rw[e];simp[hv,hwu,hu1,hd1,h0];exact zA 0 (by simp[zC,qV,qA,zR,zW,qS])
  by_cases h1:t.k=1
  ·have e:zAC p (f+1) t=.mk 1 0 []:=by rw[zAC,if_neg h0,if_pos h1]
   rw[e];simp[hv,hwu,hu1,hd1,h1];exact zA 0 (by simp[zC,qV,qA,zR,zW,qS])
  by_cases h2:t.k=2
  ·have e:zAC p (f+1) t=.mk 4 0 []:=by rw[zAC,if_neg h0,if_neg h1,if_pos h2]
   rw[e];simp[hv,hwu,hu1,hd1,h2];exact zA 0 (by simp[zC,qV,qA,zR,zW,qS])
  obtain⟨_,gk,g1,g3,g4⟩:=h.resolve_left h0|>.resolve_left h1|>.resolve_left h2;simp[hv,hwu,hu1,hd1,h0,h1,h2];refine qE (zEH p hL t.id) (by simp[zK,zG]) (by simp[zAS]) ?_;have hD:(qQ p.defs t.id).getD .zero=dfn p t.id:=rfl;have hzl:∀s∈(dfn p t.id).slots,zW (zAC p f s.typ)≤zcN f:=fun s hs=>zJx p f s.typ (g4 s hs)
  have hLl:((dfn p t.id).slots.map fun s=>zAC p f s.typ).length=(dfn p t.id).slots.length:=by simp
  have hLg:∀i (h:i<(dfn p t.id).slots.length),((dfn p t.id).slots.map fun s=>zAC p f s.typ)[i]?=some (zAC p f (dfn p t.id).slots[i].typ):=fun i h=>by simp[h]
  have e:∃(Q:Nat) (K:Int),zAC p (f+1) t=.mk K 0 (((dfn p t.id).slots.map fun s=>zAC p f s.typ).take Q)∧Q≤(dfn p t.id).slots.length∧(((dfn p t.id).kind=1∧Q=1∧K=3)∨((dfn p t.id).kind=0∧Q=(dfn p t.id).slots.length∧K=2)):=by
   rcases gk with gk | gk
   ·exact⟨_,2,by rw[zAC,if_neg h0,if_neg h1,if_neg h2,if_neg (by omega),jAk (by simp)],jA _,.inr ⟨gk,rfl,rfl⟩⟩
   ·exact⟨1,3,by rw[zAC,if_neg h0,if_neg h1,if_neg h2,if_pos gk],g1,.inl ⟨gk,rfl,rfl⟩⟩
  obtain⟨Q,K,e,hQ,hQK⟩:=e;rw[e]at hz ⊢;clear e gk;generalize ((dfn p t.id).slots.map fun s=>zAC p f s.typ)=L at hLl hLg hz;generalize dfn p t.id=D at hD g1 g3 g4 hzl hLl hLg hQ hQK;have hs0:∀i,i≤D.slots.length→qS (L.take i)≤i*zcN f:=fun i hi=>by
   have:=zEN (l:=L.take i) (c:=zcN f) fun v hv=>by obtain⟨j,hj,rfl⟩:=List.mem_iff_getElem.1 (jC0 hv);have:=hLg j (by omega);rw[jA2 hj]at this;rw[jAs this];exact hzl _ (jA3 _)
   simpa [jAx (show i≤L.length by omega)] using this
  rcases hQK with ⟨hk,hQ1,hK⟩ | ⟨hk,hQ1,hK⟩
  case' inl =>
   have hn0:¬D.slots=[]:=fun e=>by rw[e]at g1; simp at g1
   simp[zAS,hD,zF,hk,hn0];intro _
  case' inr =>
   simp[zAS,hD,zF,hk];intro _
  all_goals
   refine jR (S:=Nat) (fun i=>[(2,int d),(3,int ((u+1+qS (L.take i):Nat):Int)),(4,.ptr 0 0),(8,.ptr 2 0),(11,.ptr 3 0),(13,.ptr 4 0),(14,int Q),(15,int i)])
    (fun i=>[.box (zK p),.box (zM t),.box [int 0,int 0,.nil],.box (zF D),.box [int K,int 0,.row 5 i],.row false 46 3 i (zJ (L.take i))]) (fun i=>i≤Q) (fun i=>Q-i) 0 (by simp)
    ((zA9 (l:=4) (o:=2) rfl rfl 46 3).trans (zP [0,1,2,3,4,5] 0 (by simp) (by simp) (by simp[zK,zM,zF,hk,hK]) (by simp[qS,hQ1]))) ?_
   intro i hi;by_cases hiQ:i<Q
   ·have hiD:i<D.slots.length:=by omega
    have hiL:i<L.length:=by omega
    have hLi:=hLg i hiD;rw[jA2 hiL]at hLi;have hLi:=jAs hLi;have htL:zJ (L.take (i+1))=zJ (L.take i)++zC (zAC p f D.slots[i].typ):=by rw[jA9 hiL,hLi]; simp[zC]
    have hsz:=zGx hiL;rw[hLi]at hsz;have b1:=hs0 i (by omega);have b2:i*zcN f≤2*zcN f:=jB7 _ (by omega);have hwd:=jT (d+1) (by omega);have hwi:=zAz i (by omega);simp[hiQ,hiD,jV hiD,zK,zF,yK,hwd];refine zAn (zT6 p hL f D.slots[i].typ (d+1) (u+1+qS (L.take i)) (g4 _ (jA3 hiD)) (by omega) (by omega) (by omega)) (by simp[zK,zM]) (by simp[zC]) ?_;simp[zDU,zC];refine⟨⟨by simp[maxLen]; omega,by omega⟩,?_⟩;exact zO (i+1) hiQ (by omega) (zP [0,1,2,3,4,5] 0 (by simp) (by simp) (by simp[zK,zM,zF,htL,zC]) (by simp[hwi,hsz]; omega))
   ·have hiQ:i=Q:=by omega
    subst hiQ;have hlt:(L.take i).length=i:=by simp; omega
    simp;exact zA 1 (by simp[zC,hlt,qV,qA,zR,zW,jBh]; omega)
theorem qE9 {f:Nat}(h:f≤5):zcN f≤121:=by
 have:f=0∨f=1∨f=2∨f=3∨f=4∨f=5:=by omega
 rcases this with rfl | rfl | rfl | rfl | rfl | rfl<;>decide
theorem zQI (p:Prg)(hL:p.defs.length≤1000000)(f:Nat)(hf:f≤5)(t:Typ)(h:Wz p f t):Ret prog 43 [.agg (zK p),.agg (zM t)] [] (.tup [.agg (zC (zAC p f t)),int 0]) []:=by refine zH Tryz.func43 rfl qOs (rs:=[.cell 4 3 true,.slot 5]) (by kernel_rfl) ?_;unfold qHh;have hz:=qE9 hf;simp[zK,zM];refine qE (zT6 p hL f t 1 0 h (by omega) (by omega) (by omega)) (by simp[zK,zM]) (by simp[zC]) ?_;simp[zC];exact zA 0 (by simp)
@[simp] theorem qOU:zB prog 136=true:=by kernel_rfl
end Go.Proofs.YtdnelmeboihpkaaGreatDoor

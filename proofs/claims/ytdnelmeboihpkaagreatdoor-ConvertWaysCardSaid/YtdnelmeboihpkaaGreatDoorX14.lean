/-
  The maker's literals.
  Paths of converters, as data.
  value.fits and value.Valid.
  The maker's literals, walked.
  value.fits and value.Valid: whether a value has a type.
  Evaluation as data: operations, and a run with its fuel, its failure, and what it has asked.
  The maker's literals of variants and records; all literals.
  convert.converter, ends, follow and Along.
  fits and Valid of the reference.
  The maker's operations.
  Size and depth in plain numbers; Valid of the reference.
  The maker's matches.
  The zero value of a type, by the reference.
  The maker's fields and calls.
  Values made of numbers, by the reference.
  The maker's calls.
  The maker's expressions, walked.
  The maker's expressions, walked: what binds.
  The maker's expressions have the types that they are to have.
  The number of nodes, their numbers, their IDs.
  The maker's plans: what definitions are to be made.
  The reference's nodes, in preorder; the first node with an ID; same nodes and definitions.
  The maker's plans.
  The maker's plans: the types of records and variants; all plans.
  The maker's definitions before their bodies: what is known of them.
  The types of the maker's definitions are types of the program.
  The maker's bodies exist.
  The numbers of nodes become IDs: the data.
  The maker's programs, walked: the nodes get their IDs.
  The maker's programs, walked: the bodies are made.
  The maker's programs, walked: modules, definitions, slots.
  The maker's programs: what they are.
  What is proved: the maker of programs returns a typed program, whose nodes have IDs of their own.
  Types of values and of programs' expressions; a run keeps them.
-/
import Derived.Test.YtdnelmeboihpkaaGreatDoorX13
import Derived.Test.YtdnelmeboihpkaaGreatDoorX12
set_option linter.unusedVariables false
set_option maxHeartbeats 8000000
set_option maxRecDepth 100000
set_option linter.unusedSimpArgs false
open Go.Proofs.Tryz (prog)
namespace Go.Proofs.YtdnelmeboihpkaaGreatDoor
open Go.Abs
@[simp] theorem qMH:zA prog 131=true:=by kernel_rfl
abbrev qGU:FuncId:=85
@[simp] theorem qJ4:zA prog 85=true:=by kernel_rfl
def zRt (hs:List Hd)(own:Int)(f:FuncId)(m:Mk)(args:List A)(env:List Bnd)(t:Typ)(c:Int):Prop :=
 ∃(e:Exp) (m':Mk),Ret prog f args (mkS m) (.agg (zT e)) (mkS m')∧Adv m m' c∧WT hs own env e t∧Seg m.temp m'.temp (tmps e)∧e.num0
def zUa (hs:List Hd)(R:Nat)(c depth:Int)(Q:Nat→Prop)(len:Nat):Prop :=
 ∀(m:Mk) (r:Nat) (t:Typ) (env:List Bnd),Cx hs R m→Lim m c→TyOk hs r t→Q r→EnvOk hs R m.temp env→0<env.length→env.length≤len →
  zRt hs m.own qGU m [.ptr 0 0,.agg (zU t),.sl env.length (zE2 env),int depth] env t c
theorem Adv.zero (m:Mk):Adv m m 0:=⟨rfl,rfl,rfl,rfl,rfl,by omega,by omega,by omega,by omega,by omega,by omega,by omega,by omega⟩
def yH (p:Prg)(id:Id):Option (Typ×Typ):=match qT p.defs id with
 | none=>none
 | some d=>if d.kind=5 then (match d.slots with | [s]=>some (s.typ,d.res) | _=>none) else none
def zJs (p:Prg)(l:List Id)(i:Nat):Bool:=match yH p (l.getD i .zero)with
 | none=>false
 | some a=>decide (i=0)||(match yH p (l.getD (i-1) .zero)with | some b=>zFX a.1 b.2 | none=>false)
def zEq (p:Prg)(l:List Id):Nat→Bool
 | 0=>true
 | n+1=>zEq p l n&&zJs p l n
def zHS (p:Prg)(l:List Id):Bool:=zEq p l l.length
theorem zPh {p:Prg}{l:List Id}{n m:Nat}(hnm:n≤m)(h:zEq p l m=true):zEq p l n=true:=by
 induction hnm with
 | refl=>exact h
 | step _ ih=>exact ih (by simp only[zEq,jA6]at h; exact h.1)
theorem zMr {p:Prg}{l:List Id}{i:Nat}(hi:i<l.length)(h:zJs p l i=false):zHS p l=false:=by
 cases hp:zHS p l with
 | false=>rfl
 | true =>
  have:=zPh (show i+1≤l.length by omega) hp;simp[zEq,h]at this
def dfn (p:Prg)(id:Id):Dfn:=(qT p.defs id).getD .zero
def fSt (p:Prg)(t:Typ):St:=[.box (zM p),.box (zU t)]
def zLp (q:Val→Bool):List Val→Nat→Int
 | [],_=>-1
 | x::l,n=>if q x then n else zLp q l (n+1)
theorem zOJ (q:Val→Bool):∀(l:List Val) (n:Nat),(l.any q=true∧0≤zLp q l n)∨(l.any q=false∧zLp q l n = -1)
 | [],n=>.inr ⟨rfl,rfl⟩
 | x::l,n=>by
  simp only[zLp,List.any_cons];cases hx:q x with
  | true=>exact .inl ⟨by simp,by simp⟩
  | false=>simpa using zOJ q l (n+1)
mutual
def zB5 (p:Prg):Typ→Val→Bool
 | t,.mk k n l=>validT p t&&(if t.k=0 then decide (k=0)&&decide (l.length=0)&&decide (-1099511627776≤n)&&decide (n≤1099511627776) else if t.k=1 then decide (k=1)&&decide (l.length=0)&&(decide (n=0)||decide (n=1))
  else if t.k=2 then decide (k=4)&&decide (n=0)&&zOs p (t.kids.headD .zero) l
  else if (dfn p t.id).kind=1 then decide (k=3)&&decide (0≤n)&&decide (n<(dfn p t.id).slots.length)&&decide (l.length=1)&&zRB p ((dfn p t.id).slots.map Slt.typ)[n.toNat]? l
  else decide (k=2)&&decide (n=0)&&decide (l.length=(dfn p t.id).slots.length)&&zBT p ((dfn p t.id).slots.map Slt.typ) l)
def zOs (p:Prg)(t:Typ):List Val→Bool
 | []=>true
 | v::l=>zB5 p t v&&zOs p t l
def zRB (p:Prg):Option Typ→List Val→Bool
 | some t,v::_=>zB5 p t v
 | _,_=>false
def zBT (p:Prg):List Typ→List Val→Bool
 | t::ts,v::l=>zB5 p t v&&zBT p ts l
 | _,_=>true
end
theorem zLN (p:Prg)(t:Typ):∀(l:List Val),zOs p t l=l.all (zB5 p t)
 | []=>by rw[zOs]; rfl
 | v::l=>by rw[zOs,zLN p t l]; rfl
theorem zCn (p:Prg)(t:Typ)(v:Val):zB5 p t v=(validT p t&&(if t.k=0 then decide (v.k=0)&&decide (v.kids.length=0)&&decide (-1099511627776≤v.n)&&decide (v.n≤1099511627776) else if t.k=1 then decide (v.k=1)&&decide (v.kids.length=0)&&(decide (v.n=0)||decide (v.n=1))
 else if t.k=2 then decide (v.k=4)&&decide (v.n=0)&&v.kids.all (zB5 p (t.kids.headD .zero))
 else if (dfn p t.id).kind=1 then decide (v.k=3)&&decide (0≤v.n)&&decide (v.n<(dfn p t.id).slots.length)&&decide (v.kids.length=1)&&zRB p ((dfn p t.id).slots.map Slt.typ)[v.n.toNat]? v.kids
 else decide (v.k=2)&&decide (v.n=0)&&decide (v.kids.length=(dfn p t.id).slots.length)&&zBT p ((dfn p t.id).slots.map Slt.typ) v.kids)):=by
 cases v with
 | mk k n l=>rw[zB5,zLN]; rfl
def qFb:K:=G [kO 3 0,kO 4 1,kO 5 2,kMb 6 false] (Z (G [J 11 3 2,J 12 4 5,kC 13 114 [(kt 11),(kt 12)],kR 14 13] (Y 14 (G [kMb 6 false] kr) ks)) (Z (G [D 15 4 0,L 16 15 1] (K.block 0 (G [kQi 18 16 0 false,M 17 18] (Y 17 (G [D 19 5 0,L 20 19 1,kQi 21 20 0 false,M 22 21,T 22 true (D 23 5 2),T 22 true (L 24 23 1),T 22 true (kN 25 24),T 22 true (kQi 26 25 0 false),kPf 27 22 26,M 28 27,T 28 true (D 29 5 1),T 28 true (L 30 29 1),⟨some (28,true),.bin (some 31) .geq (kt 30) (kc (-1099511627776))⟩,kPf 32 28 31,M 33 32,T 33 true (D 34 5 1),T 33 true (L 35 34 1),T 33 true (kBi 36 35 1099511627776 .leq),kPf 37 33 36,M 6 37] kr) (G [kQi 39 16 1 false,M 38 39] (Y 38 (G [D 40 5 0,L 41 40 1,kQi 42 41 1 false,M 43 42,T 43 true (D 44 5 2),T 43 true (L 45 44 1),T 43 true (kN 46 45),T 43 true (kQi 47 46 0 false),kPf 48 43 47,M 49 48,T 49 true (D 50 5 1),T 49 true (L 51 50 1),T 49 true (kQi 52 51 0 false),T 49 true (M 53 52),T 53 false (D 54 5 1),T 53 false (L 55 54 1),T 53 false (kQi 56 55 1 false),T 49 true (kPt 57 53 56),kPf 58 49 57,M 6 58] kr) (G [kQi 60 16 2 false,M 59 60] (Y 59 (G [D 61 5 0,L 62 61 1,kQi 63 62 4 false,M 64 63,T 64 true (D 65 5 1),T 64 true (L 66 65 1),T 64 true (kQi 67 66 0 false),kPf 68 64 67,M 69 68,T 69 true (D 70 5 2),T 69 true (L 71 70 1),⟨some (69,true),.clo (some 72) 115 [] [(kt 3),(kt 4)]⟩,T 69 true (kC 73 112 [(kt 71),(kt 72)]),T 69 true (kR 74 73),kPf 75 69 74,M 6 75] kr) ks)))))))) (G [J 77 3 2,D 78 4 1,J 79 78 3,kC 80 96 [(kt 77),(kt 79)],
 M 76 80,kE 81 76 0,kE 82 76 1,kZ 7 kz0,S 7 81 31,M 8 82] (Z (G [D 83 7 3,L 84 83 1,kQi 85 84 1 false] (Y 85 (Z (K.dops [(0,0,D 86 5 0),(1,0,L 87 86 1),(2,0,kQi 88 87 3 false),(3,0,M 89 88),(4,0,T 89 true (D 90 5 1)),(5,0,T 89 true (L 91 90 1)),(6,0,T 89 true (kBi 92 91 0 .geq)),(7,0,kPf 93 89 92),(8,0,M 94 93),(9,0,T 94 true (D 95 5 1)),(10,0,T 94 true (L 96 95 1)),(11,0,T 94 true (D 97 7 8)),(12,0,T 94 true (L 98 97 1)),(13,0,T 94 true (kN 99 98)),(14,0,T 94 true (kB 100 96 99 .lss)),(15,0,kPf 101 94 100),(16,0,M 102 101),(17,0,T 102 true (D 103 5 2)),(18,0,T 102 true (L 104 103 1)),(19,0,T 102 true (kN 105 104)),(20,0,T 102 true (kQi 106 105 1 false)),(21,0,kPf 107 102 106),(22,0,M 108 107),(23,0,T 108 true (J 109 3 2)),(24,0,T 108 true (D 110 7 8)),(25,0,T 108 true (L 111 110 1)),(26,0,T 108 true (D 112 5 1)),(27,0,T 108 true (L 113 112 1)),(28,0,T 108 true (kX 114 111 113 11)),(29,0,T 108 true (D 115 114 4)),(30,0,T 108 true (J 116 115 5)),(31,0,T 108 true (D 117 5 2)),(32,0,T 108 true (L 118 117 1)),(33,0,T 108 true (kXi 119 118 3 0)),(34,0,T 108 true (J 120 119 3)),(35,0,T 108 true (kC 121 74 [(kt 109),(kt 116),(kt 120)])),(36,0,kPf 122 108 121),(37,0,M 6 122)]) kr) ks)) (Z (G [D 123 5 0,L 124 123 1,kQi 125 124 2 true,M 126 125,T 126 false (D 127 5 1),T 126 false (L 128 127 1),T 126 false (kQi 129 128 0 true),kPt 130 126 129,M 131 130,T 131 false (D 132 5 2),T 131 false (L 133 132 1),T 131 false (kN 134 133),T 131 false (D 135 7 8),T 131 false (L 136 135 1),
 T 131 false (kN 137 136),T 131 false (kQ 138 134 137 true),kPt 139 131 138] (Y 139 (G [kMb 6 false] kr) ks)) (Z (G [D 140 5 2,L 141 140 1,kN 142 141,kMi 143 0] (K.block 1 (K.loop (G [kB 144 143 142 .lss] (Z (Y 144 ks (K.exit 1)) (Z (K.block 2 (G [M 145 143,kX 146 141 143 3,J 147 146 3,kZ 10 [ki,ki,kl],M 9 145,S 10 147 3] (Z (K.dops [(0,0,J 148 3 2),(1,0,D 149 7 8),(2,0,L 150 149 1),(3,0,M 151 9),(4,0,kX 152 150 151 11),(5,0,D 153 152 4),(6,0,J 154 153 5),(7,0,J 155 10 3),(8,0,kC 156 74 [(kt 148),(kt 154),(kt 155)]),(9,0,kR 157 156)]) (Y 157 (G [kMb 6 false] kr) ks)))) (K.ops [kBi 158 143 1 .add,M 143 158]))))))) (G [kMb 6 true] kr)))))))
theorem qMh:zR prog Tryz.f74.ntmps (Tryz.f74.body.getD .skip)=some qFb.erase:=by kernel_rfl
@[simp] theorem qNz:zA prog 74=true:=by kernel_rfl
def zY4:K:=G [kO 3 0,kMb 4 false] (Z (K.dops [(0,0,J 5 1 2),(1,0,D 6 2 4),(2,0,L 7 6 1),(3,0,kXi 8 7 5 0),(4,0,J 9 8 5),(5,0,J 10 3 3),(6,0,kC 11 74 [(kt 5),(kt 9),(kt 10)]),(7,0,kR 12 11),(8,0,M 4 12)]) kr)
theorem qGk:zR prog Tryz.f115.ntmps (Tryz.f115.body.getD .skip)=some zY4.erase:=by kernel_rfl
@[simp] theorem qJV:zA prog 115=true:=by kernel_rfl
def qFe:K:=G [kO 3 0,kO 4 1,kO 5 2,kMb 6 false] (G [J 7 5 3,kC 8 73 [(kt 7)],M 9 8,T 9 true (J 10 3 2),T 9 true (J 11 4 5),T 9 true (J 12 5 3),T 9 true (kC 13 74 [(kt 10),(kt 11),(kt 12)]),kPf 14 9 13,M 6 14] kr)
theorem qMk:zR prog Tryz.f30.ntmps (Tryz.f30.body.getD .skip)=some qFe.erase:=by kernel_rfl
@[simp] theorem qN3:zA prog 30=true:=by kernel_rfl
theorem zUX (p:Prg)(t x:Typ)(hx:t.kids=[x])(v:Val)(b:Bool)(h:Ret prog 74 [.agg (zM p),.agg (zU x),.agg (zF v)] [] (bl b) []) :
 Ret prog 115 [.agg (zF v),.ptr 0 0,.ptr 1 0] (fSt p t) (bl (!b)) (fSt p t):=by
 refine zI Tryz.func115 rfl qGk (rs:=[.slot 4]) (by kernel_rfl) ?_;unfold zY4;simp[fSt,zM,zU,zF,hx];refine qK h (by simp[zM,zU,zF,zD8]) (by simp) ?_;simp;exact zH [0,1] 0 (by decide) (by simp) (by simp[zM,zU,hx]) (by simp)
theorem zXk (p:Prg)(t:Typ)(q:Val→Bool)(l:List Val)(h:∀v∈l,Ret prog 115 [.agg (zF v),.ptr 0 0,.ptr 1 0] (fSt p t) (bl (q v)) (fSt p t)) :
 Ret prog 153 [.sl l.length (zK l),.clo 115 [] [.ptr 0 0,.ptr 1 0]] (fSt p t) (int (zLp q l 0)) (fSt p t):=by
 refine zI Tryz.func153 rfl qGm (rs:=[.slot 4]) (by kernel_rfl) ?_;unfold zZP;simp[fSt,zM,zU];intro hl;refine jM (S:=Nat) (fun i=>[(0,.sl l.length (zK l)),(1,.clo 115 [] [.ptr 0 0,.ptr 1 0]),(6,.sl l.length (zK l)),(7,int l.length),(8,int i)]) (fun i=>fSt p t) (fun i=>i≤l.length∧zLp q l 0=zLp q (l.drop i) i) (fun i=>l.length-i) 0 (by simp)
  (zO [0,1] 0 (by decide) (by simp) (by simp[fSt,zM,zU]) (by simp)) ?_
 rintro i ⟨hi,ho⟩;by_cases hil:i<l.length
 ·have hd:l.drop i=l[i]::l.drop (i+1):=jAu hil;simp[hil,jL hil,fSt,zM,zU];refine jJ (h l[i] (jA3 hil)) [0,1] (by simp) (by simp[fSt,zM,zU]) (by simp[zF]) ?_;cases hq:q l[i]with
  | true =>
   simp[fSt,zM,zU];exact zH [0,1] 0 (by decide) (by simp) (by simp[zM,zU]) (by rw[ho,hd]; simp[zLp,hq])
  | false =>
   simp[fSt,zM,zU];exact zP (i+1) ⟨hil,by rw[ho,hd]; simp[zLp,hq]⟩ (by omega) (zO [0,1] 0 (by decide) (by simp) (by simp[fSt,zM,zU]) (by simp[qP hil hl]))
 ·have:i=l.length:=by omega
  subst this;simp[fSt,zM,zU];exact zH [0,1] 0 (by decide) (by simp) (by simp[zM,zU]) (by rw[ho]; simp[zLp])
theorem zWG (p:Prg)(t:Typ)(q:Val→Bool)(l:List Val)(h:∀v∈l,Ret prog 115 [.agg (zF v),.ptr 0 0,.ptr 1 0] (fSt p t) (bl (q v)) (fSt p t)) :
 Ret prog 112 [.sl l.length (zK l),.clo 115 [] [.ptr 0 0,.ptr 1 0]] (fSt p t) (bl (l.any q)) (fSt p t):=by
 refine zI Tryz.func112 rfl qGh (rs:=[.slot 4]) (by kernel_rfl) ?_;unfold zZO;simp[fSt,zM,zU];refine jJ (zXk p t q l h) [0,1] (by simp) (by simp[fSt,zM,zU]) (by simp) ?_;rcases zOJ q l 0 with ⟨h1,h2⟩ | ⟨h1,h2⟩
 ·simp[fSt,zM,zU,h2];exact zH [0,1] 0 (by decide) (by simp) (by simp[zM,zU]) (by simp[h1])
 ·simp[fSt,zM,zU,h2];exact zH [0,1] 0 (by decide) (by simp) (by simp[zM,zU]) (by simp[h1])
theorem zRh {p:Prg}{t:Typ}(h:validT p t=true)(h2:t.k=2):∃x,t.kids=[x]:=by
 cases t with
 | mk k id kids =>
  simp only[Typ.k_mk]at h2;subst h2;simp only[validT,yQ,Typ.k_mk,Typ.id_mk,Typ.kids_mk,if_true]at h;split at h
  ·exact⟨_,rfl⟩
  ·cases h
theorem zSB {p:Prg}{ts:List Typ}:zBT p ts []=true:=by cases ts<;>simp[zBT]
theorem zUY {p:Prg}{t:Typ}{v:Val}(h:validT p t=false):zB5 p t v=false:=by rw[zCn,h]; rfl
theorem zJ6 (p:Prg)(t:Typ)(v:Val):Ret prog 74 [.agg (zM p),.agg (zU t),.agg (zF v)] [] (bl (zB5 p t v)) []:=by
 refine zI Tryz.func74 rfl qMh (rs:=[.slot 6]) (by kernel_rfl) ?_;unfold qFb;simp[zM,zU,zF];refine qD (zLa p t) (by simp[zM,zU]) (by simp) ?_;cases hv:validT p t with
 | false =>
  simp;exact zB 0 (by simp[zUY hv])
 | true =>
 by_cases h0:t.k=0
 ·have e:zB5 p t v=(decide (v.k=0)&&decide (v.kids.length=0)&&decide (-1099511627776≤v.n)&&decide (v.n≤1099511627776)):=by rw[zCn,hv,if_pos h0,jC1]
  by_cases c1:v.k=0
  ·by_cases c2:v.kids.length=0
   ·by_cases c3 : -1099511627776≤v.n
    ·simp[hv,h0,c1,c2,c3];exact zB 0 (by rw[e]; simp[c1,c2,c3])
    ·simp[hv,h0,c1,c2,c3];exact zB 0 (by rw[e]; simp[c1,c2,c3])
   ·simp[hv,h0,c1,c2];exact fun _=>zB 0 (by rw[e]; simp[c1,c2])
  ·simp[hv,h0,c1];exact zB 0 (by rw[e]; simp[c1])
 by_cases h1:t.k=1
 ·have e:zB5 p t v=(decide (v.k=1)&&decide (v.kids.length=0)&&(decide (v.n=0)||decide (v.n=1))):=by rw[zCn,hv,if_neg h0,if_pos h1,jC1]
  by_cases c1:v.k=1
  ·by_cases c2:v.kids.length=0
   ·by_cases c3:v.n=0
    ·simp[hv,h1,c1,c2,c3];exact zB 0 (by rw[e]; simp[c1,c2,c3])
    ·simp[hv,h1,c1,c2,c3];exact zB 0 (by rw[e]; simp[c1,c2,c3])
   ·simp[hv,h1,c1,c2];exact fun _=>zB 0 (by rw[e]; simp[c1,c2])
  ·simp[hv,h1,c1];exact zB 0 (by rw[e]; simp[c1])
 by_cases h2:t.k=2
 ·obtain⟨x,hx⟩:=zRh hv h2;have e:zB5 p t v=(decide (v.k=4)&&decide (v.n=0)&&v.kids.all (zB5 p x)):=by rw[zCn,hv,if_neg h0,if_neg h1,if_pos h2,jC1,hx]; rfl
  by_cases c1:v.k=4
  ·by_cases c2:v.n=0
   ·simp[hv,h2,c1,c2];refine jJ (zWG p t (fun y=>!zB5 p x y) v.kids (fun y hy=>zUX p t x hx y _ (zJ6 p x y))) [0,1] (by simp) (by simp[fSt,zM,zU,h2]) (by simp) ?_;simp[fSt,zM,zU];exact zB 0 (by rw[e]; simp[c1,c2,List.all_eq_not_any_not])
   ·simp[hv,h2,c1,c2];exact zB 0 (by rw[e]; simp[c1,c2])
  ·simp[hv,h2,c1];exact zB 0 (by rw[e]; simp[c1])
 have e:=zCn p t v;rw[hv,if_neg h0,if_neg h1,if_neg h2,jC1]at e;simp[hv,h0,h1,h2];refine qD (zDn p t.id) (by simp[zM,zC]) (by simp[zBL]) ?_;have hD:(qT p.defs t.id).getD .zero=dfn p t.id:=rfl;generalize dfn p t.id=D at hD e;by_cases hk:D.kind=1
 ·rw[if_pos hk]at e;by_cases c1:v.k=3
  ·by_cases c2:0≤v.n
   ·by_cases c3:v.n<D.slots.length
    ·by_cases c4:v.kids.length=1
     ·obtain⟨x,hx⟩:∃x,v.kids=[x]:=List.length_eq_one_iff.1 c4;obtain⟨i,hi⟩:∃i:Nat,v.n=i:=⟨v.n.toNat,by omega⟩;have hil:i<D.slots.length:=by omega
      simp[zBL,hD,zG,hk,c1,hi,hil,hx,yC hil,yG];refine qK (zJ6 p D.slots[i].typ x) (by simp[zM,zU,zF]) (by simp) ?_;simp;exact zB 0 (by rw[e]; simp[c1,hi,hil,hx,zRB])
     ·have c4':¬(v.kids.length:Int)=1:=by omega
      simp[zBL,hD,zG,hk,c1,c2,c3,c4']
      first | exact zB 0 (by rw[e]; simp[c1,c2,c3,c4]) | exact fun _=>zB 0 (by rw[e]; simp[c1,c2,c3,c4]) | exact fun _ _=>zB 0 (by rw[e]; simp[c1,c2,c3,c4])
    ·simp[zBL,hD,zG,hk,c1,c2,c3];exact zB 0 (by rw[e]; simp[c1,c2,c3])
   ·simp[zBL,hD,zG,hk,c1,c2];exact zB 0 (by rw[e]; simp[c1,c2])
  ·simp[zBL,hD,zG,hk,c1];exact zB 0 (by rw[e]; simp[c1])
 rw[if_neg hk]at e;by_cases c1:v.k=2
 ·by_cases c2:v.n=0
  ·by_cases c3:v.kids.length=D.slots.length
   ·simp[zBL,hD,zG,hk,c1,c2,c3];intro hl;refine jM (S:=Nat) (fun i=>[(3,.ptr 0 0),(7,.ptr 3 0),(141,.sl v.kids.length (zK v.kids)),(142,int v.kids.length),(143,int i)])
     (fun i=>[.box (zM p),.box (zU t),.box (zF v),.box (zG D)]) (fun i=>i≤v.kids.length∧zBT p (D.slots.map Slt.typ) v.kids=zBT p ((D.slots.map Slt.typ).drop i) (v.kids.drop i)) (fun i=>v.kids.length-i) 0 (by simp)
     (zO [0,1,2,3] 0 (by decide) (by simp) (by simp[zM,zU,zF,zG,hk,c1,c2,c3]) (by simp[c3])) ?_
    rintro i ⟨hi,ho⟩;by_cases hil:i<v.kids.length
    ·have hiD:i<D.slots.length:=by omega
     have d1:v.kids.drop i=v.kids[i]::v.kids.drop (i+1):=jAu hil;have d2:(D.slots.map Slt.typ).drop i=D.slots[i].typ::(D.slots.map Slt.typ).drop (i+1):=by rw[jAu (by simpa using hiD)]; simp
     simp[hil,hiD,jL hil,yC hiD,zM,zG,yG];refine qK (zJ6 p D.slots[i].typ v.kids[i]) (by simp[zM,zU,zF]) (by simp) ?_;cases hf:zB5 p D.slots[i].typ v.kids[i]with
     | true =>
      simp;exact zP (i+1) ⟨hil,by rw[ho,d1,d2]; simp[zBT,hf]⟩ (by omega) (zO [0,1,2,3] 0 (by decide) (by simp) (by simp[zM,zU,zF,zG]) (by simp[qP hil (c3▸hl)]))
     | false =>
      simp;exact zB 0 (by rw[e,ho,d1,d2]; simp[zBT,hf])
    ·have:i=v.kids.length:=by omega
     subst this;simp;exact zB 0 (by rw[e,ho,jCt (jA v.kids.length),zSB]; simp[c1,c2,c3])
   ·have c3':¬(v.kids.length:Int)=D.slots.length:=by omega
    simp[zBL,hD,zG,hk,c1,c2,c3']
    first | exact zB 0 (by rw[e]; simp[c1,c2,c3]) | exact fun _=>zB 0 (by rw[e]; simp[c1,c2,c3]) | exact fun _ _=>zB 0 (by rw[e]; simp[c1,c2,c3])
  ·simp[zBL,hD,zG,hk,c1,c2];exact zB 0 (by rw[e]; simp[c1,c2])
 ·simp[zBL,hD,zG,hk,c1];exact zB 0 (by rw[e]; simp[c1])
termination_by qC v
decreasing_by
 ·exact zAH hy
 ·exact zAH (by simp[hx])
 ·exact zAH (jA3 _)
theorem zMB (p:Prg)(t:Typ)(v:Val)(h1:qC v≤256)(h2:zAx v≤24) :
 Ret prog 30 [.agg (zM p),.agg (zU t),.agg (zF v)] [] (bl (zB5 p t v)) []:=by
 refine zI Tryz.func30 rfl qMk (rs:=[.slot 6]) (by kernel_rfl) ?_;unfold qFe;simp[zM,zU,zF];refine qD (zWa v h1 h2) (by simp[zF]) (by simp) ?_;simp;refine qD (zJ6 p t v) (by simp[zM,zU,zF]) (by simp) ?_;simp;exact zB 0 (by simp)
abbrev vz:Val:=.mk 0 0 []
def zIv (a b:Int):Int:=if b=0 then 0 else if a.tmod b≠0∧¬(a<0↔b<0) then a.tdiv b-1 else a.tdiv b
def zNv (a b:Int):Int:=if b=0 then 0 else a-b*zIv a b
def zLt (n a b:Int):Int:=if n=0 then zBB (a+b) else if n=1 then zBB (a-b) else if n=2 then zBB (a*b) else if n=3 then zIv a b else zNv a b
def opV (n:Int):List Val→Val
 | [a]=>if n=9 then zBI (decide (a.n=0)) else .mk 0 a.kids.length []
 | [a,b]=>if n≤4 then .mk 0 (zLt n a.n b.n) [] else if n=5 then zBI (decide (a.n<b.n)) else if n=6 then zBI (decide (zCd a b=0))
  else if n=7 then zBI (decide (a.n=1∧b.n=1)) else if n=8 then zBI (decide (a.n=1∨b.n=1)) else .mk 4 0 (a.kids++b.kids)
 | _=>vz
structure XS where
 fuel:Int
 fail:Int
 ds:List Id
 ns:List Id
abbrev Evl:=Exp→List EVar→XS→Val×XS
def jE (ev:Evl)(env:List EVar):List Exp→XS→List Val×XS
 | [],s=>([],s)
 | e::l,s=>((ev e env s).1::(jE ev env l (ev e env s).2).1,(jE ev env l (ev e env s).2).2)
theorem zIm (ev:Evl)(env:List EVar)(e:Exp):∀(l:List Exp) (s:XS),jE ev env (l++[e]) s=((jE ev env l s).1++[(ev e env (jE ev env l s).2).1],(ev e env (jE ev env l s).2).2)
 | [],s=>rfl
 | x::l,s=>by simp only[jB0,jE,zIm ev env e l]
theorem zCh (ev:Evl)(env:List EVar):∀(l:List Exp) (s:XS),(jE ev env l s).1.length=l.length
 | [],s=>rfl
 | x::l,s=>by simp only[jE,jAl,zCh ev env l]
def yJ (ev:Evl)(env:List EVar)(i:Id)(b:Exp):List Val→Val×XS→Val×XS
 | [],r=>r
 | x::l,r=>yJ ev env i b l (ev b (env++[⟨i,0,x⟩]++[⟨i,1,r.1⟩]) r.2)
theorem zHa (ev:Evl)(env:List EVar)(i:Id)(b:Exp)(x:Val):∀(l:List Val) (r:Val×XS),yJ ev env i b (l++[x]) r=ev b (env++[⟨i,0,x⟩]++[⟨i,1,(yJ ev env i b l r).1⟩]) (yJ ev env i b l r).2
 | [],r=>rfl
 | y::l,r=>by simp only[jB0,yJ,zHa ev env i b x l]
def zC6 (ss:List Slt)(vs:List Val):List EVar:=List.zipWith (fun s v=>⟨s.id,0,v⟩) ss vs
theorem zH6 (ss:List Slt)(vs:List Val)(h:vs.length=ss.length):(zC6 ss vs).length=ss.length:=by simp[zC6,h]
theorem zLI {ss:List Slt}{vs:List Val}(h:vs.length=ss.length){i:Nat}(hi:i<ss.length):(zC6 ss vs).take (i+1)=(zC6 ss vs).take i++[⟨ss[i].id,0,vs[i]⟩]:=by rw[jAa (by rw[zH6 ss vs h]; exact hi)];simp[zC6]
def zB1 (ev:Evl)(d:Dfn)(vs:List Val)(s:XS):Val×XS:=if s.fail≠0 then (vz,s) else ev d.body (zC6 d.slots vs) {s with ds:=s.ds++[d.id]}
def zAt (ev:Evl)(e:Exp)(env:List EVar)(s:XS):Val×XS :=
 if (ev (e.kids.headD .zero) env s).2.fail≠0 then (vz,(ev (e.kids.headD .zero) env s).2)
 else if e.k=5 then ev (e.kids.getD (if (ev (e.kids.headD .zero) env s).1.n=1 then 1 else 2) .zero) env (ev (e.kids.headD .zero) env s).2
 else if e.k=6 then ev (e.kids.getD 1 .zero) (env++[⟨e.id,0,(ev (e.kids.headD .zero) env s).1⟩]) (ev (e.kids.headD .zero) env s).2
 else if e.k=8 then ((ev (e.kids.headD .zero) env s).1.kids.getD e.n.toNat vz,(ev (e.kids.headD .zero) env s).2)
 else if e.k=10 then ev (e.kids.getD (1+(ev (e.kids.headD .zero) env s).1.n).toNat .zero) (env++[⟨e.id,(ev (e.kids.headD .zero) env s).1.n,(ev (e.kids.headD .zero) env s).1.kids.headD vz⟩]) (ev (e.kids.headD .zero) env s).2
 else yJ ev env e.id (e.kids.getD 2 .zero) (ev (e.kids.headD .zero) env s).1.kids (ev (e.kids.getD 1 .zero) env (ev (e.kids.headD .zero) env s).2)
def zf (c:Bool)(s:XS)(v:Val):Val:=if c=true∧s.fail≠0 then vz else v
def qW (p:Prg)(fl:Nat)(ev:Evl)(e:Exp)(env:List EVar)(s:XS):Val×XS :=
 if e.k=0 then (.mk 0 e.n [],s)
 else if e.k=1 then (.mk 1 e.n [],s)
 else if e.k=2 then (zEc env e.ref e.n,s)
 else if e.k=5∨e.k=6∨e.k=8∨e.k=10∨e.k=12 then zAt ev e env s
 else if e.k=3 then zB1 ev (dfn p e.ref) (jE ev env e.kids s).1 (jE ev env e.kids s).2
 else if e.k=4 then (zf true (jE ev env e.kids s).2 (opV e.n (jE ev env e.kids s).1),(jE ev env e.kids s).2)
 else if e.k=7 then (zf (fl==1) (jE ev env e.kids s).2 (.mk 2 0 (jE ev env e.kids s).1),(jE ev env e.kids s).2)
 else if e.k=9 then (zf (fl==1) (jE ev env e.kids s).2 (.mk 3 e.n (jE ev env e.kids s).1),(jE ev env e.kids s).2)
 else (zf (fl==1) (jE ev env e.kids s).2 (.mk 4 0 (jE ev env e.kids s).1),(jE ev env e.kids s).2)
def zJv (v:Val):Prop:=256<zFZ v∨24<zDo v
instance (v:Val):Decidable (zJv v):=by unfold zJv; infer_instance
abbrev zF5:Int:=18
abbrev zMP:Int:=4
def zCX (r:Val×XS):XS:=if r.2.fail=0∧zJv r.1 then {r.2 with fail:=zMP} else r.2
def zOn (fl:Nat)(r:Val×XS):Val×XS:=(zf (fl==2) (zCX r) r.1,zCX r)
def zDK (e:Exp)(s:XS):XS:={s with fuel:=s.fuel-1,ns:=s.ns++[e.id]}
def zAv (p:Prg)(fl:Nat):Nat→Evl
 | 0,_,_,s=>if s.fail≠0 then (vz,s) else (vz,{s with fail:=zF5})
 | m+1,e,env,s =>
  if s.fail≠0 then (vz,s) else if s.fuel≤0 then (vz,{s with fail:=zF5})
  else zOn fl (qW p fl (zAv p fl m) e env (zDK e s))
theorem zRt.mono {hs:List Hd}{own:Int}{f:FuncId}{m:Mk}{args:List A}{env:List Bnd}{t:Typ}{c c':Int}(h:zRt hs own f m args env t c)(hc:c≤c'):zRt hs own f m args env t c':=by obtain⟨e,m',h1,h2,h3,h4,h5⟩:=h;exact⟨e,m',h1,h2.mono hc,h3,h4,h5⟩
def zYd:K:=G [kO 2 0,kO 3 1,kZ 4 kz0,kMb 5 false] (G [J 9 2 2,J 10 3 3,kC 11 96 [(kt 9),(kt 10)],M 8 11,kE 12 8 0,kE 13 8 1,kZ 6 kz0,S 6 12 31,M 7 13] (Z (K.wk (K.dops [(0,0,J 14 6 31),(1,0,M 15 7),(2,0,M 16 15),(3,0,T 16 true (D 17 6 3)),(4,0,T 16 true (L 18 17 1)),(5,0,T 16 true (kQi 19 18 5 false)),(6,0,kPf 20 16 19),(7,0,M 21 20),(8,2,T 21 true (D 22 6 8)),(9,2,T 21 true (L 23 22 1)),(10,2,T 21 true (kN 24 23)),(11,0,T 21 true (kQi 25 24 1 false)),(12,0,kPf 26 21 25),(13,0,S 4 14 31),(14,0,M 5 26)])) kr))
def qHa:Nat→Option (List (Nat×Nat)):=fun r=>match r with | 2=>some [(0,0),(1,0),(2,0),(3,0),(4,0),(5,0),(6,0),(7,0),(8,2),(9,2),(10,2),(11,0),(12,0),(13,0),(14,0)] | _=>none
theorem qFB:qE prog Tryz.f56.ntmps qHa (Tryz.f56.body.getD .skip)=some zYd.erase:=by kernel_rfl
@[simp] theorem qJq:zA prog 56=true:=by kernel_rfl
def zF3 (d:Dfn):Bool:=decide (d.kind=5)&&decide (d.slots.length=1)
def zOh (p:Prg)(id:Id):A:=.tup [.agg (zG ((qT p.defs id).getD .zero)),bl ((qT p.defs id).isSome&&zF3 ((qT p.defs id).getD .zero))]
theorem zH2 (p:Prg)(id:Id):Ret prog 56 [.agg (zM p),.agg (zC id)] [] (zOh p id) []:=by
 have hP:=eP p;have hdf:=zDn p id;unfold zOh;unfold zBL at hdf;generalize (qT p.defs id).getD .zero=d at *
 generalize (qT p.defs id).isSome=b at *
 refine qL Tryz.func56 rfl qFB (rs:=[.cell 4 31 true,.slot 5]) (by kernel_rfl) ?_;unfold zYd;simp -implicitDefEqProofs [hP,zC];refine qD hdf (by simp[zM,zC]) (by simp) ?_;simp -implicitDefEqProofs [zG];refine⟨_,_,zO (l:=[(4,.ptr 0 0),(6,.rptr (zG d)),(7,bl b)]) (σ':=[.box (kz0.map qS)]) [2] 1 (by simp) (by simp) (by simp) (by simp[zG]),?_⟩;cases b
 ·simp -implicitDefEqProofs [zG];exact zB 0 (by simp[zG])
 ·by_cases h0:d.kind=5
  ·by_cases h1:d.slots.length=1
   ·have h1':(d.slots.length:Int)=1:=by omega
    simp -implicitDefEqProofs [zG,h0,h1']
    first | exact fun _=>zB 0 (by simp[zG,h0,zF3,h1]) | exact zB 0 (by simp[zG,h0,zF3,h1])
   ·have h1':¬(d.slots.length:Int)=1:=by omega
    simp -implicitDefEqProofs [zG,h0,h1']
    first | exact fun _=>zB 0 (by simp[zG,h0,zF3,h1]) | exact zB 0 (by simp[zG,h0,zF3,h1])
  ·simp -implicitDefEqProofs [zG,h0];exact zB 0 (by simp[zG,h0,zF3])
theorem zQd {p:Prg}{id:Id}:((qT p.defs id).isSome&&zF3 ((qT p.defs id).getD .zero))=(yH p id).isSome:=by
 unfold yH zF3;cases qT p.defs id with
 | none=>rfl
 | some d =>
  simp only[Option.isSome_some,jB9,jC1];by_cases h:d.kind=5
  ·rw[if_pos h]
   match hs:d.slots with
   | []=>simp
   | [s]=>simp[h]
   | s::s'::l=>simp
  ·rw[if_neg h]; simp[h]
theorem zKv {p:Prg}{id:Id}{a:Typ×Typ}(h:yH p id=some a):∃d s,qT p.defs id=some d∧d.kind=5∧d.slots=[s]∧a=(s.typ,d.res):=by
 unfold yH at h;cases hd:qT p.defs id with
 | none=>rw[hd]at h; cases h
 | some d =>
  rw[hd]at h;simp only at h;split at h
  ·rename_i hk;split at h
   ·rename_i s hs;cases h;exact⟨d,s,rfl,hk,hs,rfl⟩
   ·cases h
  ·cases h
def zYg:K:=G [kO 2 0,kZ 4 kz2,kZ 5 kz2,kMb 6 false] (Z (G [M 11 1,kN 12 11,kMi 13 0] (K.block 0 (K.loop (G [kB 14 13 12 .lss] (Z (Y 14 ks (K.exit 0)) (Z (K.block 1 (G [M 15 13,kX 16 11 13 3,J 17 16 3,kZ 8 [ki,ki,ki],M 7 15,S 8 17 3] (G [J 19 2 2,J 20 8 3,kC 21 56 [(kt 19),(kt 20)],M 18 21,kE 22 18 0,kE 23 18 1,kZ 9 kz0,S 9 22 31,M 10 23] (Z (Z (K.dops [(0,0,M 24 10),(1,0,kR 25 24),(2,0,M 26 25),(3,0,T 26 false (M 27 7)),(4,0,T 26 false (kBi 28 27 0 .gtr)),(5,0,T 26 false (M 29 28)),(6,0,T 29 true (D 30 9 8)),(7,0,T 29 true (L 31 30 1)),(8,0,T 29 true (kXi 32 31 11 0)),(9,0,T 29 true (D 33 32 4)),(10,0,T 29 true (J 34 33 5)),(11,0,T 29 true (J 35 5 5)),(12,0,T 29 true (kC 36 90 [(kt 34),(kt 35)])),(13,0,T 29 true (kR 37 36)),(14,0,T 26 false (kPf 38 29 37)),(15,0,kPt 39 26 38)]) (Y 39 (G [kb 40 kz2 [],kb 41 kz2 [],S 4 40 5,S 5 41 5,kMb 6 false] kr) ks)) (Z (G [M 42 7,kQi 43 42 0 false] (Y 43 (K.ops [D 44 9 8,L 45 44 1,kXi 46 45 11 0,D 47 46 4,J 48 47 5,S 4 48 5]) ks)) (K.ops [D 49 9 9,J 50 49 5,S 5 50 5])))))) (K.ops [kBi 51 13 1 .add,M 13 51]))))))) (Z (K.dops [(0,0,J 52 4 5),(1,2002,J 53 5 5),(2,0,M 54 1),(3,2,kN 55 54),(4,0,kBi 56 55 0 .gtr),(5,1002,S 4 52 5),(6,0,S 5 53 5),(7,0,M 6 56)]) kr))
def qHb:Nat→Option (List (Nat×Nat)):=fun r=>match r with | 11=>some [(0,0),(1,2002),(2,0),(3,2),(4,0),(5,1002),(6,0),(7,0)] | _=>none
theorem qFE:qE prog Tryz.f44.ntmps qHb (Tryz.f44.body.getD .skip)=some zYg.erase:=by kernel_rfl
@[simp] theorem qJt:zA prog 44=true:=by kernel_rfl
def zVa (p:Prg)(l:List Id):Typ:=((yH p (l.getD 0 .zero)).getD (.zero,.zero)).1
def toN (p:Prg)(l:List Id):Nat→Typ
 | 0=>.zero
 | n+1=>((yH p (l.getD n .zero)).getD (.zero,.zero)).2
def zH5 (p:Prg)(l:List Id):Typ×Typ×Bool:=if zHS p l=true then (if l=[] then .zero else zVa p l,toN p l l.length,decide (l≠[])) else (.zero,.zero,false)
def zIX (p:Prg)(l:List Id):A:=.tup [.agg (zU (zH5 p l).1),.agg (zU (zH5 p l).2.1),bl (zH5 p l).2.2]
theorem zWO (p:Prg)(l:List Id)(hl:l.length≤1000000):Ret prog 44 [.agg (zM p),.sl l.length (zL l)] [] (zIX p l) []:=by
 have hP:=eP p;refine qL Tryz.func44 rfl qFE (rs:=[.cell 4 5 true,.cell 5 5 true,.slot 6]) (by kernel_rfl) ?_;unfold zYg;simp -implicitDefEqProofs [hP];intro hlm;refine jM (S:=Nat) (fun i=>[(1,.sl l.length (zL l)),(2,.ptr 0 0),(4,.ptr 1 0),(5,.ptr 2 0),(11,.sl l.length (zL l)),(12,int l.length),(13,int i)]) (fun i=>[.box (zM p),.box (zU (if i=0 then .zero else zVa p l)),.box (zU (toN p l i))])
  (fun i=>i≤l.length∧zEq p l i=true) (fun i=>l.length-i) 0 (by simp[zEq])
  (zO [0,1,2] 0 (by decide) (by simp) (by simp[hP,zU,toN,Typ.zero,Id.zero]) (by simp)) ?_
 rintro i ⟨hi,hp⟩;by_cases h:i<l.length
 ·have hgd:l.getD i .zero=l[i]:=by rw[jBk,jA2 h,jB9]
  have hq:l[i]?=some l[i]:=jA2 h;have hw:=zA0 i (by omega);simp -implicitDefEqProofs [hP,h,yW h];refine qD (zH2 p l[i]) (by simp[hP,zC]) (by simp[zOh]) ?_;rw[zOh,zQd];cases hc:yH p l[i]with
  | none =>
   have hbad:zHS p l=false:=zMr h (by rw[zJs,hgd,hc]);simp -implicitDefEqProofs [zU];exact zB 0 (by simp[zIX,zH5,hbad,zU,Typ.zero,Id.zero])
  | some a =>
   obtain⟨d,s,hd,hk,hs,rfl⟩:=zKv hc;have hcs:yI [s]=yG s:=by simp[yI]
   have hfro:l.getD 0 .zero=l[0]:=by rw[jBk,jA2 (by omega),jB9]
   by_cases h0:i=0
   ·subst h0;simp -implicitDefEqProofs [hP,hd,zU,zG,hs,hcs,yG];refine zP 1 ⟨h,by simp[zEq,zJs,hq,hc]⟩ (by omega) (zO [0,1,2] 0 (by decide) (by simp) (by simp[hP,zU,toN,zVa,hq,hc]) (by simp[show IntKind.i64.wrap 1=1 from by decide]))
   ·have hi0:(0:Int)<i:=by omega
    obtain⟨j,rfl⟩:∃j,i=j+1:=⟨i-1,by omega⟩;have hqj:l[j]?=some l[j]:=jA2 (by omega);have hgj:l.getD j .zero=l[j]:=by rw[jBk,jA2 (by omega),jB9]
    obtain⟨b,hb⟩:∃b,yH p l[j]=some b:=by
     simp only[zEq,jA6]at hp;have h2:=hp.2;rw[zJs,hgj]at h2;cases hb:yH p l[j]with
     | none=>rw[hb]at h2; cases h2
     | some b=>exact⟨b,rfl⟩
    have hto:toN p l (j+1)=b.2:=by simp[toN,hqj,hb]
    have hst:zJs p l (j+1)=zFX s.typ b.2:=by rw[zJs,hgd,hc];simp[hqj,hb]
    simp -implicitDefEqProofs [hP,hd,zU,zG,hs,hcs,yG,hi0];refine qK (zJo s.typ (toN p l (j+1))) (by simp[zU]) (by simp) ?_;rw[hto];cases hsm:zFX s.typ b.2
    ·have hbad:zHS p l=false:=zMr h (by rw[hst,hsm]);simp -implicitDefEqProofs [zU];exact zB 0 (by simp[zIX,zH5,hbad,zU,Typ.zero,Id.zero])
    ·have hn1:¬((j:Int)+1=0):=by omega
     simp -implicitDefEqProofs [hP,zU,zG,hn1];refine zP (j+2) ⟨h,by rw[zEq,hp,hst,hsm]; rfl⟩ (by omega) (zO [0,1,2] 0 (by decide) (by simp) (by simp[hP,zU,toN,hq,hc]) (by simp[show IntKind.i64.wrap ((j:Int)+1+1)=(j:Int)+2 from IntWalk.i64_in _ (by omega)]))
 ·have hi':i=l.length:=by omega
  subst hi';have hpv:zHS p l=true:=hp;have hpos:((0:Int)<l.length)=(l≠[]):=by apply propext;rw[←List.length_pos_iff];omega
  simp -implicitDefEqProofs [hP,zU,hpos]
  first | exact fun _=>zB 0 (by simp[zIX,zH5,hpv,zU,List.length_pos_iff]) | exact zB 0 (by simp[zIX,zH5,hpv,zU,List.length_pos_iff])
@[simp] theorem qMU:zA prog 91=true:=by kernel_rfl
@[simp] theorem qNe:zA prog 47=true:=by kernel_rfl
@[simp] theorem qMN:zA prog 138=true:=by kernel_rfl
@[simp] theorem qIG {d:Option Nat}{x:Operand}{n:Nat}{g:Bool}{env:Env}:zBc 2002 (.ld d x n g) env=zB7 2 (ev env x):=propext (zGx (by omega) (by omega))
@[simp] theorem qBY {d:Option Nat}{x:Operand}{l:List Operand}{env:Env}:zBc 1002 (.call d x l) env=True:=rfl
@[simp] theorem zZf {c l o:Nat}:zB7 c (.ptr l o)=(c≤l):=rfl
theorem zXV {n:Nat}(h:n≤1000000000):w64 (n:Int)=n:=IntWalk.i64_in _ (by omega)
theorem zM4:∀(v:Val),qC v≤100000000→zFZ v=qC v:=by
 intro v h;rw[zP0,zCt];have key:∀i,i≤v.kids.length→zN4 (v.kids.take i)=((1+jH (v.kids.take i):Nat):Int):=by
  intro i;induction i with
  | zero=>intro _; simp[zN4,jH]
  | succ i ih =>
   intro hi;have e1:=zJq (l:=v.kids) (i:=i) (by omega);have e2:=zIa v.kids (i+1);have e3:=zCt v;have hk:qC (v.kids[i]'(by omega))<qC v:=zAH (jA3 _);rw[zM6 (by omega),ih (by omega),zM4 (v.kids[i]'(by omega)) (by omega),e1];rw[IntWalk.i64_in _ (by omega)];omega
 have:=key v.kids.length (jA _)
 rwa [jAv]at this
termination_by v=>qC v
theorem zF4:∀(a b:List Val),yX (a++b)=max (yX a) (yX b)
 | [],b=>by simp[yX]
 | x::a,b=>by simp only[jB0,yX,zF4 a b]; omega
mutual
theorem zLB:∀(v:Val),zAx v≤qC v
 | .mk _ _ l=>by simp only[zAx,qC]; have:=zJW l; omega
theorem zJW:∀(l:List Val),yX l≤jH l
 | []=>by simp[yX]
 | v::l=>by simp only[yX,jH]; have:=zLB v; have:=zJW l; omega
end
theorem zJV:∀(v:Val),qC v≤100000000→zDo v=zAx v:=by
 intro v h;rw[zLC,zCc];have key:∀i,i≤v.kids.length→zNk (v.kids.take i)=((yX (v.kids.take i):Nat):Int):=by
  intro i;induction i with
  | zero=>intro _; simp[zNk,yX]
  | succ i ih =>
   intro hi;have hk:qC (v.kids[i]'(by omega))<qC v:=zAH (jA3 _);rw[zMm (by omega),ih (by omega),zJV (v.kids[i]'(by omega)) (by omega),jAa (by omega),zF4];simp only[yX,zTm];split<;>omega
 have:=key v.kids.length (jA _);rw[jAv]at this;rw[this];have h1:=zLB v;have h2:=zCc v;have:((yX v.kids:Nat):Int)+1=((yX v.kids+1:Nat):Int):=by omega
 rw[this,zXV (by omega)]
termination_by v=>qC v
@[simp] theorem qMK:zA prog 135=true:=by kernel_rfl
@[simp] theorem zAV:∀(a b:List Val),zK (a++b)=zK a++zK b
 | [],b=>by simp
 | x::a,b=>by simp[zAV a b]
theorem jO {k n:Int}{l:List Val}:(Val.mk k n l).k=k:=rfl
theorem qO {k n:Int}{l:List Val}:(Val.mk k n l).n=n:=rfl
theorem zV {k n:Int}{l:List Val}:(Val.mk k n l).kids=l:=rfl
@[simp] theorem qNj:zA prog 89=true:=by kernel_rfl
@[simp] theorem qNk:zA prog 43=true:=by kernel_rfl
theorem zT8 {l:List Val}{c:Nat}(h:∀v∈l,qC v≤c):jH l≤l.length*c:=by
 induction l with
 | nil=>simp[jH]
 | cons v l ih =>
  have h1:=h v (jAk ..);have h2:=ih fun x hx=>h x (jAh _ hx)
  simp only[jH,jAl,jAt,Nat.one_mul];omega
@[simp] theorem qME:zA prog 136=true:=by kernel_rfl
@[simp] theorem qMY:zA prog 40=true:=by kernel_rfl
@[simp] theorem qNf:zA prog 14=true:=by kernel_rfl
@[simp] theorem qMr:zA prog 137=true:=by kernel_rfl
@[simp] theorem qMD:zA prog 85=true:=by kernel_rfl
@[simp] theorem qDN {σ : St}:zDx 2002 σ = σ:=rfl
theorem zUa.mono {hs:List Hd}{R:Nat}{c c' depth:Int}{Q Q':Nat→Prop}{len len':Nat}(h:zUa hs R c depth Q len)(hc:c≤c')(hQ:∀r,Q' r→Q r)(hl:len'≤len):zUa hs R c' depth Q' len' :=
 fun m r t env hx hm hr hq he h1 h2=>(h m r t env hx (hm.mono hc) hr (hQ r hq) he h1 (by omega)).mono hc
@[simp] theorem qJD:zA prog 86=true:=by kernel_rfl
@[simp] theorem qJF:zA prog 87=true:=by kernel_rfl
@[simp] theorem qJO:zA prog 88=true:=by kernel_rfl
@[simp] theorem qIF {d:Option Nat}{x:Operand}{n:Nat}{g:Bool}{env:Env}:zBc 2001 (.ld d x n g) env=zB7 1 (ev env x):=propext (zGx (by omega) (by omega))
@[simp] theorem qBX {d:Option Nat}{x:Operand}{l:List Operand}{env:Env}:zBc 1001 (.call d x l) env=True:=rfl
@[simp] theorem qDM {σ : St}:zDx 2001 σ = σ:=rfl
theorem zWj (e:Exp):tmps e=zId e.kids++[e.id.c]:=by cases e; simp only[tmps,Exp.kids,Exp.id]
mutual
def qIs (f:Int→Id):Exp→Exp
 | .mk i k n r t ks ns=>.mk (f i.c) k n (if k=2∧r.b=0 then f r.c else r) t (zZ6 f ks) ns
def zZ6 (f:Int→Id):List Exp→List Exp
 | []=>[]
 | e::l=>qIs f e::zZ6 f l
end
@[simp] theorem qNl:zA prog 125=true:=by kernel_rfl
@[simp] theorem qMG:zA prog 127=true:=by kernel_rfl
@[simp] theorem qJ9:zA prog 141=true:=by kernel_rfl
@[simp] theorem qMP:zA prog 84=true:=by kernel_rfl
structure Pln where
 kind:Int
 name:ByteArray
 types:List Typ
 names:List ByteArray
 most:List Int
 out:Typ
 mod:Int
def zIy (p:Pln):List A:=[int p.kind,.lit (.string p.name),.sl p.types.length (jV p.types),.sl p.names.length (zA8 p.names),.sl p.most.length (zAM p.most),int p.out.k,int p.out.id.a,int p.out.id.b,int p.out.id.c,.sl p.out.kids.length (jV p.out.kids),int p.mod]
theorem zGU (p:Pln):qF (zIy p):=by have h1:=yL p.types;have h2:=zBm p.names;have h3:=yL p.out.kids;exact⟨by simp[zIy,h1.1,h2.1,h3.1],fun rf g=>by simp[zIy,h1.2,h2.2,h3.2]⟩
def zFz (l:List Pln):List A:=l.flatMap zIy
theorem zHz (l:List Pln):qF (zFz l):=zAW zGU l
@[simp] theorem zZq (l:List Pln):qV (zFz l)=zFz l:=(zHz l).1
@[simp] theorem qEd {rf g}(l:List Pln):vwL rf g (zFz l)=zFz l:=(zHz l).2 _ _
@[simp] theorem qAv:zFz []=[]:=rfl
@[simp] theorem qAu (l:List Pln):(zFz l).length=l.length*11:=by rw[zFz,zBC (k:=11) (fun _=>rfl)]
@[simp] theorem qGE (d:Pln):(zIy d).length=11:=rfl
@[simp] theorem qGD (d:Pln):(zIy d).take 11=zIy d:=jAj (jA _)
@[simp] theorem qCT (d:Pln)(l:List A):(zIy d++l).take 11=zIy d:=by rw[jC (by simp)]; exact jAj (by simp)
@[simp] theorem qDz (d:Pln):qV (zIy d)=zIy d:=(zGU d).1
@[simp] theorem qLf (d:Pln) {rf g}:vwL rf g (zIy d)=zIy d:=(zGU d).2 _ _
section
variable (l:List Int)(mods:Int)
end
theorem zRI {k:Int}(h0:0≤k)(h1:k≤1000000000000000):idR k=⟨0,1+k / 32,k % 32⟩:=by unfold idR;have e1:k.tdiv 32=k / 32:=tdN h0;have e2:k.tmod 32=k % 32:=tmN h0;have w1:=jS (k.tdiv 32) (by omega);rw[w1,e2];have w2:=jS (1+k.tdiv 32) (by omega);rw[w2,e1]
theorem zRH {k j:Int}(h0:0≤k)(h1:k≤1000000000000000)(g0:0≤j)(g1:j≤1000000000000000)(h:idR k=idR j):k=j:=by
 rw[zRI h0 h1,zRI g0 g1]at h;injection h with _ h2 h3
 omega
def qIC (next:Int)(p:Pln)(k:Nat):Slt:=⟨idR (next+k),p.names.getD k ⟨#[]⟩,p.types.getD k zAY,if p.kind=4 then p.most.getD k 0 else 0,k⟩
def zRd (next:Int)(p:Pln):List Slt:=(List.range p.types.length).map (qIC next p)
def qN9 (mods next:Int)(i:Nat)(p:Pln):Dfn:=⟨idR (mods+i),p.kind,idR p.mod,p.name,zRd next p,p.out,Exp.zero,0,[]⟩
def zZm (mods:Int)(ps:List Pln):Nat→Int
 | 0=>mods+ps.length
 | i+1=>zZm mods ps i+(match ps[i]? with | some p=>(p.types.length:Int) | none=>0)
def zU1 (mods:Int)(ps:List Pln):List Dfn:=ps.mapIdx fun i p=>qN9 mods (zZm mods ps i) i p
@[simp] theorem qCN (mods:Int)(ps:List Pln):(zU1 mods ps).length=ps.length:=by simp[zU1]
@[simp] theorem qBO (next:Int)(p:Pln):(zRd next p).length=p.types.length:=by simp[zRd]
section
variable (l:List Int)(mods:Int)(hm:1≤mods)(hm2:mods≤2)(hl:∀x∈l,w64 x=x)
include hm hm2 hl
end
def qHg (mods:Int)(ps:List Pln):List Hd:=(zU1 mods ps).map Dfn.hd
@[simp] theorem qHh (mods:Int)(ps:List Pln):(qHg mods ps).length=ps.length:=by simp[qHg]
section
variable (l:List Int)(mods:Int)(hm:1≤mods)(hm2:mods≤2)(hl:∀x∈l,w64 x=x)
include hm hm2 hl
end
end Go.Proofs.YtdnelmeboihpkaaGreatDoor
namespace Go.Proofs.YtdnelmeboihpkaaGreatDoor
open Go.Abs
def Dfn.wb (d:Dfn)(e:Exp):Dfn:={d with body:=e}
@[simp] theorem Dfn.hd_wb (d:Dfn)(e:Exp):(d.wb e).hd=d.hd:=rfl
def zUI (d:Dfn):List Bnd:=d.slots.map fun s=>⟨s.id,0,s.typ⟩
@[simp] theorem qGO (d:Dfn):(zUI d).length=d.slots.length:=by simp[zUI]
@[simp] theorem qKp (d:Dfn)(e:Exp):zUI (d.wb e)=zUI d:=rfl
section
variable {l:List Int}{mods:Int}(hm:1≤mods)(hm2:mods≤2)(hl:∀x∈l,w64 x=x)
include hm hm2 hl
end
end Go.Proofs.YtdnelmeboihpkaaGreatDoor
namespace Go.Abs
end Go.Abs
namespace Go.Proofs.YtdnelmeboihpkaaGreatDoor
open Go.Abs
def qBL:List Id→Int→List Int→List Id
 | ids,_,[]=>ids
 | ids,next,c::cs=>qBL (ids.set c.toNat (idR next)) (next+1) cs
@[simp] theorem zVU:∀(cs:List Int) (ids:List Id) (next:Int),(qBL ids next cs).length=ids.length
 | [],_,_=>rfl
 | _::cs,ids,next=>by simp only[qBL]; rw[zVU cs,jBi]
def zGL (d:Dfn):Bool:=!(decide (d.kind=0)||decide (d.kind=1))
end Go.Proofs.YtdnelmeboihpkaaGreatDoor
namespace Go.Proofs.YtdnelmeboihpkaaGreatDoor
open Go.Abs
@[simp] theorem qMQ:zA prog 37=true:=by kernel_rfl
abbrev qGW (p:Prg):=fin [RS.cell 2 2 true] (zFq 0 (.agg (zM p)) [])
end Go.Proofs.YtdnelmeboihpkaaGreatDoor
namespace Go.Abs
section
variable {d:Option Nat}{x i:Operand}{n f:Nat}{g:Bool}{env:Env}{l:List Operand}
@[simp] theorem qDW (h1:4000≤f):zBc f (.ld d x n g) env=zB7 (f-4000) (ev env x):=propext (zP6 h1)
@[simp] theorem qCa (h1:4000≤f):zBc f (.idx d x i n) env=isRow (ev env x):=propext (zM7 h1)
@[simp] theorem qDV {o:Nat}(h1:6<f):zBc f (.addr d x o) env=True:=by
 unfold zBc;split
 ·omega
 ·omega
 ·split
  ·rfl
  ·split
   ·rfl
   ·split<;>rfl
@[simp] theorem qBZ (h1:6<f):zBc f (.call d x l) env=True:=by
 unfold zBc;split
 ·omega
 ·omega
 ·split
  ·rfl
  ·split
   ·rfl
   ·split<;>rfl
@[simp] theorem qKR {σ : St}(h1:2<f):zDx f σ = σ:=by unfold zDx; rw[if_neg (by omega),if_neg (by omega)]
end
end Go.Abs
namespace Go.Proofs.YtdnelmeboihpkaaGreatDoor
open Go.Abs
section
variable {N:Nat}{i:Id}{k n:Int}{r:Id}{t:Typ}{ks:List Exp}{ns:List ByteArray}
end
inductive TyV (p:Prg):Typ→Val→Prop
 | int (n:Int) (h1 : -1099511627776≤n) (h2:n≤1099511627776):TyV p zAY (.mk 0 n [])
 | bool (n:Int) (h:n=0∨n=1):TyV p zAd (.mk 1 n [])
 | list (t:Typ) (vs:List Val) (h:∀v∈vs,TyV p t v):TyV p (zCQ t) (.mk 4 0 vs)
 | record (id:Id) (d:Dfn) (vs:List Val) (hd:qT p.defs id=some d) (hk:d.kind=0) (hl:vs.length=d.slots.length) (h:∀(j:Nat) (hj:j<vs.length),TyV p (d.slots[j]'(hl▸hj)).typ vs[j]):TyV p (jZ id) (.mk 2 0 vs)
 | case (id:Id) (d:Dfn) (n:Nat) (v:Val) (hd:qT p.defs id=some d) (hk:d.kind=1) (hn:n<d.slots.length) (h:TyV p d.slots[n].typ v):TyV p (jZ id) (.mk 3 n [v])
theorem TyV.int_inv {p:Prg}{v:Val}(h:TyV p zAY v):∃n:Int,v=.mk 0 n []∧-1099511627776≤n∧n≤1099511627776:=by
 generalize ht:zAY=t at h;cases h with
 | int n h1 h2=>exact⟨n,rfl,h1,h2⟩
 | _=>simp at ht
theorem TyV.bool_inv {p:Prg}{v:Val}(h:TyV p zAd v):∃n:Int,v=.mk 1 n []∧(n=0∨n=1):=by
 generalize ht:zAd=t at h;cases h with
 | bool n h=>exact⟨n,rfl,h⟩
 | _=>simp at ht
theorem TyV.list_inv {p:Prg}{u:Typ}{v:Val}(h:TyV p (zCQ u) v):∃vs:List Val,v=.mk 4 0 vs∧∀x∈vs,TyV p u x:=by
 generalize ht:zCQ u=t at h;cases h with
 | list t vs h =>
  simp only[Typ.mk.injEq,jB,and_true,true_and]at ht;subst ht;exact⟨vs,rfl,h⟩
 | _=>simp at ht
theorem TyV.def_inv {p:Prg}{r:Id}{d:Dfn}{v:Val}(hd:qT p.defs r=some d)(h:TyV p (jZ r) v) :
 (d.kind=0∧∃(vs:List Val) (hl:vs.length=d.slots.length),v=.mk 2 0 vs∧∀(j:Nat) (hj:j<vs.length),TyV p (d.slots[j]'(hl▸hj)).typ vs[j]) ∨
 (d.kind=1∧∃(n:Nat) (x:Val) (hn:n<d.slots.length),v=.mk 3 n [x]∧TyV p d.slots[n].typ x):=by
 generalize ht:jZ r=t at h;cases h with
 | record id d' vs hd' hk hl h =>
  simp only[Typ.mk.injEq,and_true,true_and]at ht;subst ht;rw[hd]at hd';cases hd';exact .inl ⟨hk,vs,hl,rfl,h⟩
 | case id d' n x hd' hk hn h =>
  simp only[Typ.mk.injEq,and_true,true_and]at ht;subst ht;rw[hd]at hd';cases hd';exact .inr ⟨hk,n,x,hn,rfl,h⟩
 | _=>simp at ht
inductive TyL (p:Prg):List Typ→List Val→Prop
 | nil:TyL p [] []
 | cons (t:Typ) (ts:List Typ) (v:Val) (vs:List Val) (h:TyV p t v) (hs:TyL p ts vs):TyL p (t::ts) (v::vs)
theorem TyL.len {p:Prg}{ts:List Typ}{vs:List Val}(h:TyL p ts vs):vs.length=ts.length:=by
 induction h with
 | nil=>rfl
 | cons _ _ _ _ _ _ ih=>simp[ih]
theorem TyL.get {p:Prg}{ts:List Typ}{vs:List Val}(h:TyL p ts vs):∀(j:Nat) (hj:j<vs.length) (hj':j<ts.length),TyV p ts[j] vs[j]:=by
 induction h with
 | nil=>intro j hj; simp at hj
 | cons t ts v vs h hs ih =>
  intro j hj hj';cases j with
  | zero=>exact h
  | succ j=>exact ih j (by simpa using hj) (by simpa using hj')
theorem TyL.of {p:Prg}:∀{ts:List Typ} {vs:List Val} (hl:vs.length=ts.length) (_:∀(j:Nat) (hj:j<vs.length),TyV p (ts[j]'(hl▸hj)) vs[j]),TyL p ts vs
 | [],[],_,_=>.nil
 | t::ts,v::vs,hl,h=>.cons t ts v vs (h 0 (by simp)) (TyL.of (by simpa using hl) fun j hj=>h (j+1) (by simpa using hj))
 | [],v::vs,hl,_=>by simp at hl
 | t::ts,[],hl,_=>by simp at hl
inductive OpT:Int→List Typ→Typ→Prop
 | arith (n:Int) (h1:0≤n) (h2:n≤4):OpT n [zAY,zAY] zAY
 | less:OpT 5 [zAY,zAY] zAd
 | same (u:Typ):OpT 6 [u,u] zAd
 | andor (n:Int) (h:n=7∨n=8):OpT n [zAd,zAd] zAd
 | not:OpT 9 [zAd] zAd
 | join (t:Typ):OpT 10 [zCQ t,zCQ t] (zCQ t)
 | len (t:Typ):OpT 11 [zCQ t] zAY
theorem TyL.one {p:Prg}{t:Typ}{vs:List Val}(h:TyL p [t] vs):∃a,vs=[a]∧TyV p t a:=by
 cases h with
 | cons _ _ v vs h hs=>cases hs; exact⟨v,rfl,h⟩
theorem TyL.two {p:Prg}{t u:Typ}{vs:List Val}(h:TyL p [t,u] vs):∃a b,vs=[a,b]∧TyV p t a∧TyV p u b:=by
 cases h with
 | cons _ _ v vs h hs =>
  obtain⟨b,rfl,hb⟩:=hs.one;exact⟨v,b,rfl,h,hb⟩
theorem zIe {p:Prg}(b:Bool):TyV p zAd (zBI b):=.bool _ (by cases b<;>simp)
theorem zF1 (n:Int) : -1099511627776≤zBB n∧zBB n≤1099511627776:=by
 unfold zBB;split
 ·omega
 ·split<;>omega
theorem zSg {a b:Int}(h1 : -1099511627776≤a)(h2:a≤1099511627776) : -1099511627776≤a.tdiv b∧a.tdiv b≤1099511627776:=by have h:=Int.natAbs_tdiv_le_natAbs a b;omega
theorem zTE {a b:Int}(h1 : -1099511627776≤a)(h2:a≤1099511627776)(hm:a.tmod b≠0)(hb:b≠0) : -1099511627775≤a.tdiv b:=by
 have hn:a.natAbs / b.natAbs=(a.tdiv b).natAbs:=by rw[Int.natAbs_tdiv]; rfl
 have hb2:2≤b.natAbs:=by
  rcases jAo b.natAbs 2 with h | h
  ·exfalso;have:b=1∨b = -1:=by omega
   rcases this with rfl | rfl
   ·simp at hm
   ·exact hm (by rw[Int.tmod_neg,Int.tmod_one])
  ·exact h
 have:a.natAbs / b.natAbs≤a.natAbs / 2:=Nat.div_le_div_left hb2 (by omega);omega
theorem zQf {a:Int}(b:Int)(h1 : -1099511627776≤a)(h2:a≤1099511627776) : -1099511627776≤zIv a b∧zIv a b≤1099511627776:=by
 unfold zIv;have h:=zSg (b:=b) h1 h2;split
 ·omega
 ·rename_i hb;split
  ·rename_i hc;have:=zTE h1 h2 hc.1 hb;omega
  ·omega
theorem zXF (a b:Int):zNv a b=if b=0 then 0 else if a.tmod b≠0∧¬(a<0↔b<0) then a.tmod b+b else a.tmod b:=by
 unfold zNv zIv;by_cases hb:b=0
 ·simp[hb]
 ·rw[if_neg hb,if_neg hb,if_neg hb];have:=Int.mul_tdiv_add_tmod a b;split
  ·rw[Int.mul_sub]; omega
  ·omega
theorem zKN {a b:Int}(h1 : -1099511627776≤b)(h2:b≤1099511627776) : -1099511627776≤zNv a b∧zNv a b≤1099511627776:=by
 rw[zXF];by_cases hb:b=0
 ·simp[hb]
 ·rw[if_neg hb];have h3:(a.tmod b).natAbs<b.natAbs:=by rw[Int.natAbs_tmod]; exact Nat.mod_lt _ (by omega)
  have h4:0≤a→0≤a.tmod b:=Int.tmod_nonneg b;have h5:a<0→a.tmod b≤0:=fun h=>by have:=Int.tmod_nonneg (a:=-a) b (by omega);rw[Int.neg_tmod]at this;omega
  split<;>omega
theorem zQL {n a b:Int}(a1 : -1099511627776≤a)(a2:a≤1099511627776)(b1 : -1099511627776≤b)(b2:b≤1099511627776) : -1099511627776≤zLt n a b∧zLt n a b≤1099511627776:=by
 unfold zLt;split
 ·exact zF1 _
 ·split
  ·exact zF1 _
  ·split
   ·exact zF1 _
   ·split
    ·exact zQf b a1 a2
    ·exact zKN b1 b2
theorem zDz:∀(l:List Val),l.length≤jH l
 | []=>by simp[jH]
 | .mk _ _ l'::l=>by have:=zDz l; simp only[jAl,jH,qC]; omega
theorem zVt {v:Val}(h:qC v≤256):v.kids.length≤255:=by
 cases v with
 | mk k n l =>
  have:=zDz l;simp only[qC]at h;simp only[Val.kids];omega
theorem qIk {p:Prg}{n:Int}{ts:List Typ}{t:Typ}(h:OpT n ts t){vs:List Val}(hv:TyL p ts vs)(hs:∀v∈vs,qC v≤256):TyV p t (opV n vs)∧qC (opV n vs)≤1000:=by
 cases h with
 | arith n h1 h2 =>
  obtain⟨a,b,rfl,ha,hb⟩:=hv.two;obtain⟨x,rfl,x1,x2⟩:=ha.int_inv;obtain⟨y,rfl,y1,y2⟩:=hb.int_inv;simp only[opV,if_pos h2];have:=zQL (n:=n) x1 x2 y1 y2;exact⟨.int _ this.1 this.2,by simp[qC,jH]⟩
 | less =>
  obtain⟨a,b,rfl,ha,hb⟩:=hv.two;exact⟨zIe _,by simp[opV,zBI,qC,jH]⟩
 | same u =>
  obtain⟨a,b,rfl,ha,hb⟩:=hv.two;exact⟨zIe _,by simp[opV,zBI,qC,jH]⟩
 | andor n h =>
  obtain⟨a,b,rfl,ha,hb⟩:=hv.two;rcases h with rfl | rfl<;>exact⟨zIe _,by simp[opV,zBI,qC,jH]⟩
 | not =>
  obtain⟨a,rfl,ha⟩:=hv.one;exact⟨zIe _,by simp[opV,zBI,qC,jH]⟩
 | join t =>
  obtain⟨a,b,rfl,ha,hb⟩:=hv.two;obtain⟨x,rfl,hx⟩:=ha.list_inv;obtain⟨y,rfl,hy⟩:=hb.list_inv;refine⟨.list _ _ fun v hv=>?_,?_⟩
  ·rcases jAb.1 hv with h | h
   ·exact hx v h
   ·exact hy v h
  ·have h1:=hs (.mk 4 0 x) (by simp);have h2:=hs (.mk 4 0 y) (by simp);simp only[qC]at h1 h2;simp[opV,Val.kids,qC,zBU];omega
 | len t =>
  obtain⟨a,rfl,ha⟩:=hv.one;have:=zVt (hs a (by simp));exact⟨.int _ (by omega) (by omega),by simp[opV,qC,jH]⟩
inductive WE (p:Prg):List Bnd→Exp→Typ→Prop
 | int (env i n r u ns) (h1 : -1099511627776≤n) (h2:n≤1099511627776):WE p env (.mk i 0 n r u [] ns) zAY
 | bool (env i n r u ns) (h:n=0∨n=1):WE p env (.mk i 1 n r u [] ns) zAd
 | var (env i n r u ns t) (h:zEm env r n=some t):WE p env (.mk i 2 n r u [] ns) t
 | call (env i n r u ks ns) (hn:ks.length≤32768) (d:Dfn) (hd:qT p.defs r=some d) (hk:d.kind=2) (hl:ks.length=(d.slots.map Slt.typ).length) (hw:∀(j:Nat) (hj:j<ks.length),WE p env ks[j] ((d.slots.map Slt.typ)[j]'(hl▸hj))) :
  WE p env (.mk i 3 n r u ks ns) d.res
 | op (env i n r u ks ns) (hn:ks.length≤32768) (ts:List Typ) (t:Typ) (ho:OpT n ts t) (hl:ks.length=ts.length) (hw:∀(j:Nat) (hj:j<ks.length),WE p env ks[j] (ts[j]'(hl▸hj))):WE p env (.mk i 4 n r u ks ns) t
 | ite (env i n r u a b c ns t) (ha:WE p env a zAd) (hb:WE p env b t) (hc:WE p env c t):WE p env (.mk i 5 n r u [a,b,c] ns) t
 | lets (env i n r u a b ns v t) (hf:∀x∈env,x.id≠i) (ha:WE p env a v) (hb:WE p (env++[⟨i,0,v⟩]) b t):WE p env (.mk i 6 n r u [a,b] ns) t
 | record (env i n r u ks ns) (hn:ks.length≤32768) (d:Dfn) (hd:qT p.defs r=some d) (hk:d.kind=0) (hl:ks.length=(d.slots.map Slt.typ).length) (hw:∀(j:Nat) (hj:j<ks.length),WE p env ks[j] ((d.slots.map Slt.typ)[j]'(hl▸hj))) :
  WE p env (.mk i 7 n r u ks ns) (jZ r)
 | field (env i r u a ns) (d:Dfn) (j:Nat) (hd:qT p.defs r=some d) (hk:d.kind=0) (hj:j<d.slots.length) (ha:WE p env a (jZ r)):WE p env (.mk i 8 j r u [a] ns) d.slots[j].typ
 | case (env i r u a ns) (d:Dfn) (j:Nat) (hd:qT p.defs r=some d) (hk:d.kind=1) (hj:j<d.slots.length) (ha:WE p env a d.slots[j].typ):WE p env (.mk i 9 j r u [a] ns) (jZ r)
 | mtch (env i n r u a ks ns) (d:Dfn) (t:Typ) (hf:∀x∈env,x.id≠i) (hd:qT p.defs r=some d) (hk:d.kind=1) (hl:ks.length=d.slots.length) (ha:WE p env a (jZ r))
  (hw:∀(j:Nat) (hj:j<ks.length),WE p (env++[⟨i,j,(d.slots[j]'(hl▸hj)).typ⟩]) ks[j] t):WE p env (.mk i 10 n r u (a::ks) ns) t
 | list (env i n r u ks ns t) (hn:ks.length≤32768) (hw:∀(j:Nat) (hj:j<ks.length),WE p env ks[j] t):WE p env (.mk i 11 n r u ks ns) (zCQ t)
 | fold (env i n r u l s b ns v t) (hf:∀x∈env,x.id≠i) (hl:WE p env l (zCQ v)) (hs:WE p env s t) (hb:WE p (env++[⟨i,0,v⟩]++[⟨i,1,t⟩]) b t):WE p env (.mk i 12 n r u [l,s,b] ns) t
theorem zK1 (B:List Bnd)(b:Bnd)(x:Id)(n:Int):zEm (B++[b]) x n=if b.id=x∧b.n=n then some b.typ else zEm B x n:=by
 unfold zEm;rw[List.reverse_append,List.reverse_singleton,jCx,jD5];by_cases h1:b.id=x
 ·by_cases h2:b.n=n<;>simp[h1,h2]
 ·simp[h1]
inductive EnvT (p:Prg):List Bnd→List EVar→Prop
 | nil:EnvT p [] []
 | snoc (B:List Bnd) (V:List EVar) (b:Bnd) (v:EVar) (h:EnvT p B V) (hi:v.id=b.id) (hn:v.n=b.n) (ht:TyV p b.typ v.v) (hz:qC v.v≤256):EnvT p (B++[b]) (V++[v])
theorem EnvT.find {p:Prg}{B:List Bnd}{V:List EVar}(h:EnvT p B V){x:Id}{n:Int}{t:Typ}:zEm B x n=some t→TyV p t (zEc V x n)∧qC (zEc V x n)≤256:=by
 induction h with
 | nil=>intro h; simp[zEm]at h
 | snoc B V b v h hi hn ht hz ih =>
  rw[zK1,zKh,hi,hn];split
  ·intro e; cases e; exact⟨ht,hz⟩
  ·exact ih
theorem EnvT.push {p:Prg}{B:List Bnd}{V:List EVar}(h:EnvT p B V){i:Id}{n:Int}{t:Typ}{v:Val}(ht:TyV p t v∧qC v≤256):EnvT p (B++[⟨i,n,t⟩]) (V++[⟨i,n,v⟩]):=.snoc _ _ _ _ h rfl rfl ht.1 ht.2
theorem EnvT.len {p:Prg}{B:List Bnd}{V:List EVar}(h:EnvT p B V):V.length=B.length:=by
 induction h with
 | nil=>rfl
 | snoc _ _ _ _ _ _ _ _ _ ih=>simp[ih]
theorem EnvT.ids {p:Prg}{B:List Bnd}{V:List EVar}(h:EnvT p B V){i:Id}:(∀b∈B,b.id≠i)→∀v∈V,v.id≠i:=by
 induction h with
 | nil=>simp
 | snoc B V b v h hi hn ht hz ih =>
  intro hb x hx;rcases jAb.1 hx with hx | hx
  ·exact ih (fun y hy=>hb y (jBd _ hy)) x hx
  ·rw[jAn.1 hx,hi];exact hb b (by simp)
theorem EnvT.args {p:Prg}:∀{ss:List Slt} {vs:List Val},TyL p (ss.map Slt.typ) vs→(∀v∈vs,qC v≤256)→EnvT p (ss.map fun s=>⟨s.id,0,s.typ⟩) (zC6 ss vs):=by
 intro ss;induction ss using zGw with
 | nil =>
  intro vs h _;cases h;exact .nil
 | snoc ss s ih =>
  intro vs h hz;have hl:=h.len;simp only[jB5,jA5,jC0]at hl;obtain⟨ws,w,rfl⟩:∃ws w,vs=ws++[w]:=⟨vs.dropLast,vs.getLast (fun e=>by rw[e]at hl; simp at hl),(List.dropLast_concat_getLast _).symm⟩;simp only[jA5,jC0]at hl;have h1:TyL p (ss.map Slt.typ) ws:=TyL.of (by simp; omega) fun j hj=>by have:=h.get j (by simp; omega) (by simp; omega);rw[jBq hj]at this;rw[jBr]at this ⊢;rw[jBq (by omega)]at this;exact this
  have h2:TyV p s.typ w:=by
   have:=h.get ss.length (by simp; omega) (by simp);rw[jCu (by omega)]at this
   simpa [show ss.length-ws.length=0 by omega] using this
  have e:zC6 (ss++[s]) (ws++[w])=zC6 ss ws++[⟨s.id,0,w⟩]:=by unfold zC6;rw[List.zipWith_append (by omega)];rfl
  rw[e,jCs];exact(ih h1 fun v hv=>hz v (jBd _ hv)).push ⟨h2,hz w (by simp)⟩
def zTJ (p:Prg):Prop:=∀(r:Id) (d:Dfn),qT p.defs r=some d→zGL d=true→WE p (zUI d) d.body d.res
section
variable {p:Prg}{ev:Evl}
def zDX (ev:Evl):Prop:=∀e V s,s.fail≠0→ev e V s=(vz,s)
def Snd (p:Prg)(ev:Evl):Prop:=∀e B V s t,WE p B e t→EnvT p B V→(ev e V s).2.fail=0→TyV p t (ev e V s).1∧qC (ev e V s).1≤256
theorem zGc (h:zDX ev)(V:List EVar):∀(l:List Exp) (s:XS),s.fail≠0→(jE ev V l s).2=s
 | [],s,_=>rfl
 | e::l,s,hs=>by simp only[jE,h e V s hs]; exact zGc h V l s hs
theorem zRv (h:zDX ev){V:List EVar}{e:Exp}{l:List Exp}{s:XS}(hs:(jE ev V (e::l) s).2.fail=0):(ev e V s).2.fail=0:=by
 by_cases hf:(ev e V s).2.fail=0
 ·exact hf
 ·simp only[jE]at hs;rw[zGc h V l _ hf]at hs;exact hs
theorem zDq (h:zDX ev)(V:List EVar)(i:Id)(b:Exp):∀(l:List Val) (r:Val×XS),r.2.fail≠0→(yJ ev V i b l r).2=r.2
 | [],r,_=>rfl
 | x::l,r,hs=>by simp only[yJ,h _ _ _ hs];exact zDq h V i b l _ hs
theorem zE0 (h:zDX ev)(k:Snd p ev){B:List Bnd}{V:List EVar}(hV:EnvT p B V):∀(l:List Exp) (ts:List Typ) (s:XS) (hl:l.length=ts.length),(∀(j:Nat) (hj:j<l.length),WE p B l[j] (ts[j]'(hl▸hj))) →
 (jE ev V l s).2.fail=0→TyL p ts (jE ev V l s).1∧∀v∈(jE ev V l s).1,qC v≤256
 | [],[],s,_,_,_=>⟨.nil,by simp[jE]⟩
 | [],t::ts,s,hl,_,_=>by simp at hl
 | e::l,[],s,hl,_,_=>by simp at hl
 | e::l,t::ts,s,hl,hw,hs=>by
  have h1:=k e B V s t (hw 0 (by simp)) hV (zRv h hs);have h2:=zE0 h k hV l ts (ev e V s).2 (by simpa using hl) (fun j hj=>hw (j+1) (by simpa using hj)) (by simpa only[jE] using hs);simp only[jE];refine⟨.cons _ _ _ _ h1.1 h2.1,fun v hv=>?_⟩;rcases jA7.1 hv with rfl | hv
  ·exact h1.2
  ·exact h2.2 v hv
theorem zKj (h:zDX ev)(k:Snd p ev){B:List Bnd}{V:List EVar}(hV:EnvT p B V){i:Id}{b:Exp}{u t:Typ}(hb:WE p (B++[⟨i,0,u⟩]++[⟨i,1,t⟩]) b t):∀(l:List Val) (r:Val×XS),(∀x∈l,TyV p u x∧qC x≤256) →
 (r.2.fail=0→TyV p t r.1∧qC r.1≤256)→(yJ ev V i b l r).2.fail=0→TyV p t (yJ ev V i b l r).1∧qC (yJ ev V i b l r).1≤256
 | [],r,_,hr,hs=>hr hs
 | x::l,r,hl,hr,hs=>by
  simp only[yJ]at hs ⊢;have h0:r.2.fail=0:=by
   by_cases hf:r.2.fail=0
   ·exact hf
   ·have e:=zDq h V i b l (vz,r.2) hf;rw[h _ _ _ hf,e]at hs;exact hs
  exact zKj h k hV hb l _ (fun y hy=>hl y (jAh _ hy)) (fun hf=>k b _ _ _ t hb ((hV.push (hl x (by simp))).push (hr h0)) hf) hs
theorem zFj {c:Bool}{s:XS}{v:Val}(h:s.fail=0):zf c s v=v:=by simp[zf,h]
theorem zVZ {v:Val}(h:qC v≤10000000)(hb:¬zJv v):qC v≤256:=by have h1:=zM4 v (by omega);unfold zJv at hb;omega
theorem zEl {v x:Val}(h:qC v≤256)(hx:x∈v.kids):qC x≤256:=by have:=zAH hx; omega
theorem zP1 {l:List Val}(h:∀v∈l,qC v≤256)(hl:l.length≤32768):jH l≤8388608:=by have:=zT8 h;have:l.length*256≤32768*256:=jBa _ hl;omega
theorem up {t:Typ}{v:Val}(h:TyV p t v∧qC v≤256):TyV p t v∧qC v≤10000000:=⟨h.1,by omega⟩
theorem zWm (hp:zTJ p)(fl:Nat)(h:zDX ev)(k:Snd p ev){e:Exp}{B:List Bnd}{V:List EVar}{s:XS}{t:Typ}(he:WE p B e t)(hV:EnvT p B V)(hs:(qW p fl ev e V s).2.fail=0):TyV p t (qW p fl ev e V s).1∧qC (qW p fl ev e V s).1≤10000000:=by
 cases he with
 | int _ i n r u ns h1 h2=>exact⟨.int n h1 h2,by simp[qW,qC,jH]⟩
 | bool _ i n r u ns h=>exact⟨.bool n h,by simp[qW,qC,jH]⟩
 | var _ i n r u ns _ h =>
  have:=hV.find h;exact⟨this.1,by simp only[qW]; simp; omega⟩
 | call _ i n r u ks ns hn d hd hk hl hw =>
  have e:qW p fl ev (.mk i 3 n r u ks ns) V s=zB1 ev d (jE ev V ks s).1 (jE ev V ks s).2:=by simp[qW,dfn,hd]
  rw[e]at hs ⊢;unfold zB1 at hs ⊢;by_cases hf:(jE ev V ks s).2.fail=0
  ·rw[if_neg (by simp[hf])]at hs ⊢;have ha:=zE0 h k hV ks _ s hl hw hf;exact up (k _ _ _ _ _ (hp r d hd (by simp[zGL,hk])) (EnvT.args ha.1 ha.2) hs)
  ·rw[if_pos hf]at hs;exact(hf hs).elim
 | op _ i n r u ks ns hn ts _ ho hl hw =>
  have e:qW p fl ev (.mk i 4 n r u ks ns) V s=(zf true (jE ev V ks s).2 (opV n (jE ev V ks s).1),(jE ev V ks s).2):=by simp[qW]
  rw[e]at hs ⊢;have ha:=zE0 h k hV ks _ s hl hw hs;rw[zFj hs];have:=qIk ho ha.1 ha.2;exact⟨this.1,by simp only; omega⟩
 | record _ i n r u ks ns hn d hd hk hl hw =>
  have e:qW p fl ev (.mk i 7 n r u ks ns) V s=(zf (fl==1) (jE ev V ks s).2 (.mk 2 0 (jE ev V ks s).1),(jE ev V ks s).2):=by simp[qW]
  rw[e]at hs ⊢;obtain⟨ha,hz⟩:=zE0 h k hV ks _ s hl hw hs;rw[zFj hs];have hlen:=ha.len;rw[jB5]at hlen;refine⟨.record _ d _ hd hk hlen fun j hj=>?_,by have:=zP1 hz (by rw[zCh]; exact hn); simp only[qC]; omega⟩;have:=ha.get j hj (by rw[jB5]; omega)
  rwa [jBr]at this
 | case _ i r u a ns d j hd hk hj ha =>
  have e:qW p fl ev (.mk i 9 j r u [a] ns) V s=(zf (fl==1) (ev a V s).2 (.mk 3 j [(ev a V s).1]),(ev a V s).2):=by simp[qW,jE]
  rw[e]at hs ⊢;rw[zFj hs];have:=k a B V s _ ha hV hs;exact⟨.case _ d j _ hd hk hj this.1,by simp only[qC,jH]; omega⟩
 | list _ i n r u ks ns t hn hw =>
  have e:qW p fl ev (.mk i 11 n r u ks ns) V s=(zf (fl==1) (jE ev V ks s).2 (.mk 4 0 (jE ev V ks s).1),(jE ev V ks s).2):=by simp[qW]
  rw[e]at hs ⊢;obtain⟨ha,hz⟩:=zE0 h k hV ks (List.replicate ks.length t) s (by simp) (fun j hj=>by rw[List.getElem_replicate]; exact hw j hj) hs;rw[zFj hs];refine⟨.list _ _ fun v hv=>?_,by have:=zP1 hz (by rw[zCh]; exact hn); simp only[qC]; omega⟩;obtain⟨j,hj,rfl⟩:=jB4 hv;have:=ha.get j hj (by rw[←ha.len]; exact hj)
  rwa [List.getElem_replicate]at this
 | ite _ i n r u a b c ns _ ha hb hc =>
  have e:qW p fl ev (.mk i 5 n r u [a,b,c] ns) V s=if (ev a V s).2.fail≠0 then (vz,(ev a V s).2) else ev ([a,b,c].getD (if (ev a V s).1.n=1 then 1 else 2) .zero) V (ev a V s).2:=by simp[qW,zAt]
  rw[e]at hs ⊢;by_cases hf:(ev a V s).2.fail=0
  ·rw[if_neg (by simp[hf])]at hs ⊢;by_cases hn:(ev a V s).1.n=1
   ·simp only[if_pos hn]at hs ⊢;exact up (k b B V _ _ hb hV hs)
   ·simp only[if_neg hn]at hs ⊢;exact up (k c B V _ _ hc hV hs)
  ·rw[if_pos hf]at hs;exact(hf hs).elim
 | lets _ i n r u a b ns v _ hfr ha hb =>
  have e:qW p fl ev (.mk i 6 n r u [a,b] ns) V s=if (ev a V s).2.fail≠0 then (vz,(ev a V s).2) else ev b (V++[⟨i,0,(ev a V s).1⟩]) (ev a V s).2:=by simp[qW,zAt]
  rw[e]at hs ⊢;by_cases hf:(ev a V s).2.fail=0
  ·rw[if_neg (by simp[hf])]at hs ⊢;exact up (k b _ _ _ _ hb (hV.push (k a B V s _ ha hV hf)) hs)
  ·rw[if_pos hf]at hs;exact(hf hs).elim
 | field _ i r u a ns d j hd hk hj ha =>
  have e:qW p fl ev (.mk i 8 j r u [a] ns) V s=if (ev a V s).2.fail≠0 then (vz,(ev a V s).2) else ((ev a V s).1.kids.getD j vz,(ev a V s).2):=by simp[qW,zAt]
  rw[e]at hs ⊢;by_cases hf:(ev a V s).2.fail=0
  ·rw[if_neg (by simp[hf])]at hs ⊢;obtain⟨hty,hz⟩:=k a B V s _ ha hV hf;rcases hty.def_inv hd with ⟨_,vs,hl,h1,h2⟩ | ⟨h1,_⟩
   ·rw[h1]at hz ⊢;have hjl:j<vs.length:=by omega
    simp only[Val.kids,jBk,jA2 hjl,jB9];exact up ⟨h2 j hjl,zEl hz (jA3 hjl)⟩
   ·omega
  ·rw[if_pos hf]at hs;exact(hf hs).elim
 | mtch _ i n r u a ks ns d _ hfr hd hk hl ha hw =>
  have e:qW p fl ev (.mk i 10 n r u (a::ks) ns) V s=if (ev a V s).2.fail≠0 then (vz,(ev a V s).2) else ev ((a::ks).getD (1+(ev a V s).1.n).toNat .zero) (V++[⟨i,(ev a V s).1.n,(ev a V s).1.kids.headD vz⟩]) (ev a V s).2:=by simp[qW,zAt]
  rw[e]at hs ⊢;by_cases hf:(ev a V s).2.fail=0
  ·rw[if_neg (by simp[hf])]at hs ⊢;obtain⟨hty,hz⟩:=k a B V s _ ha hV hf;rcases hty.def_inv hd with ⟨h1,_⟩ | ⟨_,m,x,hm,h1,h2⟩
   ·omega
   ·have hmk:m<ks.length:=by omega
    have e2:(1+(m:Int)).toNat=m+1:=by omega
    rw[h1]at hs hz ⊢;simp only[Val.n,Val.kids,List.headD_cons,e2,List.getD_cons_succ,jBk,jBf,jA2 hmk,jB9]at hs ⊢;exact up (k _ _ _ _ _ (hw m hmk) (hV.push ⟨h2,zEl hz (by simp[Val.kids])⟩) hs)
  ·rw[if_pos hf]at hs;exact(hf hs).elim
 | fold _ i n r u l s' b ns v _ hfr hl' hs' hb =>
  have e:qW p fl ev (.mk i 12 n r u [l,s',b] ns) V s=if (ev l V s).2.fail≠0 then (vz,(ev l V s).2) else yJ ev V i b (ev l V s).1.kids (ev s' V (ev l V s).2):=by simp[qW,zAt]
  rw[e]at hs ⊢;by_cases hf:(ev l V s).2.fail=0
  ·rw[if_neg (by simp[hf])]at hs ⊢;obtain⟨hty,hz⟩:=k l B V s _ hl' hV hf;obtain⟨vs,h1,h2⟩:=hty.list_inv;rw[h1]at hs hz ⊢;exact up (zKj h k hV hb vs _ (fun x hx=>⟨h2 x hx,zEl hz hx⟩) (fun hg=>k s' B V _ _ hs' hV hg) hs)
  ·rw[if_pos hf]at hs;exact(hf hs).elim
theorem zDu (p:Prg)(fl:Nat):∀m,zDX (zAv p fl m)
 | 0=>fun e V s h=>by rw[zAv,if_pos h]
 | m+1=>fun e V s h=>by rw[zAv,if_pos h]
theorem zHO (hp:zTJ p)(fl:Nat):∀m,Snd p (zAv p fl m)
 | 0=>fun e B V s t he hV hs=>by
  rw[zAv]at hs;split at hs
  ·rename_i h; exact(h hs).elim
  ·simp[zF5]at hs
 | m+1=>fun e B V s t he hV hs=>by
  rw[zAv]at hs ⊢;split at hs
  ·rename_i h; exact(h hs).elim
  ·split at hs
   ·simp[zF5]at hs
   ·rename_i h1 h2;rw[if_neg h1,if_neg h2];simp only[zOn]at hs ⊢;have hk:zCX (qW p fl (zAv p fl m) e V (zDK e s))=(qW p fl (zAv p fl m) e V (zDK e s)).2∧(qW p fl (zAv p fl m) e V (zDK e s)).2.fail=0∧¬zJv (qW p fl (zAv p fl m) e V (zDK e s)).1:=by
     unfold zCX at hs ⊢;split at hs
     ·simp[zMP]at hs
     ·rename_i h3;rw[if_neg h3];exact⟨rfl,hs,fun hb=>h3 ⟨hs,hb⟩⟩
    rw[zFj hs];have:=zWm hp fl (zDu p fl m) (zHO hp fl m) he hV hk.2.1;exact⟨this.1,zVZ this.2 hk.2.2⟩
end
end Go.Proofs.YtdnelmeboihpkaaGreatDoor

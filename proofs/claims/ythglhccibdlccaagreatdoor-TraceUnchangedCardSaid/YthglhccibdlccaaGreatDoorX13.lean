/-
  The maker's functions without recursion.
  trace.differ: the IDs that only one of two maps has, or whose things differ; in some order.
  Types of expressions; which definitions the maker may name.
  value.Def, and ValidType of package value and of the reference.
  trace.Changed.
  The maker's literals.
-/
import Derived.Test.YthglhccibdlccaaGreatDoorX12
import Derived.Test.YthglhccibdlccaaGreatDoorX8
import Derived.Test.YthglhccibdlccaaGreatDoorX10
import Derived.Test.YthglhccibdlccaaGreatDoorX11
set_option linter.unusedVariables false
set_option maxHeartbeats 8000000
set_option maxRecDepth 100000
set_option linter.unusedSimpArgs false
open Go.Proofs.Tryz (prog)
namespace Go.Proofs.YthglhccibdlccaaGreatDoor
open Go.Abs
def zVj:K:=G [kO 2 0,kO 3 1,kZ 4 kz0,kMb 5 false] (Z (G [kMi 6 0] (K.block 0 (K.loop (Z (G [M 7 6,D 8 2 1,L 9 8 1,kN 10 9,kB 11 7 10 .lss] (Y 11 ks (K.exit 0))) (Z (K.block 1 (Z (K.dops [(0,0,D 14 2 1),(1,0,L 15 14 1),(2,0,M 16 6),(3,0,kX 17 15 16 31),(4,0,D 18 17 0),(5,0,J 19 18 3),(6,0,J 20 3 3),(7,0,⟨none,.eqs (some 21) false [.i,.i,.i] (kt 19) (kt 20)⟩)]) (Y 21 (G [D 22 2 1,L 23 22 1,M 24 6,kX 25 23 24 31,J 26 25 31,S 4 26 31,kMb 5 true] kr) ks))) (K.ops [M 12 6,kBi 13 12 1 .add,M 6 13])))))) (G [kb 27 kz0 [],S 4 27 31,kMb 5 false] kr))
theorem qBg:zL prog Tryz.f26.ntmps (Tryz.f26.body.getD .skip)=some zVj.erase:=by kernel_rfl
@[simp] theorem qLX:zA prog 26=true:=by kernel_rfl
structure Bnd where
 id:Id
 n:Int
 typ:Typ
def zAS (b:Bnd):List A:=[.lit (.int .i64 b.id.a),.lit (.int .i64 b.id.b),.lit (.int .i64 b.id.c),.lit (.int .i64 b.n),.lit (.int .i64 b.typ.k),.lit (.int .i64 b.typ.id.a),.lit (.int .i64 b.typ.id.b),.lit (.int .i64 b.typ.id.c),.sl b.typ.kids.length (jH b.typ.kids)]
theorem zHr (b:Bnd):jM (zAS b):=by have h1:=yZ b.typ.kids;exact⟨by simp[zAS,h1.1],fun rf g=>by simp[zAS,h1.2]⟩
def zQ (l:List Bnd):List A:=l.flatMap zAS
theorem zHO (l:List Bnd):jM (zQ l):=zBg zHr l
@[simp] theorem qBF (l:List Bnd):jK (zQ l)=zQ l:=(zHO l).1
@[simp] theorem qGn {rf g}(l:List Bnd):vwL rf g (zQ l)=zQ l:=(zHO l).2 _ _
@[simp] theorem qCP:zQ []=[]:=rfl
theorem zJB (x:Bnd)(l:List Bnd):zQ (x::l)=zAS x++zQ l:=rfl
theorem zHb (l l':List Bnd):zQ (l++l')=zQ l++zQ l':=by simp only[zQ,jCh]
@[simp] theorem qCO (l:List Bnd):(zQ l).length=l.length*9:=by rw[zQ,zBD (k:=9) (fun _=>rfl)]
theorem zCp {l:List Bnd}{i:Nat}(h:i<l.length):(zQ l).drop (i*9)=zAS l[i]++zQ (l.drop (i+1)):=by rw[zQ,zQ,zCu (k:=9) (fun _=>rfl) h]
theorem zIB {l:List Bnd}{i:Nat}(h:i<l.length):zQ (l.take (i+1))=zQ (l.take i)++zAS l[i]:=by rw[zQ,zQ,zC8 (k:=9) (fun _=>rfl) h]
@[simp] theorem qJl (d:Bnd):(zAS d).length=9:=rfl
@[simp] theorem qJk (d:Bnd):(zAS d).take 9=zAS d:=jAk (jA _)
@[simp] theorem qFe (d:Bnd)(l:List A):(zAS d++l).take 9=zAS d:=by rw[jC4 (by simp)]; exact jAk (by simp)
@[simp] theorem qFB (d:Bnd):jK (zAS d)=zAS d:=(zHr d).1
@[simp] theorem qNr (d:Bnd) {rf g}:vwL rf g (zAS d)=zAS d:=(zHr d).2 _ _
theorem tmN {x k:Int}(h:0≤x):x.tmod k=x % k:=jDw h
theorem tdN {x k:Int}(h:0≤x):x.tdiv k=x / k:=Int.tdiv_eq_ediv_of_nonneg h
theorem zKv (m:Mk)(h0:0≤m.name)(h1:m.name≤1000000000000000) :
 ∃s:ByteArray,Ret prog 81 [.ptr 0 0] (mkS m) (.lit (.string s)) (mkS {m with name:=m.name+1}):=by
 have w1:=qF (m.name+1) (by omega);have e1:(m.name+1).tmod 3=(m.name+1) % 3:=tmN (by omega);have e2:(m.name+1).tdiv 3=(m.name+1) / 3:=tdN (by omega);have e3:((m.name+1).tdiv 3).tmod 8=((m.name+1) / 3) % 8:=by rw[e2]; exact tmN (by omega)
 have w2:IntKind.i64.wrap ((m.name+1).tdiv 3)=(m.name+1).tdiv 3:=IntWalk.i64_in _ (by rw[e2]; omega);have a0:0≤(m.name+1).tmod 3:=by omega
 have a1:(m.name+1).tmod 3<3:=by omega
 have b0:0≤((m.name+1).tdiv 3).tmod 8:=by omega
 have b1:((m.name+1).tdiv 3).tmod 8<8:=by omega
 have hA:∃s1 rest,s1.size≤10∧List.drop ((m.name+1).tmod 3).toNat [A.lit (.string ⟨#[117]⟩),A.lit (.string ⟨#[118]⟩),A.lit (.string ⟨#[119]⟩)]=A.lit (.string s1)::rest:=by
  have:((m.name+1).tmod 3).toNat=0∨((m.name+1).tmod 3).toNat=1∨((m.name+1).tmod 3).toNat=2:=by omega
  rcases this with e | e | e<;>rw[e]<;>exact⟨_,_,by decide,rfl⟩
 have hB:∃s1 rest,s1.size≤10∧List.drop (((m.name+1).tdiv 3).tmod 8).toNat [A.lit (.string ⟨#[]⟩),A.lit (.string ⟨#[49]⟩),A.lit (.string ⟨#[50]⟩),A.lit (.string ⟨#[51]⟩),A.lit (.string ⟨#[52]⟩),A.lit (.string ⟨#[53]⟩),A.lit (.string ⟨#[54]⟩),A.lit (.string ⟨#[55]⟩)]=A.lit (.string s1)::rest:=by
  generalize ((m.name+1).tdiv 3).tmod 8=b at b0 b1;have:b.toNat=0∨b.toNat=1∨b.toNat=2∨b.toNat=3∨b.toNat=4∨b.toNat=5∨b.toNat=6∨b.toNat=7:=by omega
  rcases this with e | e | e | e | e | e | e | e<;>rw[e]<;>exact⟨_,_,by decide,rfl⟩
 obtain⟨sa,ra,hsa,hA⟩:=hA;obtain⟨sb,rb,hsb,hB⟩:=hB;refine⟨sa++sb,?_⟩;refine zK Tryz.func81 rfl qIA (rs:=[.slot 2]) (by kernel_rfl) ?_;unfold qAJ;have h3:((m.name+1).tmod 3).toNat<3:=by omega
 have h8:(((m.name+1).tdiv 3).tmod 8).toNat<8:=by omega
 simp[mkS,mkB,w1,w2,hA,hB,a0,a1,b0,b1,h3,h8];refine⟨by omega,?_⟩;exact zG [0,1] 0 (by decide) (by simp) (by simp) (by simp)
theorem zXW (m:Mk)(b:Bnd)(h0:0≤m.temp)(h1:m.temp≤1000000000000000)(h2 : -1000000000000000≤m.left)(h3:m.left≤1000000000000000) :
 Ret prog 78 [.ptr 0 0,.agg (zAS b)] (mkS m) (.agg (zF (.mk ⟨0,0,m.temp⟩ 2 b.n b.id Typ.zero [] []))) (mkS {m with temp:=m.temp+1,left:=m.left-1}):=by
 refine zK Tryz.func78 rfl qIQ (rs:=[.cell 4 15 true]) (by kernel_rfl) ?_;unfold qAY;simp[mkS,mkB,zAS];refine zN (yQ m 2 b.n [] h0 h1 h2 h3) [0,1] (by decide) (by simp[mkS,mkB]) (by simp) ?_;simp[mkS,mkB,zF];exact zG [0,1] 0 (by decide) (by simp) (by simp) (by simp)
theorem zLd (env:List Bnd)(t:Typ)(hE:env.length≤1000000):Ret prog 77 [.sl env.length (zQ env),.agg (zB t)] [] (.sl (env.filter fun b=>yT b.typ t).length (zQ (env.filter fun b=>yT b.typ t))) []:=by
 refine zK Tryz.func77 rfl zV6 (rs:=[.slot 4]) (by kernel_rfl) ?_;unfold zO9;simp[zB];refine qW (S:=Nat) (fun i=>[(0,.sl env.length (zQ env)),(3,.ptr 0 0),(5,.row 1 ((env.take i).filter fun b=>yT b.typ t).length),(6,int i)]) (fun i=>[.box (zB t),.row false 96 9 ((env.take i).filter fun b=>yT b.typ t).length (zQ ((env.take i).filter fun b=>yT b.typ t))]) (fun i=>i≤env.length) (fun i=>env.length-i) 0 (by simp)
  ((yG (t:=5) (by simp) 96 9).trans (zR [0,1] 0 (by decide) (by simp) (by simp[zB]) (by simp))) ?_
 intro i hi;by_cases h:i<env.length
 ·simp[h,zCp h,zAS,zB];intro hl;refine qK (zDG env[i].typ t) (by simp[zB]) (by simp) ?_;have hst:((env.take (i+1)).filter fun b=>yT b.typ t)=((env.take i).filter fun b=>yT b.typ t)++(if yT env[i].typ t then [env[i]] else []):=by rw[jA9 h,jDi];cases hs:yT env[i].typ t<;>simp[hs]
  cases hs:yT env[i].typ t
  ·simp;rw[hs]at hst;simp only[jAc,if_false,jAz]at hst;exact zU (i+1) h (by omega) (zR [0,1] 0 (by decide) (by simp) (by simp[zB,hst]) (by simp[qA h hl,hst]))
  ·simp[h,zCp h,zAS];rw[hs]at hst;simp only[if_true]at hst;have hle:((env.take i).filter fun b=>yT b.typ t).length≤i:=jBp (jBu _ _) (by simp; omega);refine⟨⟨by simp[maxLen]; omega,by omega⟩,?_⟩;exact zU (i+1) h (by omega) (zR [0,1] 0 (by decide) (by simp) (by simp[zB,hst,zHb,zJB,zAS]) (by simp[qA h hl,hst]))
 ·have:i=env.length:=by omega
  subst this;simp;exact fun _=>zC 1 (by simp)
theorem zDe (env:List Bnd)(b:Bnd)(hE:env.length≤1000000):Ret prog 82 [.sl env.length (zQ env),.agg (zAS b)] [] (.sl (env.length+1) (zQ (env++[b]))) []:=by refine zI Tryz.func82 rfl qCE (rs:=[.slot 4]) (by kernel_rfl) ?_;unfold zVt;simp[zAS];exact⟨⟨by simp[maxLen]; omega,by omega⟩,⟨by simp[maxLen]; omega,by omega⟩,zC 1 (by simp[zHb,zJB,zAS])⟩
def zMB (ds:List Dfn):St:=[.row false 39 31 ds.length (zX ds)]
def zGT (ds:List Dfn)(i:Id):Dfn×Bool:=match ds.find? fun d=>decide (d.id=i)with
 | some d=>(d,true)
 | none=>(Dfn.zero,false)
theorem zIQ {ds:List Dfn}{i:Nat}{x:Id}(h:i<ds.length)(hn:∀d∈ds.take i,d.id≠x)(he:ds[i].id=x):(ds.find? fun d=>decide (d.id=x))=some ds[i]:=by
 have e:ds=ds.take i++ds[i]::ds.drop (i+1):=by rw[←jB8 h,jBy]
 have h1:((ds.take i).find? fun d=>decide (d.id=x))=none:=jD8.2 fun d hd=>by simpa using hn d hd
 have h2:∀y,y=ds[i]→(ds.find? fun d=>decide (d.id=x))=some y:=fun y hy=>by rw[←hy]at e he;rw[e,List.find?_append,h1];simp[he]
 exact h2 _ rfl
theorem zPW (M:List Md)(ds:List Dfn)(x:Id)(hL:ds.length≤1000000):Ret prog 26 [.agg [.sl M.length (qM M),.row 0 ds.length],.agg (jF x)] (zMB ds) (.tup [.agg (zO (zGT ds x).1),bl (zGT ds x).2]) (zMB ds):=by
 refine zK Tryz.func26 rfl qBg (rs:=[.cell 4 31 true,.slot 5]) (by kernel_rfl) ?_;unfold zVj;simp[zMB,jF];refine qW (S:=Nat) (fun i=>[(2,.ptr 1 0),(3,.ptr 2 0),(4,.ptr 3 0),(6,int i)]) (fun _=>[.row false 39 31 ds.length (zX ds),.box [.sl M.length (qM M),.row 0 ds.length],.box (jF x),.box (zO Dfn.zero)]) (fun i=>i≤ds.length∧∀d∈ds.take i,d.id≠x) (fun i=>ds.length-i) 0 (by simp)
  (zR [0,1,2,3] 0 (by decide) (by simp) (by simp[jF,zO,Dfn.zero,Id.zero,Typ.zero,Exp.zero]) (by simp)) ?_
 rintro i ⟨hi,hn⟩;by_cases h:i<ds.length
 ·have hd:=yI h;have hb3:i*31+3≤ds.length*31:=by omega
  have hb31:i*31+31≤ds.length*31:=by omega
  have hw:=zAk i (by omega);by_cases he:ds[i].id=x
  ·have hv:zGT ds x=(ds[i],true):=by unfold zGT; rw[zIQ h hn he]
   have he3:zCx ds[i].id.a ds[i].id.b ds[i].id.c x.a x.b x.c=true:=by rw[zBu]; exact decide_eq_true he
   simp[h,hd,jF,zO,he3,hb3,hb31];exact zG [0] 0 (by decide) (by simp) (by simp) (by simp[hv,zO])
  ·have he3:zCx ds[i].id.a ds[i].id.b ds[i].id.c x.a x.b x.c=false:=by rw[zBu]; exact decide_eq_false he
   simp[h,hd,jF,zO,he3,hb3,hb31];exact zU (i+1) ⟨h,fun d hd'=>by
    rw[jA9 h]at hd';rcases jA8.1 hd' with hd' | hd'
    ·exact hn d hd'
    ·rw[jAg.1 hd']; exact he⟩ (by omega) (zR [0,1,2,3] 0 (by decide) (by simp) (by simp[jF,zO,Dfn.zero,Id.zero,Typ.zero,Exp.zero]) (by simp[hw]))
 ·have:i=ds.length:=by omega
  subst this;rw[jAp]at hn;have hv:zGT ds x=(Dfn.zero,false):=by unfold zGT;rw[jD8.2 fun d hd=>by simpa using hn d hd]
  simp[zO,Dfn.zero,Id.zero,Typ.zero,Exp.zero]
  first | exact fun _=>zG [0] 0 (by decide) (by simp) (by simp) (by simp[hv,zO,Dfn.zero,Id.zero,Typ.zero,Exp.zero]) | exact zG [0] 0 (by decide) (by simp) (by simp) (by simp[hv,zO,Dfn.zero,Id.zero,Typ.zero,Exp.zero])
theorem zZV (M:List Md)(ds:List Dfn)(x:Id)(hL:ds.length≤1000000):Ret prog 26 [.agg [.sl M.length (qM M),.sl ds.length (zX ds)],.agg (jF x)] [] (.tup [.agg (zO (zGT ds x).1),bl (zGT ds x).2]) []:=by
 refine zK Tryz.func26 rfl qBg (rs:=[.cell 4 31 true,.slot 5]) (by kernel_rfl) ?_;unfold zVj;simp[zMB,jF];refine qW (S:=Nat) (fun i=>[(2,.ptr 0 0),(3,.ptr 1 0),(4,.ptr 2 0),(6,int i)]) (fun _=>[.box [.sl M.length (qM M),.sl ds.length (zX ds)],.box (jF x),.box (zO Dfn.zero)]) (fun i=>i≤ds.length∧∀d∈ds.take i,d.id≠x) (fun i=>ds.length-i) 0 (by simp)
  (zR [0,1,2] 0 (by decide) (by simp) (by simp[jF,zO,Dfn.zero,Id.zero,Typ.zero,Exp.zero]) (by simp)) ?_
 rintro i ⟨hi,hn⟩;by_cases h:i<ds.length
 ·have hd:=yI h;have hb3:i*31+3≤ds.length*31:=by omega
  have hb31:i*31+31≤ds.length*31:=by omega
  have hw:=zAk i (by omega);by_cases he:ds[i].id=x
  ·have hv:zGT ds x=(ds[i],true):=by unfold zGT; rw[zIQ h hn he]
   have he3:zCx ds[i].id.a ds[i].id.b ds[i].id.c x.a x.b x.c=true:=by rw[zBu]; exact decide_eq_true he
   simp[h,hd,jF,zO,he3,hb3,hb31];intro hl; exact zG [] 0 (by decide) (by simp) (by simp) (by simp[hv,zO])
  ·have he3:zCx ds[i].id.a ds[i].id.b ds[i].id.c x.a x.b x.c=false:=by rw[zBu]; exact decide_eq_false he
   simp[h,hd,jF,zO,he3,hb3,hb31];intro hl; exact zU (i+1) ⟨h,fun d hd'=>by
    rw[jA9 h]at hd';rcases jA8.1 hd' with hd' | hd'
    ·exact hn d hd'
    ·rw[jAg.1 hd']; exact he⟩ (by omega) (zR [0,1,2] 0 (by decide) (by simp) (by simp[jF,zO,Dfn.zero,Id.zero,Typ.zero,Exp.zero]) (by simp[hw]))
 ·have:i=ds.length:=by omega
  subst this;rw[jAp]at hn;have hv:zGT ds x=(Dfn.zero,false):=by unfold zGT;rw[jD8.2 fun d hd=>by simpa using hn d hd]
  simp[zO,Dfn.zero,Id.zero,Typ.zero,Exp.zero]
  first | exact fun _=>zG [] 0 (by decide) (by simp) (by simp) (by simp[hv,zO,Dfn.zero,Id.zero,Typ.zero,Exp.zero]) | exact zG [] 0 (by decide) (by simp) (by simp) (by simp[hv,zO,Dfn.zero,Id.zero,Typ.zero,Exp.zero])
def zBv {α : Type}(idf : α→Id)(D:List α)(c : α→Bool)(met:List Nat):List Id:=met.filterMap fun i=>(D[i]?).bind fun x=>if c x then some (idf x) else none
theorem zEI {α : Type}{idf : α→Id}{D:List α}{c : α→Bool}{met:List Nat}{i:Nat}{x : α}(h:D[i]?=some x):zBv idf D c (met++[i])=if c x then zBv idf D c met++[idf x] else zBv idf D c met:=by simp only[zBv,List.filterMap_append,List.filterMap_cons,List.filterMap_nil,h,Option.bind_some];cases c x<;>simp
theorem zPd {α β : Type}{f g : α→Option β}:∀{l:List α},(∀x∈l,f x=g x)→l.filterMap f=l.filterMap g
 | [],_=>rfl
 | x::l,h=>by rw[List.filterMap_cons,List.filterMap_cons,h x (jAn ..),zPd fun y hy=>h y (jAm _ hy)]
theorem zRH {α : Type}{idf : α→Id}{c : α→Bool}(D:List α):zBv idf D c (List.range D.length)=(D.filter c).map idf:=by
 induction D using zBK with
 | nil=>rfl
 | snoc D y ih =>
  have h1:zBv idf (D++[y]) c (List.range D.length)=zBv idf D c (List.range D.length):=by
   unfold zBv;refine zPd fun i hi=>?_
   rw[jAo (jC0.1 hi)]
  rw[jA5,jAl,List.range_succ,zEI (x:=y) (by simp),h1,ih,jDi,jB1];cases hc:c y<;>simp[hc]
structure Met (n:Nat)(met:List Nat):Prop where
 nd:met.Nodup
 lt:∀i∈met,i<n
theorem Met.snoc {n:Nat}{met:List Nat}(h:Met n met){i:Nat}(hi:i<n)(hn:i∉met):Met n (met++[i]):=by
 refine⟨?_,fun j hj=>?_⟩
 ·rw[jCy];refine⟨h.nd,by simp,fun a ha b hb=>?_⟩;simp only[jAg]at hb;subst hb;exact fun e=>hn (e▸ha)
 ·rcases jA8.1 hj with hj | hj
  ·exact h.lt j hj
  ·rw[jAg.1 hj]; exact hi
theorem Met.le {n:Nat}{met:List Nat}(h:Met n met):met.length≤n:=by
 have:=h.nd.length_le_of_subset (l₂:=List.range n) fun i hi=>jC0.2 (h.lt i hi)
 simpa using this
theorem Met.perm {n:Nat}{met:List Nat}(h:Met n met)(ha:∀i,i<n→i∈met):met.Perm (List.range n) :=
 (List.perm_ext_iff_of_nodup h.nd List.nodup_range).2 fun i=>⟨fun hi=>jC0.2 (h.lt i hi),fun hi=>ha i (jC0.1 hi)⟩
theorem Met.sel {α : Type}{idf : α→Id}{c : α→Bool}{D:List α}{met:List Nat}(h:Met D.length met)(ha:∀i,i<D.length→i∈met):(zBv idf D c met).Perm ((D.filter c).map idf):=by rw[←zRH];exact(h.perm ha).filterMap _
theorem zIi {α : Type}{idf : α→Id}{enc : α→List A}{D:List α}{i:Nat}{p:List Int×A}(h:(zBI idf enc D)[i]?=some p):∃x,D[i]?=some x∧p=(zBz (idf x),.agg (enc x)):=by rw[zBI,jBd,jAe]at h;obtain⟨x,hx,rfl⟩:=h;exact⟨x,hx,rfl⟩
@[simp] theorem qKe {α : Type}{idf : α→Id}{enc : α→List A}{D:List α}:(zBI idf enc D).length=D.length:=by simp[zBI]
def cD1 {α : Type}(idf : α→Id)(D2:List α)(same : α→α→Bool)(x : α):Bool:=match zAD idf D2 (idf x)with
 | some y=>!same x y
 | none=>true
def cD2 {α : Type}(idf : α→Id)(D1:List α)(y : α):Bool:=(zAD idf D1 (idf y)).isNone
def zM0 {α : Type}(idf : α→Id)(same : α→α→Bool)(D1 D2:List α):List Id:=(D1.filter (cD1 idf D2 same)).map idf++(D2.filter (cD2 idf D1)).map idf
def qA9:K:=G [kMn 6] (G [kMn 7] (Z (G [M 15 0,⟨none,.mop (some 16) .rng [(kt 15)]⟩] (K.block 0 (K.loop (G [⟨none,.mop (some 17) .nxt [(kt 16)]⟩,kE 18 17 0] (Z (Y 18 ks (K.exit 0)) (K.block 1 (G [⟨none,.mop (some 19) .ent [(kt 16)]⟩,kE 20 19 0,kE 21 19 1,kZ 8 [ki,ki,ki],kZ 9 kz0,S 8 20 3,S 9 21 31] (G [M 23 1,J 24 8 3,⟨none,.mop (some 25) (.get 3 (.agg #[ki,ki,ki,ki,ki,ki,ki,(.string ⟨#[]⟩),kl,ki,ki,ki,ki,kl,ki,ki,ki,ki,ki,ki,ki,ki,ki,ki,ki,ki,kl,kl,kl,ki,kl]) true) [(kt 23),(kt 24)]⟩,M 22 25,kE 26 22 0,kE 27 22 1,kZ 10 kz0,S 10 26 31,M 11 27] (G [M 28 11,kR 29 28,M 30 29,T 30 false (M 31 2),T 30 false (J 32 9 31),T 30 false (J 33 10 31),⟨some (30,false),.call (some 34) (kt 31) [(kt 32),(kt 33)]⟩,T 30 false (kR 35 34),kPt 36 30 35] (Y 36 (K.ops [M 37 7,J 38 8 3,kd 39 29 3 1 [ki,ki,ki] [(0,3,(kt 38))],kP 40 29 3 24 37 39,M 7 40]) ks)))))))))) (Z (G [M 41 1,⟨none,.mop (some 42) .rng [(kt 41)]⟩] (K.block 2 (K.loop (G [⟨none,.mop (some 43) .nxt [(kt 42)]⟩,kE 44 43 0] (Z (Y 44 ks (K.exit 2)) (K.block 3 (G [⟨none,.mop (some 45) .ent [(kt 42)]⟩,kE 46 45 0,kZ 12 [ki,ki,ki],S 12 46 3] (G [M 48 0,J 49 12 3,⟨none,.mop (some 50) (.get 3 (.agg #[ki,ki,ki,ki,ki,ki,ki,(.string ⟨#[]⟩),kl,ki,ki,ki,ki,kl,ki,ki,ki,ki,ki,ki,ki,ki,ki,ki,ki,ki,kl,kl,kl,ki,kl]) true) [(kt 48),(kt 49)]⟩,M 47 50,kE 51 47 0,kE 52 47 1,kZ 13 kz0,S 13 51 31,M 14 52] (G [M 53 14,kR 54 53] (Y 54 (K.ops [M 55 7,J 56 12 3,kd 57 29 3 1 [ki,ki,ki] [(0,3,(kt 56))],kP 58 29 3 24 55 57,M 7 58]) ks)))))))))) (G [M 59 7,M 6 59] kr))))
theorem qIw:zL prog Tryz.f56.ntmps (Tryz.f56.body.getD .skip)=some qA9.erase:=by kernel_rfl
@[simp] theorem qLI:zA prog 56=true:=by kernel_rfl
theorem zQV (g:FuncId)(hcal:zA prog g=true)(same:Dfn→Dfn→Bool)(hs:∀x y,Ret prog g [.agg (zO x),.agg (zO y)] [] (bl (same x y)) [])(D1 D2:List Dfn)(hl1:D1.length≤1000000)(hl2:D2.length≤1000000) :
 yX prog 56 [.map 0,.map 1,.clo g [] []] [.mp true 3 (zBI Dfn.id zO D1),.mp true 3 (zBI Dfn.id zO D2)] fun o τ=>∃l:List Id,l.Perm (zM0 Dfn.id same D1 D2)∧o=.ret (.row 2 l.length) ∧
  τ = [.mp true 3 (zBI Dfn.id zO D1),.mp true 3 (zBI Dfn.id zO D2),.row false 29 3 l.length (qE l)]:=by
 refine zJ7 Tryz.func56 rfl qIw (rs:=[.slot 6]) (by kernel_rfl) ?_;unfold qA9;simp;refine qW (S:=List Nat) (fun met=>[(0,.map 0),(1,.map 1),(2,.clo g [] []),(7,.row 3 (zBv Dfn.id D1 (cD1 Dfn.id D2 same) met).length),(16,.ptr 2 0)])
  (fun met=>[.mp true 3 (zBI Dfn.id zO D1),.mp true 3 (zBI Dfn.id zO D2),.it 0 D1.length met,.row false 29 3 (zBv Dfn.id D1 (cD1 Dfn.id D2 same) met).length (qE (zBv Dfn.id D1 (cD1 Dfn.id D2 same) met))])
  (fun met=>Met D1.length met) (fun met=>D1.length-met.length) [] ⟨by simp,by simp⟩
  ((yG (t:=7) (by simp) 29 3).trans (zR [0,1,2,3] 0 (by decide) (by simp) (by simp[zBv]) (by simp[zBv]))) ?_
 intro met hmet;simp;have hkb:∀d:Id,zLk (zBz d)=.agg [.lit (.int .i64 d.a),.lit (.int .i64 d.b),.lit (.int .i64 d.c)]:=fun _=>rfl
 refine⟨fun i ks v hi hp=>?_,fun hall=>?_⟩
 ·obtain⟨x,hx,e⟩:=zIi hp;cases e;refine⟨_,_,hp,?_⟩;have hin:i<D1.length:=(jA4.1 hx).1;have hm:=hmet.snoc hin hi;have hle:=hm.le;have hle0:=hmet.le;rw[jA5,jAl]at hle;have hsel:=zEI (idf:=Dfn.id) (c:=cD1 Dfn.id D2 same) (met:=met) hx;have hsl:(zBv Dfn.id D1 (cD1 Dfn.id D2 same) met).length≤met.length:=jDj _ _;have hf:=zCo (i:=x.id) (enc:=zO) (idf:=Dfn.id) D2;generalize zBv Dfn.id D1 (cD1 Dfn.id D2 same) met=L at hsel hsl ⊢;simp only[zBz]at hf;cases hh:zAD Dfn.id D2 x.id with
  | none =>
   rw[hh]at hf;simp only[jCx]at hf;have hc:cD1 Dfn.id D2 same x=true:=by simp[cD1,hh]
   rw[if_pos hc]at hsel;simp[hkb,zO,hf];refine⟨⟨by simp[maxLen]; omega,by omega⟩,?_⟩;exact zU (met++[i]) hm (by simp; omega) (zR [0,1,2,3] 0 (by decide) (by simp) (by simp[hsel,jS]) (by simp[hsel]))
  | some y =>
   rw[hh]at hf;simp only[jBs]at hf;simp[hkb,zO,hf,hcal];refine zT (hs x y) (by simp[zO]) (by simp) ?_;cases hxy:same x y with
   | false =>
    have hc:cD1 Dfn.id D2 same x=true:=by simp[cD1,hh,hxy]
    rw[if_pos hc]at hsel;simp;refine⟨⟨by simp[maxLen]; omega,by omega⟩,?_⟩;exact zU (met++[i]) hm (by simp; omega) (zR [0,1,2,3] 0 (by decide) (by simp) (by simp[hsel,jS]) (by simp[hsel]))
   | true =>
    have hc:cD1 Dfn.id D2 same x=false:=by simp[cD1,hh,hxy]
    rw[if_neg (by simp[hc])]at hsel;simp;exact zU (met++[i]) hm (by simp; omega) (zR [0,1,2,3] 0 (by decide) (by simp) (by simp[hsel]) (by simp[hsel]))
 ·have hperm:=hmet.sel (idf:=Dfn.id) (c:=cD1 Dfn.id D2 same) hall;generalize zBv Dfn.id D1 (cD1 Dfn.id D2 same) met=L at hperm ⊢;have hL:L.length≤D1.length:=by rw[hperm.length_eq,jAa]; exact jBu _ _
  refine qW (S:=List Nat) (fun met=>[(0,.map 0),(1,.map 1),(7,.row 2 (L++zBv Dfn.id D2 (cD2 Dfn.id D1) met).length),(42,.ptr 3 0)])
   (fun met=>[.mp true 3 (zBI Dfn.id zO D1),.mp true 3 (zBI Dfn.id zO D2),.row false 29 3 (L++zBv Dfn.id D2 (cD2 Dfn.id D1) met).length (qE (L++zBv Dfn.id D2 (cD2 Dfn.id D1) met)),.it 1 D2.length met])
   (fun met=>Met D2.length met) (fun met=>D2.length-met.length) [] ⟨by simp,by simp⟩
   (zR [0,1,3,4] 0 (by decide) (by simp) (by simp[zBv]) (by simp[zBv])) ?_
  clear hmet hall met;intro met hmet;simp;refine⟨fun i ks v hi hp=>?_,fun hall=>?_⟩
  ·obtain⟨x,hx,e⟩:=zIi hp;cases e;refine⟨_,_,hp,?_⟩;have hin:i<D2.length:=(jA4.1 hx).1;have hm:=hmet.snoc hin hi;have hle:=hm.le;have hle0:=hmet.le;rw[jA5,jAl]at hle;have hsel:=zEI (idf:=Dfn.id) (c:=cD2 Dfn.id D1) (met:=met) hx;have hsl:(zBv Dfn.id D2 (cD2 Dfn.id D1) met).length≤met.length:=jDj _ _;have hf:=zCo (i:=x.id) (enc:=zO) (idf:=Dfn.id) D1;generalize zBv Dfn.id D2 (cD2 Dfn.id D1) met=M at hsel hsl ⊢;simp only[zBz]at hf;cases hh:zAD Dfn.id D1 x.id with
   | none =>
    rw[hh]at hf;simp only[jCx]at hf;have hc:cD2 Dfn.id D1 x=true:=by simp[cD2,hh]
    rw[if_pos hc]at hsel;simp[hkb,hf];refine⟨⟨by simp[maxLen]; omega,by omega⟩,?_⟩;exact zU (met++[i]) hm (by simp; omega) (zR [0,1,2,3] 0 (by decide) (by simp) (by simp[hsel,jS,jBe]) (by simp[hsel,jBe]))
   | some y =>
    rw[hh]at hf;simp only[jBs]at hf;have hc:cD2 Dfn.id D1 x=false:=by simp[cD2,hh]
    rw[if_neg (by simp[hc])]at hsel;simp[hkb,zO,hf];exact zU (met++[i]) hm (by simp; omega) (zR [0,1,2,3] 0 (by decide) (by simp) (by simp[hsel]) (by simp[hsel]))
  ·have hperm2:=hmet.sel (idf:=Dfn.id) (c:=cD2 Dfn.id D1) hall;generalize zBv Dfn.id D2 (cD2 Dfn.id D1) met=M at hperm2 ⊢;refine⟨L++M,hperm.append hperm2,?_⟩;exact zG [0,1,2] 0 (by decide) (by simp) (by simp) (by simp)
def qAA:K:=G [kMn 6] (G [kMn 7] (Z (G [M 15 0,⟨none,.mop (some 16) .rng [(kt 15)]⟩] (K.block 0 (K.loop (G [⟨none,.mop (some 17) .nxt [(kt 16)]⟩,kE 18 17 0] (Z (Y 18 ks (K.exit 0)) (K.block 1 (G [⟨none,.mop (some 19) .ent [(kt 16)]⟩,kE 20 19 0,kE 21 19 1,kZ 8 [ki,ki,ki],kZ 9 kz1,S 8 20 3,S 9 21 15] (G [M 23 1,J 24 8 3,⟨none,.mop (some 25) (.get 3 (.agg #[ki,ki,ki,ki,ki,ki,ki,ki,ki,ki,ki,ki,kl,kl,kl]) true) [(kt 23),(kt 24)]⟩,M 22 25,kE 26 22 0,kE 27 22 1,kZ 10 kz1,S 10 26 15,M 11 27] (G [M 28 11,kR 29 28,M 30 29,T 30 false (M 31 2),T 30 false (J 32 9 15),T 30 false (J 33 10 15),⟨some (30,false),.call (some 34) (kt 31) [(kt 32),(kt 33)]⟩,T 30 false (kR 35 34),kPt 36 30 35] (Y 36 (K.ops [M 37 7,J 38 8 3,kd 39 29 3 1 [ki,ki,ki] [(0,3,(kt 38))],kP 40 29 3 24 37 39,M 7 40]) ks)))))))))) (Z (G [M 41 1,⟨none,.mop (some 42) .rng [(kt 41)]⟩] (K.block 2 (K.loop (G [⟨none,.mop (some 43) .nxt [(kt 42)]⟩,kE 44 43 0] (Z (Y 44 ks (K.exit 2)) (K.block 3 (G [⟨none,.mop (some 45) .ent [(kt 42)]⟩,kE 46 45 0,kZ 12 [ki,ki,ki],S 12 46 3] (G [M 48 0,J 49 12 3,⟨none,.mop (some 50) (.get 3 (.agg #[ki,ki,ki,ki,ki,ki,ki,ki,ki,ki,ki,ki,kl,kl,kl]) true) [(kt 48),(kt 49)]⟩,M 47 50,kE 51 47 0,kE 52 47 1,kZ 13 kz1,S 13 51 15,M 14 52] (G [M 53 14,kR 54 53] (Y 54 (K.ops [M 55 7,J 56 12 3,kd 57 29 3 1 [ki,ki,ki] [(0,3,(kt 56))],kP 58 29 3 24 55 57,M 7 58]) ks)))))))))) (G [M 59 7,M 6 59] kr))))
theorem qIx:zL prog Tryz.f58.ntmps (Tryz.f58.body.getD .skip)=some qAA.erase:=by kernel_rfl
@[simp] theorem qLJ:zA prog 58=true:=by kernel_rfl
theorem zQW (g:FuncId)(hcal:zA prog g=true)(same:Exp→Exp→Bool)(hs:∀x y,Ret prog g [.agg (zF x),.agg (zF y)] [] (bl (same x y)) [])(D1 D2:List Exp)(hl1:D1.length≤1000000)(hl2:D2.length≤1000000) :
 yX prog 58 [.map 0,.map 1,.clo g [] []] [.mp true 3 (zBI Exp.id zF D1),.mp true 3 (zBI Exp.id zF D2)] fun o τ=>∃l:List Id,l.Perm (zM0 Exp.id same D1 D2)∧o=.ret (.row 2 l.length) ∧
  τ = [.mp true 3 (zBI Exp.id zF D1),.mp true 3 (zBI Exp.id zF D2),.row false 29 3 l.length (qE l)]:=by
 refine zJ7 Tryz.func58 rfl qIx (rs:=[.slot 6]) (by kernel_rfl) ?_;unfold qAA;simp;refine qW (S:=List Nat) (fun met=>[(0,.map 0),(1,.map 1),(2,.clo g [] []),(7,.row 3 (zBv Exp.id D1 (cD1 Exp.id D2 same) met).length),(16,.ptr 2 0)])
  (fun met=>[.mp true 3 (zBI Exp.id zF D1),.mp true 3 (zBI Exp.id zF D2),.it 0 D1.length met,.row false 29 3 (zBv Exp.id D1 (cD1 Exp.id D2 same) met).length (qE (zBv Exp.id D1 (cD1 Exp.id D2 same) met))])
  (fun met=>Met D1.length met) (fun met=>D1.length-met.length) [] ⟨by simp,by simp⟩
  ((yG (t:=7) (by simp) 29 3).trans (zR [0,1,2,3] 0 (by decide) (by simp) (by simp[zBv]) (by simp[zBv]))) ?_
 intro met hmet;simp;have hkb:∀d:Id,zLk (zBz d)=.agg [.lit (.int .i64 d.a),.lit (.int .i64 d.b),.lit (.int .i64 d.c)]:=fun _=>rfl
 refine⟨fun i ks v hi hp=>?_,fun hall=>?_⟩
 ·obtain⟨x,hx,e⟩:=zIi hp;cases e;refine⟨_,_,hp,?_⟩;have hin:i<D1.length:=(jA4.1 hx).1;have hm:=hmet.snoc hin hi;have hle:=hm.le;have hle0:=hmet.le;rw[jA5,jAl]at hle;have hsel:=zEI (idf:=Exp.id) (c:=cD1 Exp.id D2 same) (met:=met) hx;have hsl:(zBv Exp.id D1 (cD1 Exp.id D2 same) met).length≤met.length:=jDj _ _;have hf:=zCo (i:=x.id) (enc:=zF) (idf:=Exp.id) D2;generalize zBv Exp.id D1 (cD1 Exp.id D2 same) met=L at hsel hsl ⊢;simp only[zBz]at hf;cases hh:zAD Exp.id D2 x.id with
  | none =>
   rw[hh]at hf;simp only[jCx]at hf;have hc:cD1 Exp.id D2 same x=true:=by simp[cD1,hh]
   rw[if_pos hc]at hsel;simp[hkb,zF,hf];refine⟨⟨by simp[maxLen]; omega,by omega⟩,?_⟩;exact zU (met++[i]) hm (by simp; omega) (zR [0,1,2,3] 0 (by decide) (by simp) (by simp[hsel,jS]) (by simp[hsel]))
  | some y =>
   rw[hh]at hf;simp only[jBs]at hf;simp[hkb,zF,hf,hcal];refine zT (hs x y) (by simp[zF]) (by simp) ?_;cases hxy:same x y with
   | false =>
    have hc:cD1 Exp.id D2 same x=true:=by simp[cD1,hh,hxy]
    rw[if_pos hc]at hsel;simp;refine⟨⟨by simp[maxLen]; omega,by omega⟩,?_⟩;exact zU (met++[i]) hm (by simp; omega) (zR [0,1,2,3] 0 (by decide) (by simp) (by simp[hsel,jS]) (by simp[hsel]))
   | true =>
    have hc:cD1 Exp.id D2 same x=false:=by simp[cD1,hh,hxy]
    rw[if_neg (by simp[hc])]at hsel;simp;exact zU (met++[i]) hm (by simp; omega) (zR [0,1,2,3] 0 (by decide) (by simp) (by simp[hsel]) (by simp[hsel]))
 ·have hperm:=hmet.sel (idf:=Exp.id) (c:=cD1 Exp.id D2 same) hall;generalize zBv Exp.id D1 (cD1 Exp.id D2 same) met=L at hperm ⊢;have hL:L.length≤D1.length:=by rw[hperm.length_eq,jAa]; exact jBu _ _
  refine qW (S:=List Nat) (fun met=>[(0,.map 0),(1,.map 1),(7,.row 2 (L++zBv Exp.id D2 (cD2 Exp.id D1) met).length),(42,.ptr 3 0)])
   (fun met=>[.mp true 3 (zBI Exp.id zF D1),.mp true 3 (zBI Exp.id zF D2),.row false 29 3 (L++zBv Exp.id D2 (cD2 Exp.id D1) met).length (qE (L++zBv Exp.id D2 (cD2 Exp.id D1) met)),.it 1 D2.length met])
   (fun met=>Met D2.length met) (fun met=>D2.length-met.length) [] ⟨by simp,by simp⟩
   (zR [0,1,3,4] 0 (by decide) (by simp) (by simp[zBv]) (by simp[zBv])) ?_
  clear hmet hall met;intro met hmet;simp;refine⟨fun i ks v hi hp=>?_,fun hall=>?_⟩
  ·obtain⟨x,hx,e⟩:=zIi hp;cases e;refine⟨_,_,hp,?_⟩;have hin:i<D2.length:=(jA4.1 hx).1;have hm:=hmet.snoc hin hi;have hle:=hm.le;have hle0:=hmet.le;rw[jA5,jAl]at hle;have hsel:=zEI (idf:=Exp.id) (c:=cD2 Exp.id D1) (met:=met) hx;have hsl:(zBv Exp.id D2 (cD2 Exp.id D1) met).length≤met.length:=jDj _ _;have hf:=zCo (i:=x.id) (enc:=zF) (idf:=Exp.id) D1;generalize zBv Exp.id D2 (cD2 Exp.id D1) met=M at hsel hsl ⊢;simp only[zBz]at hf;cases hh:zAD Exp.id D1 x.id with
   | none =>
    rw[hh]at hf;simp only[jCx]at hf;have hc:cD2 Exp.id D1 x=true:=by simp[cD2,hh]
    rw[if_pos hc]at hsel;simp[hkb,hf];refine⟨⟨by simp[maxLen]; omega,by omega⟩,?_⟩;exact zU (met++[i]) hm (by simp; omega) (zR [0,1,2,3] 0 (by decide) (by simp) (by simp[hsel,jS,jBe]) (by simp[hsel,jBe]))
   | some y =>
    rw[hh]at hf;simp only[jBs]at hf;have hc:cD2 Exp.id D1 x=false:=by simp[cD2,hh]
    rw[if_neg (by simp[hc])]at hsel;simp[hkb,zF,hf];exact zU (met++[i]) hm (by simp; omega) (zR [0,1,2,3] 0 (by decide) (by simp) (by simp[hsel]) (by simp[hsel]))
  ·have hperm2:=hmet.sel (idf:=Exp.id) (c:=cD2 Exp.id D1) hall;generalize zBv Exp.id D2 (cD2 Exp.id D1) met=M at hperm2 ⊢;refine⟨L++M,hperm.append hperm2,?_⟩;exact zG [0,1,2] 0 (by decide) (by simp) (by simp) (by simp)
structure Hd where
 id:Id
 kind:Int
 slots:List Slt
 res:Typ
def Dfn.hd (d:Dfn):Hd:=⟨d.id,d.kind,d.slots,d.res⟩
abbrev jT:Typ:=.mk 0 Id.zero []
abbrev yC:Typ:=.mk 1 Id.zero []
abbrev jV (t:Typ):Typ:=.mk 2 Id.zero [t]
abbrev zBA (d:Id):Typ:=.mk 3 d []
inductive TyOk (hs:List Hd):Nat→Typ→Prop
 | int (r:Nat):TyOk hs r jT
 | bool (r:Nat):TyOk hs r yC
 | list (r:Nat) (t:Typ) (h:TyOk hs r t):TyOk hs (r+1) (jV t)
 | dfn (r k:Nat) (h:k<hs.length) (h1:∀(j:Nat) (hj:j<k),hs[j].id≠hs[k].id) (h2:hs[k].kind=0∨hs[k].kind=1∧0<hs[k].slots.length) (h3:hs[k].slots.length≤6)
  (h4:∀s∈hs[k].slots,TyOk hs r s.typ):TyOk hs (r+1) (zBA hs[k].id)
theorem TyOk.mono {hs:List Hd}{r r':Nat}{t:Typ}(h:TyOk hs r t)(hr:r≤r'):TyOk hs r' t:=by
 induction h generalizing r' with
 | int r=>exact .int _
 | bool r=>exact .bool _
 | list r t h ih =>
  obtain⟨q,rfl⟩:∃q,r'=q+1:=⟨r'-1,by omega⟩;exact .list _ _ (ih (by omega))
 | dfn r k h h1 h2 h3 h4 ih =>
  obtain⟨q,rfl⟩:∃q,r'=q+1:=⟨r'-1,by omega⟩;exact .dfn _ k h h1 h2 h3 fun s hs'=>ih s hs' (by omega)
def zCv (env:List Bnd)(x:Id)(n:Int):Option Typ:=(env.reverse.find? fun b=>decide (b.id=x)&&decide (b.n=n)).map (·.typ)
inductive WT (hs:List Hd)(own:Int):List Bnd→Exp→Typ→Prop
 | int (env i n) (h1 : -1099511627776≤n) (h2:n≤1099511627776):WT hs own env (.mk i 0 n Id.zero Typ.zero [] []) jT
 | bool (env i n) (h:n=0∨n=1):WT hs own env (.mk i 1 n Id.zero Typ.zero [] []) yC
 | var (env i n x t) (h:zCv env x n=some t):WT hs own env (.mk i 2 n x Typ.zero [] []) t
 | call (env i) (k:Nat) (h:k<hs.length) (ks) (ho:(k:Int)<own) (hk:hs[k].kind=2) (hl:ks.length=hs[k].slots.length) (hw:∀(j:Nat) (hj:j<ks.length),WT hs own env ks[j] (hs[k].slots[j]'(hl▸hj)).typ) :
  WT hs own env (.mk i 3 0 hs[k].id Typ.zero ks []) hs[k].res
 | arith (env i n a b) (h1:0≤n) (h2:n≤4) (ha:WT hs own env a jT) (hb:WT hs own env b jT):WT hs own env (.mk i 4 n Id.zero Typ.zero [a,b] []) jT
 | less (env i a b) (ha:WT hs own env a jT) (hb:WT hs own env b jT):WT hs own env (.mk i 4 5 Id.zero Typ.zero [a,b] []) yC
 | same (env i a b u) (ha:WT hs own env a u) (hb:WT hs own env b u):WT hs own env (.mk i 4 6 Id.zero Typ.zero [a,b] []) yC
 | andor (env i n a b) (h:n=7∨n=8) (ha:WT hs own env a yC) (hb:WT hs own env b yC):WT hs own env (.mk i 4 n Id.zero Typ.zero [a,b] []) yC
 | not (env i a) (ha:WT hs own env a yC):WT hs own env (.mk i 4 9 Id.zero Typ.zero [a] []) yC
 | join (env i a b t) (ha:WT hs own env a (jV t)) (hb:WT hs own env b (jV t)):WT hs own env (.mk i 4 10 Id.zero Typ.zero [a,b] []) (jV t)
 | len (env i a t) (ha:WT hs own env a (jV t)):WT hs own env (.mk i 4 11 Id.zero Typ.zero [a] []) jT
 | ite (env i a b c t) (ha:WT hs own env a yC) (hb:WT hs own env b t) (hc:WT hs own env c t):WT hs own env (.mk i 5 0 Id.zero Typ.zero [a,b,c] []) t
 | lets (env i a b u t ns) (hn:ns.length≤10) (ha:WT hs own env a u) (hb:WT hs own (env++[⟨i,0,u⟩]) b t):WT hs own env (.mk i 6 0 Id.zero Typ.zero [a,b] ns) t
 | record (env i) (k:Nat) (h:k<hs.length) (ks) (hk:hs[k].kind=0) (hl:ks.length=hs[k].slots.length) (hw:∀(j:Nat) (hj:j<ks.length),WT hs own env ks[j] (hs[k].slots[j]'(hl▸hj)).typ) :
  WT hs own env (.mk i 7 0 hs[k].id Typ.zero ks []) (zBA hs[k].id)
 | field (env i) (k:Nat) (h:k<hs.length) (j:Nat) (hj:j<hs[k].slots.length) (a) (hk:hs[k].kind=0) (ha:WT hs own env a (zBA hs[k].id)):WT hs own env (.mk i 8 j hs[k].id Typ.zero [a] []) hs[k].slots[j].typ
 | case (env i) (k:Nat) (h:k<hs.length) (j:Nat) (hj:j<hs[k].slots.length) (a) (hk:hs[k].kind=1) (ha:WT hs own env a hs[k].slots[j].typ):WT hs own env (.mk i 9 j hs[k].id Typ.zero [a] []) (zBA hs[k].id)
 | mtch (env i) (k:Nat) (h:k<hs.length) (a ks t ns) (hn:ns.length≤10) (hk:hs[k].kind=1) (hl:ks.length=hs[k].slots.length) (ha:WT hs own env a (zBA hs[k].id))
  (hw:∀(j:Nat) (hj:j<ks.length),WT hs own (env++[⟨i,j,(hs[k].slots[j]'(hl▸hj)).typ⟩]) ks[j] t):WT hs own env (.mk i 10 0 hs[k].id Typ.zero (a::ks) ns) t
 | list (env i t ks) (hw:∀(j:Nat) (hj:j<ks.length),WT hs own env ks[j] t):WT hs own env (.mk i 11 0 Id.zero t ks []) (jV t)
 | fold (env i l s b u t ns) (hn:ns.length≤10) (hl:WT hs own env l (jV u)) (hs':WT hs own env s t) (hb:WT hs own (env++[⟨i,0,u⟩]++[⟨i,1,t⟩]) b t):WT hs own env (.mk i 12 0 Id.zero Typ.zero [l,s,b] ns) t
mutual
def tmps:Exp→List Int
 | .mk i _ _ _ _ ks _=>jL ks++[i.c]
def jL:List Exp→List Int
 | []=>[]
 | e::l=>tmps e++jL l
end
mutual
def Exp.num0:Exp→Prop
 | .mk i _ _ _ _ ks _=>(i.a=0∧i.b=0)∧zPL ks
def zPL:List Exp→Prop
 | []=>True
 | e::l=>e.num0∧zPL l
end
theorem zJf:∀l:List Exp,zPL l↔∀e∈l,e.num0
 | []=>by simp[zPL]
 | e::l=>by simp[zPL,zJf l]
theorem zCB {c k n:Int}{r:Id}{t:Typ}{ks:List Exp}{ns:List ByteArray}(h:∀e∈ks,e.num0):(Exp.mk ⟨0,0,c⟩ k n r t ks ns).num0:=by simp only[Exp.num0,zJf,true_and]; exact h
theorem zGI {c k n:Int}{r:Id}{t:Typ}{ns:List ByteArray}:(Exp.mk ⟨0,0,c⟩ k n r t [] ns).num0:=zCB (by simp)
theorem zIo {es:List Exp}{n:Nat}(hn:es.length=n)(h:∀(j:Nat)(_:j<es.length),es[j].num0):∀e∈es,e.num0:=fun e he=>by obtain⟨j,hj,rfl⟩:=jAh he;exact h j hj
structure Seg (lo hi:Int)(l:List Int):Prop where
 nd:l.Nodup
 rng:∀x∈l,lo≤x∧x<hi
theorem Seg.append {a b c:Int}{l l':List Int}(h:Seg a b l)(h':Seg b c l')(hab:a≤b)(hbc:b≤c):Seg a c (l++l'):=by
 refine⟨jCy.2 ⟨h.nd,h'.nd,fun x hx y hy e=>?_⟩,fun x hx=>?_⟩
 ·have h1:=h.rng x hx;have h2:=h'.rng y hy;omega
 ·rcases jA8.1 hx with hx | hx
  ·have:=h.rng x hx; omega
  ·have:=h'.rng x hx; omega
theorem Seg.perm {a b:Int}{l l':List Int}(h:Seg a b l)(hp:l.Perm l'):Seg a b l':=⟨hp.nodup_iff.1 h.nd,fun x hx=>h.rng x (hp.mem_iff.2 hx)⟩
theorem Seg.one (a:Int):Seg a (a+1) [a]:=⟨by simp,fun x hx=>by simp at hx; omega⟩
theorem Seg.nil {a b:Int}:Seg a b []:=⟨by simp,fun x hx=>by simp at hx⟩
theorem Seg.mono {a b a' b':Int}{l:List Int}(h:Seg a b l)(h1:a'≤a)(h2:b≤b'):Seg a' b' l:=⟨h.nd,fun x hx=>by have:=h.rng x hx; omega⟩
structure Adv (m m':Mk)(c:Int):Prop where
 mods:m'.mods=m.mods
 defs:m'.defs=m.defs
 l:m'.l=m.l
 own:m'.own=m.own
 home:m'.home=m.home
 at1:m.at_≤m'.at_
 at2:m'.at_≤m.at_+c
 temp1:m.temp≤m'.temp
 temp2:m'.temp≤m.temp+c
 left1:m.left-c≤m'.left
 left2:m'.left≤m.left
 name1:m.name≤m'.name
 name2:m'.name≤m.name+c
theorem Adv.trans {m m1 m2:Mk}{c c':Int}(h:Adv m m1 c)(k:Adv m1 m2 c'):Adv m m2 (c+c'):=by obtain⟨h1,h2,h3,h4,h5,h6,h7,h8,h9,h10,h11,h12,h13⟩:=h;obtain⟨k1,k2,k3,k4,k5,k6,k7,k8,k9,k10,k11,k12,k13⟩:=k;exact⟨k1.trans h1,k2.trans h2,k3.trans h3,k4.trans h4,k5.trans h5,by omega,by omega,by omega,by omega,by omega,by omega,by omega,by omega⟩
theorem Adv.mono {m m1:Mk}{c c':Int}(h:Adv m m1 c)(hc:c≤c'):Adv m m1 c':=by obtain⟨h1,h2,h3,h4,h5,h6,h7,h8,h9,h10,h11,h12,h13⟩:=h;exact⟨h1,h2,h3,h4,h5,by omega,by omega,by omega,by omega,by omega,by omega,by omega,by omega⟩
structure Lim (m:Mk)(c:Int):Prop where
 at1:0≤m.at_
 at2:m.at_+c≤1000000000000000
 temp1:0≤m.temp
 temp2:m.temp+c≤1000000000000000
 left1 : -1000000000000000≤m.left-c
 left2:m.left≤1000000000000000
 name1:0≤m.name
 name2:m.name+c≤1000000000000000
theorem Lim.adv {m m1:Mk}{c c':Int}(h:Lim m (c+c'))(k:Adv m m1 c):Lim m1 c':=by obtain⟨h1,h2,h3,h4,h5,h6,h7,h8⟩:=h;obtain⟨k1,k2,k3,k4,k5,k6,k7,k8,k9,k10,k11,k12,k13⟩:=k;exact⟨by omega,by omega,by omega,by omega,by omega,by omega,by omega,by omega⟩
theorem Lim.mono {m:Mk}{c c':Int}(h:Lim m c)(hc:c'≤c):Lim m c':=by obtain⟨h1,h2,h3,h4,h5,h6,h7,h8⟩:=h;exact⟨by omega,by omega,by omega,by omega,by omega,by omega,by omega,by omega⟩
theorem zAd (m:Mk):Adv m {m with temp:=m.temp+1,left:=m.left-1} 1:=⟨rfl,rfl,rfl,rfl,rfl,by simp,by simp; omega,by simp; omega,by simp,by simp,by simp; omega,by simp,by simp; omega⟩
theorem zSk (m:Mk):Adv m {m with at_:=m.at_+1} 1:=⟨rfl,rfl,rfl,rfl,rfl,by simp; omega,by simp,by simp,by simp; omega,by simp; omega,by simp,by simp,by simp; omega⟩
theorem zHI (m:Mk):Adv m {m with name:=m.name+1} 1:=⟨rfl,rfl,rfl,rfl,rfl,by simp,by simp; omega,by simp,by simp; omega,by simp; omega,by simp,by simp; omega,by simp⟩
structure Cx (hs:List Hd)(R:Nat)(m:Mk):Prop where
 heads:m.defs.map Dfn.hd=hs
 len:hs.length≤100
 len0:0<hs.length
 mods:0<m.mods.length
 nums:∀x∈m.l,w64 x=x
 own:m.own≤1000
 typs:∀(k:Nat) (h:k<hs.length),hs[k].kind=0∨hs[k].kind=1→TyOk hs R (zBA hs[k].id)
 slots:∀(k:Nat) (h:k<hs.length),hs[k].slots.length≤6∧∀s∈hs[k].slots,TyOk hs R s.typ
theorem Cx.adv {hs:List Hd}{R:Nat}{m m':Mk}{c:Int}(h:Cx hs R m)(k:Adv m m' c):Cx hs R m':=by obtain⟨h1,h2,h3,h4,h5,h6,h7,h8⟩:=h;exact⟨by rw[k.defs]; exact h1,h2,h3,by rw[k.mods]; exact h4,by rw[k.l]; exact h5,by rw[k.own]; exact h6,h7,h8⟩
theorem Cx.dlen {hs:List Hd}{R:Nat}{m:Mk}(h:Cx hs R m):m.defs.length=hs.length:=by rw[←h.heads,jAa]
theorem Cx.get {hs:List Hd}{R:Nat}{m:Mk}(h:Cx hs R m){k:Nat}(hk:k<m.defs.length):hs[k]'(h.dlen▸hk)=m.defs[k].hd:=by obtain⟨rfl,_⟩:=h;simp
structure EnvOk (hs:List Hd)(R:Nat)(temp:Int)(env:List Bnd):Prop where
 typs:∀b∈env,TyOk hs R b.typ
 nd:env.Pairwise fun b c=>¬(b.id=c.id∧b.n=c.n)
 new:∀b∈env,b.id.b=0→b.id.c<temp
theorem EnvOk.mono {hs:List Hd}{R:Nat}{temp temp':Int}{env:List Bnd}(h:EnvOk hs R temp env)(ht:temp≤temp'):EnvOk hs R temp' env:=⟨h.typs,h.nd,fun b hb h0=>by have:=h.new b hb h0; omega⟩
theorem EnvOk.snoc {hs:List Hd}{R:Nat}{temp:Int}{env:List Bnd}(h:EnvOk hs R temp env)(c n:Int)(t:Typ)(ht:TyOk hs R t)(hc:∀b∈env,b.id=⟨0,0,c⟩→b.n≠n)(hct:c<temp):EnvOk hs R temp (env++[⟨⟨0,0,c⟩,n,t⟩]):=by
 refine⟨fun b hb=>?_,?_,fun b hb h0=>?_⟩
 ·rcases jA8.1 hb with hb | hb
  ·exact h.typs b hb
  ·rw[jAg.1 hb]; exact ht
 ·rw[jCg];refine⟨h.nd,by simp,fun b hb c' hc'=>?_⟩;rw[jAg.1 hc'];exact fun e=>hc b hb e.1 e.2
 ·rcases jA8.1 hb with hb | hb
  ·exact h.new b hb h0
  ·rw[jAg.1 hb]; exact hct
theorem zNs {env:List Bnd}(h:env.Pairwise fun b c=>¬(b.id=c.id∧b.n=c.n)){b:Bnd}(hb:b∈env):zCv env b.id b.n=some b.typ:=by
 induction env using zBK with
 | nil=>simp at hb
 | snoc l y ih =>
  rw[jCg]at h;unfold zCv;rw[List.reverse_append];simp only[List.reverse_cons,List.reverse_nil,jC6,jCu,jBz];rcases jA8.1 hb with hb' | hb'
  ·have hne:=h.2.2 b hb' y (by simp);have:(decide (y.id=b.id)&&decide (y.n=b.n))=false:=by
    rw[jCl];by_cases e:y.id=b.id
    ·right;rw[decide_eq_false_iff_not];exact fun e'=>hne ⟨e.symm,e'.symm⟩
    ·left; simpa using e
   rw[this];exact ih h.1 hb'
  ·rw[jAg.1 hb'];simp
def zHC (m:Mk)(k:Nat):Bool:=match m.defs[k]? with
 | some d=>decide ((k:Int)<m.own)&&(decide (d.mod=m.home)||decide (d.mod=(m.mods.headD ⟨Id.zero,⟨#[]⟩,[],[]⟩).id))
 | none=>false
theorem qAk {m:Mk}{k:Nat}(h:zHC m k=true):(k:Int)<m.own:=by
 unfold zHC at h;split at h
 ·rw[jA6]at h; exact of_decide_eq_true h.1
 ·cases h
theorem zMi (m:Mk)(k:Nat)(hk:k<m.defs.length)(hm:0<m.mods.length):Ret prog 119 [.ptr 0 0,int k] (mkS m) (bl (zHC m k)) (mkS m):=by
 refine zK Tryz.func119 rfl qOO (rs:=[.slot 4]) (by kernel_rfl) ?_;unfold qHS;have hd:=yI hk;have hb31:k*31+31≤m.defs.length*31:=by omega
 have hv:zHC m k=(decide ((k:Int)<m.own)&&(decide (m.defs[k].mod=m.home)||decide (m.defs[k].mod=(m.mods.headD ⟨Id.zero,⟨#[]⟩,[],[]⟩).id))):=by unfold zHC; rw[jA2 hk]
 cases hmm:m.mods with
 | nil=>rw[hmm]at hm; simp at hm
 | cons m0 M =>
  rw[hmm]at hv;simp only[jD9]at hv;simp[mkS,mkB,hk,hd,hb31,zO,hmm,zCs,zEv];by_cases h1:(k:Int)<m.own
  ·by_cases h2:m.defs[k].mod=m.home
   ·simp[h1,h2];exact zG [0,1] 0 (by decide) (by simp) (by simp[hmm,zCs,zEv]) (by simp[hv,h1,h2])
   ·have e2:zCx m.defs[k].mod.a m.defs[k].mod.b m.defs[k].mod.c m.home.a m.home.b m.home.c=false:=by rw[zBu]; exact decide_eq_false h2
    simp[h1,e2];exact zG [0,1] 0 (by decide) (by simp) (by simp[hmm,zCs,zEv]) (by simp[hv,h1,h2]<;>congr)
  ·simp[h1];exact zG [0,1] 0 (by decide) (by simp) (by simp[hmm,zCs,zEv]) (by simp[hv,h1])
def zJQ (m:Mk)(kind:Int)(k:Nat):Bool:=(match m.defs[k]? with
 | some d=>decide (d.kind=kind)
 | none=>false)&&zHC m k
def ofV (m:Mk)(kind:Int)(x:Nat):Int:=match (List.range m.defs.length).find? fun i=>zJQ m kind ((x+i) % m.defs.length)with
 | some i=>(((x+i) % m.defs.length:Nat):Int)
 | none=>-1
theorem zUv {n i:Nat}{p:Nat→Bool}(h:i<n)(hp:p i=true)(hn:∀j<i,p j=false):(List.range n).find? p=some i:=by rw[List.find?_range_eq_some];exact⟨hp,by simpa using h,fun j hj=>by simpa using hn j hj⟩
theorem zR7 {n:Nat}{p:Nat→Bool}(hn:∀j<n,p j=false):(List.range n).find? p=none:=by
 rw[jD8];intro x hx
 simpa using hn x (by simpa using hx)
theorem zZJ (m:Mk)(kind:Int)(x:Nat):ofV m kind x = -1∨∃k:Nat,∃h:k<m.defs.length,ofV m kind x=k∧m.defs[k].kind=kind∧zHC m k=true:=by
 unfold ofV;split
 ·rename_i i hi;right;have hp:=jDa hi;have hlt:0<m.defs.length:=by have:=jC0.1 (jDb hi);omega
  have hk:=Nat.mod_lt (x+i) hlt;refine⟨_,hk,rfl,?_⟩;unfold zJQ at hp;rw[jA2 hk]at hp
  simpa using hp
 ·left; rfl
theorem zXu (m:Mk)(kind:Int)(x:Nat)(hx:x≤1000000)(hd:0<m.defs.length)(hd':m.defs.length≤100)(hm:0<m.mods.length):Ret prog 118 [.ptr 0 0,int kind,int x] (mkS m) (int (ofV m kind x)) (mkS m):=by
 refine zK Tryz.func118 rfl qOr (rs:=[.slot 6]) (by kernel_rfl) ?_;unfold qHv;simp[mkS,mkB];refine qW (S:=Nat) (fun i=>[(0,.ptr 0 0),(1,int kind),(2,int x),(7,int m.defs.length),(8,int i)]) (fun _=>mkS m) (fun i=>i≤m.defs.length∧∀j<i,zJQ m kind ((x+j) % m.defs.length)=false) (fun i=>m.defs.length-i) 0 (by simp)
  (zR [0,1] 0 (by decide) (by simp) (by simp[mkS,mkB]) (by simp)) ?_
 rintro i ⟨hi,hn⟩;by_cases h:i<m.defs.length
 ·have hk:=Nat.mod_lt (x+i) hd;have w1:=qF ((x:Int)+i) (by omega);have w2:=zAk i (by omega);have e1:Int.tmod ((x:Int)+i) (m.defs.length:Int)=(((x+i) % m.defs.length:Nat):Int):=by rw[tmN (by omega)]; simp
  have hnil:m.defs≠[]:=fun e=>by rw[e]at hd; simp at hd
  have hne:¬((m.defs.length:Int)=0):=by omega
  generalize hkk:(x+i) % m.defs.length=k at hk e1;have hdr:=yI hk;have hdr3:List.drop (k*31+3) (zX m.defs)=(zO m.defs[k]++zX (m.defs.drop (k+1))).drop 3:=by rw[←jAs,hdr]
  have hb4:k*31+3+1≤m.defs.length*31:=by omega
  have hg:zJQ m kind k=(decide (m.defs[k].kind=kind)&&zHC m k):=by unfold zJQ; rw[jA2 hk]
  simp[mkS,mkB,h,w1,e1,hne,hk,hdr3,hb4,zO,hnil];have hround:zJQ m kind k=false→∀j<i+1,zJQ m kind ((x+j) % m.defs.length)=false:=fun hg' j hj=>by
   by_cases e:j=i
   ·subst e; rw[hkk]; exact hg'
   ·exact hn j (by omega)
  have hhit:zJQ m kind k=true→ofV m kind x=k:=fun hg'=>by unfold ofV;rw[zUv h (by rw[hkk]; exact hg') hn];simp only[hkk]
  by_cases h1:m.defs[k].kind=kind
  ·simp[h1];refine zN (zMi m k hk hm) [0,1] (by decide) (by simp[mkS,mkB]) (by simp) ?_;cases h2:zHC m k
   ·simp[mkS,mkB];exact zU (i+1) ⟨h,hround (by rw[hg,h2]; simp)⟩ (by omega) (zR [0,1] 0 (by decide) (by simp) (by simp[mkS,mkB]) (by simp[w2]))
   ·simp[mkS,mkB];exact zG [0,1] 0 (by decide) (by simp) (by simp) (by simp[hhit (by rw[hg,h1,h2]; simp)])
  ·simp[h1];exact zU (i+1) ⟨h,hround (by rw[hg]; simp[h1])⟩ (by omega) (zR [0,1] 0 (by decide) (by simp) (by simp[mkS,mkB]) (by simp[w2]))
 ·have:i=m.defs.length:=by omega
  subst this;have hr:ofV m kind x = -1:=by unfold ofV; rw[zR7 hn]
  simp[mkS,mkB];exact zG [0,1] 0 (by decide) (by simp) (by simp) (by simp[hr])
def jO (l:List Dfn)(id:Id):Option Dfn:=l.find? fun d=>decide (d.id=id)
theorem zHw (d:Dfn)(l:List Dfn)(id:Id):jO (d::l) id=if d.id=id then some d else jO l id:=by unfold jO;rw[jBz];by_cases h:d.id=id<;>simp[h]
theorem zQU (l:List Dfn)(id:Id):zGT l id=((jO l id).getD .zero,(jO l id).isSome):=by unfold zGT jO;cases l.find? fun d=>decide (d.id=id)<;>rfl
def qAS:K:=G [kO 2 0,kMb 3 false] (G [D 4 2 0,J 5 4 3,J 6 1 3,⟨none,.eqs (some 7) false [.i,.i,.i] (kt 5) (kt 6)⟩,M 3 7] kr)
theorem qIJ:zL prog Tryz.f90.ntmps (Tryz.f90.body.getD .skip)=some qAS.erase:=by kernel_rfl
@[simp] theorem qMh:zA prog 90=true:=by kernel_rfl
def qAU:K:=G [kMi 4 0] (Z (G [M 6 0,kN 7 6,kMi 8 0] (K.block 0 (K.loop (G [kB 9 8 7 .lss] (Z (Y 9 ks (K.exit 0)) (Z (K.block 1 (G [M 10 8,M 5 10] (G [M 11 1,M 12 0,M 13 5,kX 14 12 13 31,J 15 14 31,⟨none,.call (some 16) (kt 11) [(kt 15)]⟩] (Y 16 (G [M 17 5,M 4 17] kr) ks)))) (K.ops [kBi 18 8 1 .add,M 8 18]))))))) (G [⟨none,.mov (some 4) (kc (-1))⟩] kr))
theorem qIL:zL prog Tryz.f89.ntmps (Tryz.f89.body.getD .skip)=some qAU.erase:=by kernel_rfl
@[simp] theorem qMj:zA prog 89=true:=by kernel_rfl
def qAR:K:=G [kO 2 0,kO 3 1,kZ 4 kz0,kMb 5 false] (G [D 7 2 1,L 8 7 1,⟨none,.clo (some 9) 90 [] [(kt 3)]⟩,kC 10 89 [(kt 8),(kt 9)],M 6 10] (Z (G [M 11 6,kBi 12 11 0 .lss] (Y 12 (G [kb 13 kz0 [],S 4 13 31,kMb 5 false] kr) ks)) (G [D 14 2 1,L 15 14 1,M 16 6,kX 17 15 16 31,J 18 17 31,S 4 18 31,kMb 5 true] kr)))
theorem qII:zL prog Tryz.f42.ntmps (Tryz.f42.body.getD .skip)=some qAR.erase:=by kernel_rfl
@[simp] theorem qMg:zA prog 42=true:=by kernel_rfl
def qCq:K:=G [kO 3 0,kO 4 1,kMb 6 false] (Z (G [M 9 2,kBi 10 9 24 .gtr] (Y 10 (G [kMb 6 false] kr) ks)) (Z (G [D 11 4 0,L 12 11 1,kQi 13 12 2 false] (Y 13 (Z (K.dops [(0,0,D 14 4 1),(1,0,J 15 14 3),(2,0,kb 16 [ki,ki,ki] []),(3,0,⟨none,.eqs (some 17) false [.i,.i,.i] (kt 15) (kt 16)⟩),(4,0,M 18 17),(5,0,T 18 true (D 19 4 4)),(6,0,T 18 true (L 20 19 1)),(7,0,T 18 true (kN 21 20)),(8,0,T 18 true (kQi 22 21 1 false)),(9,0,kPf 23 18 22),(10,0,M 24 23),(11,0,T 24 true (J 25 3 2)),(12,0,T 24 true (D 26 4 4)),(13,0,T 24 true (L 27 26 1)),(14,0,T 24 true (kXi 28 27 5 0)),(15,0,T 24 true (J 29 28 5)),(16,0,T 24 true (M 30 2)),(17,0,T 24 true (kBi 31 30 1 .add)),(18,0,T 24 true (kC 32 174 [(kt 25),(kt 29),(kt 31)])),(19,0,kPf 33 24 32),(20,0,M 6 33)]) kr) ks)) (Z (G [D 34 4 4,L 35 34 1,kN 36 35,kBi 37 36 0 .gtr] (Y 37 (G [kMb 6 false] kr) ks)) (Z (G [D 38 4 0,L 39 38 1,kQi 40 39 3 false] (Y 40 (G [J 42 3 2,D 43 4 1,J 44 43 3,kC 45 26 [(kt 42),(kt 44)],M 41 45,kE 46 41 0,kE 47 41 1,kZ 7 kz0,S 7 46 31,M 8 47] (G [M 48 8,M 49 48,T 49 true (D 50 7 3),T 49 true (L 51 50 1),T 49 true (kQi 52 51 0 false),T 49 true (M 53 52),T 53 false (D 54 7 3),T 53 false (L 55 54 1),T 53 false (kQi 56 55 1 false),T 49 true (kPt 57 53 56),kPf 58 49 57,M 6 58] kr)) ks)) (G [D 59 4 1,J 60 59 3,kb 61 [ki,ki,ki] [],⟨none,.eqs (some 62) false [.i,.i,.i] (kt 60) (kt 61)⟩,M 63 62,T 63 true (D 64 4 0),T 63 true (L 65 64 1),T 63 true (kQi 66 65 0 false),T 63 true (M 67 66),T 67 false (D 68 4 0),T 67 false (L 69 68 1),
 T 67 false (kQi 70 69 1 false),T 63 true (kPt 71 67 70),kPf 72 63 71,M 6 72] kr)))))
theorem qID:zL prog Tryz.f174.ntmps (Tryz.f174.body.getD .skip)=some qCq.erase:=by kernel_rfl
@[simp] theorem qPJ:zA prog 174=true:=by kernel_rfl
def qH7:K:=G [kO 2 0,kO 3 1,kMb 4 false] (G [J 5 2 2,J 6 3 5,kC 7 174 [(kt 5),(kt 6),(kc 1)],M 4 7] kr)
theorem qO3:zL prog Tryz.f157.ntmps (Tryz.f157.body.getD .skip)=some qH7.erase:=by kernel_rfl
@[simp] theorem qPK:zA prog 157=true:=by kernel_rfl
def qHR:K:=G [kO 2 0,kO 3 1,kMb 4 false] (Z (G [kMi 5 1] (K.block 0 (K.loop (Z (G [M 8 5,kBi 9 8 24 .leq] (Y 9 ks (K.exit 0))) (Z (K.block 1 (G [D 12 3 0,L 13 12 1] (K.block 2 (Z (G [kQi 15 13 0 false,M 14 15] (Y 14 ks (K.ops [kQi 16 13 1 false,M 14 16]))) (Y 14 (G [D 17 3 1,J 18 17 3,kb 19 [ki,ki,ki] [],⟨none,.eqs (some 20) false [.i,.i,.i] (kt 18) (kt 19)⟩,M 21 20,T 21 true (D 22 3 4),T 21 true (L 23 22 1),T 21 true (kN 24 23),T 21 true (kQi 25 24 0 false),kPf 26 21 25,M 4 26] kr) (G [kQi 28 13 3 false,M 27 28] (Y 27 (G [J 30 2 2,D 31 3 1,J 32 31 3,kC 33 42 [(kt 30),(kt 32)],M 29 33,kE 34 29 0,kE 35 29 1,kZ 6 kz0,S 6 34 31,M 7 35] (G [M 36 7,M 37 36,T 37 true (D 38 6 3),T 37 true (L 39 38 1),T 37 true (kQi 40 39 0 false),T 37 true (M 41 40),T 41 false (D 42 6 3),T 41 false (L 43 42 1),T 41 false (kQi 44 43 1 false),T 37 true (kPt 45 41 44),kPf 46 37 45,M 47 46,T 47 true (D 48 3 4),T 47 true (L 49 48 1),T 47 true (kN 50 49),T 47 true (kQi 51 50 0 false),kPf 52 47 51,M 4 52] kr)) (G [kQi 54 13 2 false,M 53 54] (Y 53 (Z (G [D 55 3 1,J 56 55 3,kb 57 [ki,ki,ki] [],⟨none,.eqs (some 58) true [.i,.i,.i] (kt 56) (kt 57)⟩,M 59 58,T 59 false (D 60 3 4),T 59 false (L 61 60 1),T 59 false (kN 62 61),T 59 false (kQi 63 62 1 true),kPt 64 59 63] (Y 64 (G [kMb 4 false] kr) ks)) (K.ops [D 65 3 4,L 66 65 1,kXi 67 66 5 0,J 68 67 5,S 3 68 5])) (G [kMb 4 false] kr)))))))))) (K.ops [M 10 5,kBi 11 10 1 .add,M 5 11])))))) (G [kMb 4 false] kr))
theorem qON:zL prog Tryz.f127.ntmps (Tryz.f127.body.getD .skip)=some qHR.erase:=by kernel_rfl
@[simp] theorem qQr:zA prog 127=true:=by kernel_rfl
theorem zYJ (d:Dfn)(id:Id):Ret prog 90 [.agg (zO d),.ptr 0 0] [.box (jF id)] (bl (decide (d.id=id))) [.box (jF id)]:=by refine zK Tryz.func90 rfl qIJ (rs:=[.slot 3]) (by kernel_rfl) ?_;unfold qAS;simp[zO,jF,zZe];exact zG [0] 0 (by simp) (by simp) (by simp) (by simp)
def zM6:List Dfn→Id→Nat→Int
 | [],_,_=>-1
 | d::l,id,n=>if d.id=id then n else zM6 l id (n+1)
theorem zNl:∀(l:List Dfn) (id:Id) (n:Nat),(jO l id=none∧zM6 l id n = -1)∨∃(i:Nat) (h:i<l.length),zM6 l id n=(n+i:Nat)∧jO l id=some l[i]
 | [],id,n=>.inl ⟨rfl,rfl⟩
 | d::l,id,n=>by
  simp only[zHw,zM6];by_cases hd:d.id=id
  ·exact .inr ⟨0,by simp,by simp[hd],by simp[hd]⟩
  ·simp only[hd,if_false];rcases zNl l id (n+1)with h | ⟨i,hi,h1,h2⟩
   ·exact .inl h
   ·exact .inr ⟨i+1,by simpa using hi,by rw[h1]; congr 1; omega,by simpa using h2⟩
theorem zOg (l:List Dfn)(id:Id):Ret prog 89 [.sl l.length (zX l),.clo 90 [] [.ptr 0 0]] [.box (jF id)] (int (zM6 l id 0)) [.box (jF id)]:=by
 refine zK Tryz.func89 rfl qIL (rs:=[.slot 4]) (by kernel_rfl) ?_;unfold qAU;simp;intro hl;refine qW (S:=Nat) (fun i=>[(0,.sl l.length (zX l)),(1,.clo 90 [] [.ptr 0 0]),(6,.sl l.length (zX l)),(7,int l.length),(8,int i)]) (fun s=>[.box (jF id)]) (fun i=>i≤l.length∧zM6 l id 0=zM6 (l.drop i) id i) (fun i=>l.length-i) 0 (by simp)
  (zR [0] 0 (by simp) (by simp) (by simp[jF]) (by simp)) ?_
 rintro i ⟨hi,ho⟩;by_cases h:i<l.length
 ·have hd:l.drop i=l[i]::l.drop (i+1):=jB8 h;simp[h,yI h];refine zN (zYJ l[i] id) [0] (by simp) (by simp) (by simp) ?_;simp;refine yF (fun h'=>?_) (fun h'=>?_)<;>simp at h'
  ·simp;exact zG [0] 0 (by simp) (by simp) (by simp) (by rw[ho,hd]; simp[zM6,h'])
  ·simp;exact zU (i+1) ⟨h,by rw[ho,hd]; simp[zM6,h']⟩ (by omega) (zR [0] 0 (by simp) (by simp) (by simp) (by simp[qA h hl]))
 ·have hi:i=l.length:=by omega
  subst hi;simp;exact zG [0] 0 (by simp) (by simp) (by simp) (by rw[ho]; simp[zM6])
def zBf (p:Prg)(id:Id):A:=.tup [.agg (zO ((jO p.defs id).getD .zero)),bl (jO p.defs id).isSome]
theorem zEU (p:Prg)(id:Id):Ret prog 42 [.agg (zS p),.agg (jF id)] [] (zBf p id) []:=by
 refine zK Tryz.func42 rfl qII (rs:=[.cell 4 31 true,.slot 5]) (by kernel_rfl) ?_;unfold qAR;simp[zS];refine zN (zOg p.defs id) [1] (by simp) (by simp) (by simp) ?_;simp;rcases zNl p.defs id 0 with ⟨h1,h2⟩ | ⟨i,hi,h1,h2⟩
 ·simp[h2];exact zC 0 (by simp[zBf,h1,zO,Dfn.zero,Id.zero,Typ.zero,Exp.zero])
 ·have hn:¬((i:Int)<0):=by omega
  simp[h1,hn,hi,yI hi];exact zC 0 (by simp[zBf,h2])
theorem zJp (p:Prg)(hL:p.defs.length≤1000000)(id:Id):Ret prog 26 [.agg (zS p),.agg (jF id)] [] (zBf p id) []:=by have h:=zZV p.mods p.defs id hL;rw[zQU]at h;exact h
def zDM:Option Dfn→Bool
 | some d=>decide (d.kind=0∨d.kind=1)
 | none=>false
def yD (p:Prg):Nat→Typ→Bool
 | 0,_=>false
 | n+1,t=>if t.k=2 then (match t.kids with
  | [x]=>decide (t.id=Id.zero)&&yD p n x
  | _=>false) else if t.kids≠[] then false else if t.k=3 then zDM (jO p.defs t.id) else decide (t.id=Id.zero)&&decide (t.k=0∨t.k=1)
def validT (p:Prg)(t:Typ):Bool:=yD p 24 t
theorem zIs (p:Prg)(hL:p.defs.length≤1000000):∀(n:Nat) (d:Int) (t:Typ),d=25-(n:Int)→n≤24→Ret prog 174 [.agg (zS p),.agg (zB t),int d] [] (bl (yD p n t)) []
 | 0,d,t,hd,_=>by refine zK Tryz.func174 rfl qID (rs:=[.slot 6]) (by kernel_rfl) ?_;unfold qCq;subst hd;simp[zB,zS];exact zC 0 (by simp[yD])
 | n+1,d,t,hd,hn=>by
  refine zK Tryz.func174 rfl qID (rs:=[.slot 6]) (by kernel_rfl) ?_;unfold qCq;have h24:¬(24<d):=by omega
  cases t with
  | mk k id kids =>
  by_cases hk:k=2
  ·subst hk;by_cases hid:id=Id.zero
   ·subst hid;rcases kids with _ | ⟨x,_ | ⟨y,l⟩⟩
    ·simp[zB,zS,h24];exact zC 0 (by simp[yD])
    ·have hw:=qF (d+1) (by omega);simp[zB,zS,h24];refine qK (zIs p hL n (d+1) x (by omega) (by omega)) (by simp[zS,zB,hw,qN]) (by simp) ?_;simp;exact zC 0 (by simp[yD,Id.zero])
    ·have h1:¬((l.length:Int)+1+1=1):=by omega
     simp[zB,zS,h24,h1];exact zC 0 (by simp[yD])
   ·have hv:yD p (n+1) (.mk 2 id kids)=false:=by simp only[yD,Typ.k_mk,Typ.id_mk,Typ.kids_mk,if_true];split<;>simp[hid]
    simp[zB,zS,h24,hid,hv];exact zC 0 (by simp)
  ·rcases kids with _ | ⟨x,l⟩
   ·by_cases h3:k=3
    ·subst h3;simp[zB,zS,h24];refine zT (zJp p hL id) (by simp[zS,jF]) (by simp[zBf]) ?_;cases hf:jO p.defs id with
     | none =>
      simp[zBf,hf,zO,Dfn.zero,Id.zero,Typ.zero,Exp.zero];exact zC 0 (by simp[yD,hf,zDM])
     | some f =>
      by_cases h0:f.kind=0
      ·simp[zBf,hf,zO,h0];exact zC 0 (by simp[yD,hf,zDM,h0])
      ·simp[zBf,hf,zO,h0];exact zC 0 (by simp[yD,hf,zDM,h0])
    ·by_cases hid:id=Id.zero
     ·subst hid;by_cases h0:k=0
      ·subst h0;simp[zB,zS,h24];exact zC 0 (by simp[yD,Id.zero])
      ·simp[zB,zS,h24,hk,h3,h0];exact zC 0 (by simp[yD,Id.zero,hk,h3,h0])
     ·simp[zB,zS,h24,hk,h3,hid];have hv:yD p (n+1) (.mk k id [])=false:=by simp only[yD,Typ.k_mk,Typ.id_mk,Typ.kids_mk,hk,h3,if_false];simp[hid]
      exact zC 0 (by rw[hv]; simp)
   ·have hl:(0:Int)<(l.length:Int)+1:=by omega
    simp[zB,zS,h24,hk,hl];have hv:yD p (n+1) (.mk k id (x::l))=false:=by simp only[yD,Typ.k_mk,Typ.id_mk,Typ.kids_mk,hk,if_false];rfl
    exact fun _=>zC 0 (by rw[hv]; simp)
theorem zPZ (p:Prg)(hL:p.defs.length≤1000000)(t:Typ):Ret prog 157 [.agg (zS p),.agg (zB t)] [] (bl (validT p t)) []:=by refine zK Tryz.func157 rfl qO3 (rs:=[.slot 4]) (by kernel_rfl) ?_;unfold qH7;simp[zS,zB];refine zT (zIs p hL 24 1 t (by omega) (by omega)) (by simp[zS,zB]) (by simp) ?_;simp;exact zC 0 (by simp[validT])
theorem zXS (p:Prg)(t0:Typ):Ret prog 127 [.agg (zS p),.agg (zB t0)] [] (bl (validT p t0)) []:=by
 refine zK Tryz.func127 rfl qON (rs:=[.slot 4]) (by kernel_rfl) ?_;unfold qHR;simp[zS];refine qW (S:=Nat×Typ) (fun s=>[(2,.ptr 0 0),(3,.ptr 1 0),(5,int s.1)]) (fun s=>[.box (zS p),.box (zB s.2)]) (fun s=>1≤s.1∧s.1≤25∧validT p t0=yD p (25-s.1) s.2) (fun s=>25-s.1) (1,t0) (by simp[validT])
  (zR [0,1] 0 (by simp) (by simp) (by simp[zS]) (by simp)) ?_
 rintro⟨i,t⟩ ⟨hi0,hi,ho⟩;simp only at hi0 hi ho;by_cases h:i≤24
 ·have hi24:(i:Int)≤24:=by omega
  obtain⟨n,hn⟩:∃n,25-i=n+1:=⟨24-i,by omega⟩;have hn':25-(i+1)=n:=by omega
  have hw:=zAk i (by omega);rw[hn]at ho;cases t with
  | mk k id kids =>
  by_cases h2:k=2
  ·subst h2;by_cases hid:id=Id.zero
   ·subst hid;rcases kids with _ | ⟨x,_ | ⟨y,l⟩⟩
    ·simp[zB,zS,hi24];exact zC 0 (by rw[ho]; simp[yD])
    ·simp[zB,zS,hi24];intro _;refine zU (i+1,x) ⟨by simp,by simp only; omega,?_⟩ (by simp only; omega) (zR [0,1] 0 (by simp) (by simp) (by simp[zS,zB,qN]) (by simp[hw]));simp only;rw[ho,hn'];simp[yD]
    ·have h1:¬((l.length:Int)+1+1=1):=by omega
     simp[zB,zS,hi24,h1];exact fun _=>zC 0 (by rw[ho]; simp[yD])
   ·have hv:yD p (n+1) (.mk 2 id kids)=false:=by simp only[yD,Typ.k_mk,Typ.id_mk,Typ.kids_mk,if_true];split<;>simp[hid]
    simp[zB,zS,hi24,hid];exact zC 0 (by rw[ho,hv]; simp)
  by_cases h3:k=3
  ·subst h3;simp[zB,zS,hi24];refine zT (zEU p id) (by simp[zS,jF]) (by simp[zBf]) ?_;cases hf:jO p.defs id with
   | none =>
    have hv:yD p (n+1) (.mk 3 id kids)=false:=by cases kids<;>simp[yD,hf,zDM]
    simp[zBf,hf,zO,Dfn.zero,Id.zero,Typ.zero,Exp.zero];exact zC 0 (by rw[ho,hv]; simp)
   | some f =>
    by_cases h0:f.kind=0∨f.kind=1
    ·have hv:yD p (n+1) (.mk 3 id kids)=decide (kids.length=0):=by cases kids<;>simp[yD,hf,zDM,h0]
     rcases h0 with h0 | h0
     ·simp[zBf,hf,zO,h0];exact fun _=>zC 0 (by rw[ho,hv]; simp)
     ·simp[zBf,hf,zO,h0];exact fun _=>zC 0 (by rw[ho,hv]; simp)
    ·have hv:yD p (n+1) (.mk 3 id kids)=false:=by cases kids<;>simp[yD,hf,zDM,h0]
     have g0:f.kind≠0:=fun e=>h0 (.inl e)
     have g1:f.kind≠1:=fun e=>h0 (.inr e)
     simp[zBf,hf,zO,g0,g1];exact zC 0 (by rw[ho,hv]; simp)
  ·by_cases h0:k=0∨k=1
   ·by_cases hid:id=Id.zero
    ·subst hid;have hv:yD p (n+1) (.mk k Id.zero kids)=decide (kids.length=0):=by cases kids<;>simp[yD,h2,h3,h0]
     rcases h0 with rfl | rfl
     ·simp[zB,zS,hi24];exact fun _=>zC 0 (by rw[ho,hv]; simp)
     ·simp[zB,zS,hi24];exact fun _=>zC 0 (by rw[ho,hv]; simp)
    ·have hv:yD p (n+1) (.mk k id kids)=false:=by simp only[yD,Typ.k_mk,Typ.id_mk,Typ.kids_mk,h2,h3,if_false];simp[hid]
     rcases h0 with rfl | rfl
     ·simp[zB,zS,hi24,hid];exact zC 0 (by rw[ho,hv]; simp)
     ·simp[zB,zS,hi24,hid];exact zC 0 (by rw[ho,hv]; simp)
   ·have hv:yD p (n+1) (.mk k id kids)=false:=by simp only[yD,Typ.k_mk,Typ.id_mk,Typ.kids_mk,h2,h3,if_false];simp[h0]
    have g0:k≠0:=fun e=>h0 (.inl e)
    have g1:k≠1:=fun e=>h0 (.inr e)
    simp[zB,zS,hi24,g0,g1,h2,h3];exact zC 0 (by rw[ho,hv]; simp)
 ·have:i=25:=by omega
  subst this;simp;exact zC 0 (by rw[ho]; simp[yD])
def qGW:K:=G [kO 2 0,kO 3 1,kMn 4] (Z (K.wk (K.dops [(0,1,J 7 2 2),(2,1,J 9 3 2),(1,7,kC 8 55 [(kt 7)]),(3,7,kC 10 55 [(kt 9)]),(4,302,⟨none,.alr (some 5) 2 [(.map none),(.map none)]⟩),(5,303,⟨none,.alr (some 6) 3 [(.map none),(.map none)]⟩),(6,0,S 5 8 2),(7,0,S 6 10 2)])) (Z (K.dops [(0,1,D 11 5 0),(1,1,L 12 11 1),(2,1,D 13 6 0),(3,1,L 14 13 1),(5,1,D 16 5 1),(6,1,L 17 16 1),(7,1,D 18 6 1),(8,1,L 19 18 1),(4,8,kC 15 56 [(kt 12),(kt 14),(.func 57)]),(9,8,kC 20 58 [(kt 17),(kt 19),(.func 59)]),(10,0,kP 21 29 3 24 15 20),(11,4,kC 22 48 [(kt 21)]),(12,0,M 4 22)]) kr))
def qQ8:Nat→Option (List (Nat×Nat)):=fun r=>match r with | 1=>some [(0,1),(2,1),(1,7),(3,7),(4,302),(5,303),(6,0),(7,0)] | 2=>some [(0,1),(1,1),(2,1),(3,1),(5,1),(6,1),(7,1),(8,1),(4,8),(9,8),(10,0),(11,4),(12,0)] | _=>none
theorem qNT:qD prog Tryz.f21.ntmps qQ8 (Tryz.f21.body.getD .skip)=some qGW.erase:=by kernel_rfl
@[simp] theorem qOR:zA prog 21=true:=by kernel_rfl
@[simp] theorem qLj {f:Nat}{o:KOp}{env:Env}(h1:6<f)(h2:f<1000):zBi f o env=True:=by
 unfold zBi;split
 ·omega
 ·omega
 ·rw[if_neg (by omega),if_neg (by omega),if_neg (by omega)]
@[simp] theorem qG1 {P:Program}{Qd:Value→St→Prop}{f d l:Nat}{zs:List Value}{K':Env→St→Prop}{env:Env} {σ : St}:jP P Qd f K' (.alr (some d) l zs) env σ = wpO P zAR K' (.alr (some d) l zs) env σ:=by simp[jP,KOp.lite,KOp.keeps]
@[simp] theorem qN7 {P:Program}{d l:Nat}{zs:List Value}{Qp:Value→Env→St→Prop}{K':Env→St→Prop}{env:Env} {σ : St}:wpO P Qp K' (.alr (some d) l zs) env σ = (match σ[l]? with
 | some .rsv=>K' (env.put (some d) (.ptr l 0)) (σ.set l (.box (zs.map jJ)))
 | _=>False):=rfl
theorem zQS {P:Program} {σ : St}{d:Option Nat}{env:Env}{K:Env→St→Prop}{f:FuncId}{l n:Nat}{e:TypeId}{sz:Nat}{cs:List A}{r:A}(hσ : σ[l]?=some (.row false e sz n cs))(h:Ret P f [.sl n cs] [] r [])(ha:zBC [] [.sl n cs] [.sl n cs])
 (hq:K (env.put d (ren [] σ.length r)) (σ.set l (.row true e sz n cs))):zGx P σ d K f [.row l n] env:=by
 refine⟨_,_,zTy hσ (zAF h [] (by simp) trivial ha ⟨rfl,rfl⟩),?_⟩
 simpa using hq
def zFB (p q:List Dfn):List Id:=zCz (zM0 Dfn.id zE2 (zEx p) (zEx q)++zM0 Exp.id zCV (zE1 p) (zE1 q))
theorem zU1 {l l':List Id}(h:l.Perm l'):zCz l=zCz l':=(zIw l).unique (zIw l') fun x=>by rw[zDR,zDR,h.mem_iff]
theorem zKH (p q:Prg)(h1:(zEx p.defs).length≤100000)(h2:(zEx q.defs).length≤100000)(h3:(zE1 p.defs).length≤300000)(h4:(zE1 q.defs).length≤300000) :
 Ret prog 21 [.agg (zS p),.agg (zS q)] [] (.sl (zFB p.defs q.defs).length (qE (zFB p.defs q.defs))) []:=by
 refine zI Tryz.func21 rfl qNT (rs:=[.slot 4]) (by kernel_rfl) ?_;unfold qGW;simp;refine⟨_,_,zAj 2,?_⟩;simp[zS];refine zSv (zSQ p) (by simp) (by simp[zS]) ?_;simp;refine zSv (zSQ q) (by simp) (by simp[zS]) ?_;simp;refine zWc (zQV 57 (by kernel_rfl) zE2 zRG (zEx p.defs) (zEx q.defs) (by omega) (by omega)) [4,6] (by simp) (by simp) (by simp) (fun v τ h=>by obtain⟨l,_,h,_⟩:=h; cases h) fun r τ h=>?_
 obtain⟨l1,hl1,hr,rfl⟩:=h;cases hr;refine⟨by simp; exact zAl.append _ [_],?_⟩;simp;refine zWc (zQW 59 (by kernel_rfl) zCV zQj (zE1 p.defs) (zE1 q.defs) (by omega) (by omega)) [5,7] (by simp) (by simp) (by simp) (fun v τ h=>by obtain⟨l,_,h,_⟩:=h; cases h) fun r τ h=>?_
 obtain⟨l2,hl2,hr,rfl⟩:=h;cases hr;refine⟨by simp; exact zAl.append _ [_],?_⟩;simp;have e1:=hl1.length_eq;have e2:=hl2.length_eq;have k1:(zM0 Dfn.id zE2 (zEx p.defs) (zEx q.defs)).length≤200000:=by have:=jBu (cD1 Dfn.id (zEx q.defs) zE2) (zEx p.defs);have:=jBu (cD2 Dfn.id (zEx p.defs)) (zEx q.defs);simp only[zM0,jA5,jAa]; omega
 have k2:(zM0 Exp.id zCV (zE1 p.defs) (zE1 q.defs)).length≤600000:=by have:=jBu (cD1 Exp.id (zE1 q.defs) zCV) (zE1 p.defs);have:=jBu (cD2 Exp.id (zE1 p.defs)) (zE1 q.defs);simp only[zM0,jA5,jAa]; omega
 refine⟨⟨by simp[maxLen]; omega,by omega⟩,?_⟩;have hs:=zJu (l1++l2) (by rw[jA5]; omega);rw[zU1 (hl1.append hl2),jA5,jS]at hs;refine zQS rfl hs (by simp) ?_;simp;exact zC 0 (by simp[zFB])
def zQB:K:=G [kO 6 1,kZ 10 kz1] (Z (G [D 23 6 0,L 24 23 1,kQi 25 24 0 false] (Y 25 (G [M 26 3,kBi 27 26 9 .rem,kBi 28 27 2 .sub,M 11 28] (Z (G [M 29 3,kBi 30 29 29 .rem,kQi 31 30 3 false] (Y 31 (K.ops [M 32 3,kBi 33 32 2 .rem,⟨none,.bin (some 34) .sub (kc 1099511627776) (kt 33)⟩,M 11 34]) ks)) (G [M 35 0,M 36 11,kC 37 80 [(kt 35),(kc 0),(kt 36),(.const kl)],S 10 37 15] kr))) ks)) (Z (G [D 38 6 0,L 39 38 1,kQi 40 39 1 false] (Y 40 (G [M 41 0,M 42 3,kBi 43 42 2 .rem,kC 44 80 [(kt 41),(kc 1),(kt 43),(.const kl)],S 10 44 15] kr) ks)) (Z (G [D 45 6 0,L 46 45 1,kQi 47 46 2 false] (Y 47 (G [kMn 12] (Z (G [kMi 13 0] (K.block 0 (K.loop (Z (G [M 48 13,M 49 3,kBi 50 49 3 .rem,kB 51 48 50 .lss,M 52 51,T 52 true (M 53 4),T 52 true (kBi 54 53 0 .geq),kPf 55 52 54,M 56 55,T 56 true (M 57 0),T 56 true (kU 58 57),T 56 true (D 59 58 5),T 56 true (L 60 59 1),T 56 true (kBi 61 60 0 .gtr),kPf 62 56 61] (Y 62 ks (K.exit 0))) (Z (K.block 1 (K.ops [M 65 12,M 66 0,D 67 6 4,L 68 67 1,kXi 69 68 5 0,J 70 69 5,M 71 2,M 72 4,kBi 73 72 1 .sub,kC 74 34 [(kt 66),(kt 70),(kt 71),(kt 73)],kd 75 37 15 1 kz1 [(0,15,(kt 74))],kP 76 37 15 168 65 75,M 12 76])) (K.ops [M 63 13,kBi 64 63 1 .add,M 13 64])))))) (Z (K.wk (K.ops [M 77 0,M 78 12,kC 79 80 [(kt 77),(kc 11),(kc 0),(kt 78)],kZ 14 kz1,S 14 79 15])) (G [D 80 6 4,L 81 80 1,kXi 82 81 5 0,J 83 82 5,D 84 14 8,S 84 83 5] (G [J 85 14 15,S 10 85 15] kr))))) ks)) (Z (K.wk (K.dops [(0,0,M 87 0),(1,0,kU 88 87),(2,1,D 89 88 0),(3,1,J 90 89 2),(4,1,D 91 6 1),(5,1,
 J 92 91 3),(6,7,kC 93 26 [(kt 90),(kt 92)]),(7,0,M 86 93),(8,0,kE 94 86 0),(9,0,kE 95 86 1),(10,304,⟨none,.alr (some 15) 4 kz0⟩),(11,0,S 15 94 31),(12,0,M 16 95)])) (Z (G [D 96 15 3,L 97 96 1,kQi 98 97 1 false] (Y 98 (G [M 99 3,D 100 15 8,L 101 100 1,kN 102 101,kB 103 99 102 .rem,M 17 103] (Z (G [M 104 4,kBi 105 104 0 .lss] (Y 105 (K.ops [kMi 17 0]) ks)) (G [M 106 0,D 107 15 8,L 108 107 1,M 109 17,kX 110 108 109 11,D 111 110 4,J 112 111 5,M 113 2,M 114 4,kBi 115 114 1 .sub,kC 116 34 [(kt 106),(kt 112),(kt 113),(kt 115)],kZ 18 kz1,S 18 116 15] (G [M 117 0,M 118 17,J 119 18 15,kd 120 37 15 1 kz1 [(0,15,(kt 119))],kC 121 80 [(kt 117),(kc 9),(kt 118),(kt 120)],kZ 19 kz1,S 19 121 15] (G [D 122 15 0,J 123 122 3,D 124 19 5,S 124 123 3] (G [J 125 19 15,S 10 125 15] kr)))))) ks)) (G [kMn 20] (Z (G [kMi 21 0] (K.block 2 (K.loop (Z (G [M 126 21,D 127 15 8,L 128 127 1,kN 129 128,kB 130 126 129 .lss] (Y 130 ks (K.exit 2))) (Z (K.block 3 (K.ops [M 133 20,M 134 0,D 135 15 8,L 136 135 1,M 137 21,kX 138 136 137 11,D 139 138 4,J 140 139 5,M 141 2,M 142 4,kBi 143 142 1 .sub,kC 144 34 [(kt 134),(kt 140),(kt 141),(kt 143)],kd 145 37 15 1 kz1 [(0,15,(kt 144))],kP 146 37 15 168 133 145,M 20 146])) (K.ops [M 131 21,kBi 132 131 1 .add,M 21 132])))))) (Z (K.wk (K.ops [M 147 0,M 148 20,kC 149 80 [(kt 147),(kc 7),(kc 0),(kt 148)],kZ 22 kz1,S 22 149 15])) (G [D 150 15 0,J 151 150 3,D 152 22 5,S 152 151 3] (G [J 153 22 15,S 10 153 15] kr))))))))))
def qQE:Nat→Option (List (Nat×Nat)):=fun r=>match r with | 17=>some [(0,0),(1,0),(2,1),(3,1),(4,1),(5,1),(6,7),(7,0),(8,0),(9,0),(10,304),(11,0),(12,0)] | _=>none
theorem zTt:qD prog Tryz.f79.ntmps qQE (Tryz.f79.body.getD .skip)=some zQB.erase:=by kernel_rfl
@[simp] theorem qPt:zA prog 79=true:=by kernel_rfl
abbrev zAg:FuncId:=34
@[simp] theorem qLL:zA prog 34=true:=by kernel_rfl
def zAP (hs:List Hd)(own:Int)(f:FuncId)(m:Mk)(args:List A)(env:List Bnd)(t:Typ)(c:Int):Prop :=
 ∃(e:Exp) (m':Mk),Ret prog f args (mkS m) (.agg (zF e)) (mkS m')∧Adv m m' c∧WT hs own env e t∧Seg m.temp m'.temp (tmps e)∧e.num0
def zB1 (hs:List Hd)(R:Nat)(c depth:Int)(Q:Nat→Prop)(len:Nat):Prop :=
 ∀(m:Mk) (r:Nat) (t:Typ) (env:List Bnd),Cx hs R m→Lim m c→TyOk hs r t→Q r→EnvOk hs R m.temp env→0<env.length→env.length≤len →
  zAP hs m.own zAg m [.ptr 0 0,.agg (zB t),.sl env.length (zQ env),int depth] env t c
theorem Adv.zero (m:Mk):Adv m m 0:=⟨rfl,rfl,rfl,rfl,rfl,by omega,by omega,by omega,by omega,by omega,by omega,by omega,by omega⟩
theorem zDT (e:Exp):∀es:List Exp,jL (es++[e])=jL es++tmps e
 | []=>by simp[jL]
 | x::es=>by simp[jL,zDT e es]
theorem zSB {hs:List Hd}{R:Nat}{c depth:Int}{Q:Nat→Prop}{len:Nat}(hk:zB1 hs R c depth Q len)(hc:0≤c)(env:List Bnd)(h1:0<env.length)(h2:env.length≤len) :
 ∀(ts:List Typ) (m:Mk),Cx hs R m→Lim m (ts.length*c)→(∀t∈ts,∃r,TyOk hs r t∧Q r)→EnvOk hs R m.temp env →
  ∃(es:List Exp) (ms:Nat→Mk),es.length=ts.length∧ms 0=m∧(∀j≤ts.length,Adv m (ms j) (j*c))∧Seg m.temp (ms ts.length).temp (jL es) ∧
   ∀(j:Nat) (hj:j<es.length) (hj':j<ts.length),Ret prog zAg [.ptr 0 0,.agg (zB ts[j]),.sl env.length (zQ env),int depth] (mkS (ms j)) (.agg (zF es[j])) (mkS (ms (j+1)))∧WT hs m.own env es[j] ts[j]∧es[j].num0:=by
 intro ts;induction ts using zBK with
 | nil =>
  intro m hx hl ht he;refine⟨[],fun _=>m,rfl,rfl,fun j hj=>?_,Seg.nil,fun j hj=>by simp at hj⟩;have:j=0:=by simpa using hj
  subst this;exact(Adv.zero m).mono (by simp)
 | snoc ts t ih =>
  intro m hx hl ht he;have e1:((ts++[t]).length:Int)*c=ts.length*c+c:=by rw[jA5,jAl,jDk,Int.add_mul]; simp
  rw[e1]at hl;have hz:0≤(ts.length:Int)*c:=Int.mul_nonneg (by omega) hc;obtain⟨es,ms,q1,q2,q3,q4,q5⟩:=ih m hx (hl.mono (by omega)) (fun t' ht'=>ht t' (by simp[ht'])) he;have a1:=q3 ts.length (jA _);obtain⟨r,hr,hQ⟩:=ht t (by simp);obtain⟨e,m',g1,g2,g3,g4,g5⟩:=hk (ms ts.length) r t env (hx.adv a1) (Lim.adv (c:=ts.length*c) (c':=c) hl a1) hr hQ (he.mono a1.temp1) h1 h2;refine⟨es++[e],fun j=>if j≤ts.length then ms j else m',by simp[q1],by simp[q2],fun j hj=>?_,?_,fun j hj hj'=>?_⟩
  ·by_cases hle:j≤ts.length
   ·simp only[hle,if_true]; exact q3 j hle
   ·have:j=ts.length+1:=by simp at hj; omega
    subst this;simp only[show ¬(ts.length+1≤ts.length) by omega,if_false];have:=a1.trans g2;rw[show (((ts.length+1:Nat):Int))*c=ts.length*c+c by rw[jDk,Int.add_mul]; simp];exact this
  ·rw[zDT];simp only[jA5,jAl,show ¬(ts.length+1≤ts.length) by omega,if_false];exact q4.append g4 a1.temp1 g2.temp1
  ·simp only[jA5,jAl]at hj hj';by_cases hlt:j<ts.length
   ·have hjes:j<es.length:=by omega
    rw[jCm hjes,jCm hlt];simp only[show j≤ts.length by omega,if_true,show j+1≤ts.length by omega];exact q5 j hjes hlt
   ·have:j=ts.length:=by omega
    subst this;rw[jCc (by omega),jCc (by omega)];simp only[jA,if_true,show ¬(ts.length+1≤ts.length) by omega,if_false,jBx,q1,jDc];rw[a1.own]at g3;exact⟨g1,g3,g5⟩
theorem zWU {hs:List Hd}{R:Nat}{c depth:Int}{Q:Nat→Prop}{len:Nat}(hk:zB1 hs R c depth Q len)(hc:0≤c)(env:List Bnd)(h1:0<env.length)(h2:env.length≤len)(t:Typ){r:Nat}(hr:TyOk hs r t)(hQ:Q r)
 (m:Mk)(hx:Cx hs R m)(he:EnvOk hs R m.temp env):∀(k:Nat),Lim m (k*c) →
  ∃(es:List Exp) (ms:Nat→Mk),es.length≤k∧ms 0=m∧(∀j≤es.length,Adv m (ms j) (j*c))∧Seg m.temp (ms es.length).temp (jL es)∧(∀j<es.length,0<(ms j).left)∧(es.length=k∨(ms es.length).left≤0) ∧
   ∀(j:Nat) (hj:j<es.length),Ret prog zAg [.ptr 0 0,.agg (zB t),.sl env.length (zQ env),int depth] (mkS (ms j)) (.agg (zF es[j])) (mkS (ms (j+1)))∧WT hs m.own env es[j] t∧es[j].num0:=by
 intro k;induction k with
 | zero =>
  intro hl;refine⟨[],fun _=>m,jA _,rfl,fun j hj=>?_,Seg.nil,fun j hj=>by simp at hj,.inl rfl,fun j hj=>by simp at hj⟩;have:j=0:=by simpa using hj
  subst this;exact(Adv.zero m).mono (by simp)
 | succ k ih =>
  intro hl;have e1:(((k+1:Nat):Int))*c=k*c+c:=by rw[jDk,Int.add_mul]; simp
  rw[e1]at hl;obtain⟨es,ms,q0,q2,q3,q4,q6,q7,q5⟩:=ih (hl.mono (by omega));by_cases hdone:es.length=k∧0<(ms es.length).left
  ·obtain⟨hek,hleft⟩:=hdone;have a1:=q3 es.length (jA _);rw[hek]at a1;obtain⟨e,m',g1,g2,g3,g4,g5⟩:=hk (ms k) r t env (hx.adv a1) (Lim.adv (c:=k*c) (c':=c) hl a1) hr hQ (he.mono a1.temp1) h1 h2;refine⟨es++[e],fun j=>if j≤k then ms j else m',by simp[hek],by simp[q2],fun j hj=>?_,?_,fun j hj=>?_,.inl (by simp[hek]),fun j hj=>?_⟩
   ·simp only[jA5,jAl,hek]at hj;by_cases hle:j≤k
    ·simp only[hle,if_true]; exact q3 j (by omega)
    ·have:j=k+1:=by omega
     subst this;simp only[show ¬(k+1≤k) by omega,if_false];rw[e1];exact a1.trans g2
   ·rw[zDT];rw[hek]at q4;simp only[jA5,jAl,hek,show ¬(k+1≤k) by omega,if_false];exact q4.append g4 a1.temp1 g2.temp1
   ·simp only[jA5,jAl,hek]at hj;simp only[show j≤k by omega,if_true];by_cases e:j=k
    ·subst e; rw[hek]at hleft; exact hleft
    ·exact q6 j (by omega)
   ·simp only[jA5,jAl,hek]at hj;by_cases hlt:j<k
    ·have hjes:j<es.length:=by omega
     rw[jCm hjes];simp only[show j≤k by omega,if_true,show j+1≤k by omega];exact q5 j hjes
    ·have:j=k:=by omega
     subst this;rw[jCc (by omega)];simp only[jA,if_true,show ¬(j+1≤j) by omega,if_false,jBx,hek,jDc];rw[a1.own]at g3;exact⟨g1,g3,g5⟩
  ·refine⟨es,ms,by omega,q2,q3,q4,q6,.inr ?_,q5⟩;rcases q7 with q7 | q7
   ·by_cases h:0<(ms es.length).left
    ·exact(hdone ⟨q7,h⟩).elim
    ·omega
   ·exact q7
end Go.Proofs.YthglhccibdlccaaGreatDoor

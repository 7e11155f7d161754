/-
  The law's node: the node of an expression with an ID, and the ID above it.
  The reference's evaluator: nodes.
  The nodes of a program's bodies, with what is above them; each ID is that of one node.
  The reference's Call.
  What a run asks grows along the program: each node that comes in is a root or below one, and calls bring in their definitions.
  The reference tracer's Call returns what the program's does.
  The law TraceCalls, walked.
  The arguments that the reference makes fit.
-/
import Derived.Test.YthglhccibdlccaaGreatDoorX44
import Derived.Test.YthglhccibdlccaaGreatDoorX47
import Derived.Test.YthglhccibdlccaaGreatDoorX45
import Derived.Test.YthglhccibdlccaaGreatDoorX30
set_option linter.unusedVariables false
set_option linter.unusedSimpArgs false
namespace Go.Proofs.YthglhccibdlccaaGreatDoor
open Go.Abs
mutual
def zGi (x:Id):Exp→Id→Option (Exp×Id)
 | .mk i k n r t ks ns,u=>if i=x then some (.mk i k n r t ks ns,u) else zIG x ks i
def zIG (x:Id):List Exp→Id→Option (Exp×Id)
 | [],_=>none
 | e::l,u=>(zGi x e u).or (zIG x l u)
end
theorem zWR (x:Id)(e:Exp)(u:Id):zGi x e u=if e.id=x then some (e,u) else zIG x e.kids e.id:=by
 cases e with
 | mk i k n r t ks ns=>rw[zGi]; rfl
theorem zRK (x:Id){l:List Exp}{i:Nat}(h:i<l.length)(u:Id):zIG x (l.drop i) u=(zGi x l[i] u).or (zIG x (l.drop (i+1)) u):=by rw[List.drop_eq_getElem_cons h,zIG]
def zGn:Option (Exp×Id)→A
 | some r=>.tup [.agg (zF r.1),.agg (qF r.2),bl true]
 | none=>.tup [.agg (zF .zero),.agg (qF Id.zero),bl false]
abbrev ndF:FuncId:=24
def zYs:K:=(Z (K.dops [(0,0,J 17 3 15),(1,2002,J 18 4 3),(2,1002,S 6 17 15),(3,0,S 7 18 3),(4,0,kMb 8 true)]) kr)
def zYt:K:=(Z (K.dops [(0,0,J 40 10 15),(1,2002,J 41 11 3),(2,1002,S 6 40 15),(3,0,S 7 41 3),(4,0,kMb 8 true)]) kr)
def zYu:K:=(Z (K.dops [(0,1,D 27 3 13),(1,1,L 28 27 1),(2,0,M 29 9),(3,1,kX 30 28 29 15),(4,1,J 31 30 15),(5,1,D 32 3 0),(6,1,J 33 32 3),(7,1,J 34 5 3),(8,1,kC 35 24 [(kt 31),(kt 33),(kt 34)]),(9,0,M 26 35),(10,0,kE 36 26 0),(11,0,kE 37 26 1),(12,0,kE 38 26 2),(13,305,⟨none,.alr (some 10) 5 kz1⟩),(14,306,⟨none,.alr (some 11) 6 [ki,ki,ki]⟩),(15,0,S 10 36 15),(16,0,S 11 37 3),(17,0,M 12 38)]) (G [M 39 12] (Y 39 (K.wk zYt) ks)))
def qEF:K:=G [kO 3 0,kO 4 1,kO 5 2,kZ 6 kz1,kZ 7 [ki,ki,ki],kMb 8 false] (Z (G [D 13 3 0,J 14 13 3,J 15 5 3,⟨none,.eqs (some 16) false [.i,.i,.i] (kt 14) (kt 15)⟩] (Y 16 (K.wk zYs) ks)) (Z (G [kMi 9 0] (K.block 0 (K.loop (Z (G [M 19 9,D 20 3 13,L 21 20 1,kN 22 21,kB 23 19 22 .lss] (Y 23 ks (K.exit 0))) (Z (K.block 1 (K.wk zYu)) (K.ops [M 24 9,kBi 25 24 1 .add,M 9 25])))))) (G [kb 42 kz1 [],kb 43 [ki,ki,ki] [],S 6 42 15,S 7 43 3,kMb 8 false] kr)))
def qNy:Nat→Option (List (Nat×Nat)):=fun r=>match r with | 2=>some [(0,0),(1,2002),(2,1002),(3,0),(4,0)] | 6=>some [(0,1),(1,1),(2,0),(3,1),(4,1),(5,1),(6,1),(7,1),(8,1),(9,0),(10,0),(11,0),(12,0),(13,305),(14,306),(15,0),(16,0),(17,0)] | 8=>some [(0,0),(1,2002),(2,1002),(3,0),(4,0)] | _=>none
theorem qLl:qC Tryz.prog Tryz.f24.ntmps qNy (Tryz.f24.body.getD .skip)=some qEF.erase:=by kernel_rfl
@[simp] theorem qMg:zA Tryz.prog 24=true:=by kernel_rfl
set_option maxHeartbeats 2000000 in
set_option maxRecDepth 100000 in
theorem zSs (x:Id)(e:Exp)(u:Id)(hks:e.kids.length≤1000000)(ih:∀k∈e.kids,∀u,Ret Tryz.prog ndF [.agg (zF k),.agg (qF u),.agg (qF x)] [] (zGn (zGi x k u)) []) :
 Ret Tryz.prog ndF [.agg (zF e),.agg (qF u),.agg (qF x)] [] (zGn (zGi x e u)) []:=by
 refine zH Tryz.func24 rfl qLl (rs:=[.cell 6 15 true,.cell 7 3 true,.slot 8]) (by kernel_rfl) ?_;unfold qEF;rw[zWR];by_cases h:e.id=x
 ·rw[if_pos h];simp[zF,qF,h];refine⟨qR [(3,.ptr 2 0),(4,.ptr 3 0),(6,.ptr 0 0),(7,.ptr 1 0)],[.box (zF Exp.zero),.box (qF Id.zero),.box (zF e),.box (qF u)],zR [3,4,0,1] 0 (by decide) (by simp) (by simp[zF,qF,h,Exp.zero,Id.zero,Typ.zero]) (by simp),?_⟩;unfold zYs;simp[zF,qF,h,Exp.zero,Id.zero,Typ.zero];exact⟨(zM6 (by omega) (by omega)).2 (by simp[zD2]),zC 0 (by simp[zGn,zF,qF,h])⟩
 rw[if_neg h];simp[zF,qF,h];refine qY (S:=Nat) (fun i=>[(3,.ptr 0 0),(4,.ptr 1 0),(5,.ptr 2 0),(6,.ptr 3 0),(7,.ptr 4 0),(8,bl false),(9,int i)])
  (fun _=>[.box (zF e),.box (qF u),.box (qF x),.box (zF Exp.zero),.box (qF Id.zero)]) (fun i=>i≤e.kids.length∧zIG x e.kids e.id=zIG x (e.kids.drop i) e.id) (fun i=>e.kids.length-i) 0 ⟨by omega,rfl⟩
  (zR [0,1,2,3,4] 0 (by decide) (by simp) (by simp[zF,qF,Exp.zero,Id.zero,Typ.zero]) (by simp)) ?_
 rintro i ⟨hi,hf⟩;have hwi:IntKind.i64.wrap ((i:Int)+1)=(i:Int)+1:=IntWalk.i64_in _ (by omega);by_cases hil:i<e.kids.length
 ·have hd:=yQ hil;rw[zRK x hil]at hf;have hr:=ih _ (List.getElem_mem hil) e.id;generalize e.kids[i]=y at hf hd hr;simp[zF,hil];intro hl;refine⟨_,_,yN 2,?_⟩;unfold zYu;simp[zF,qF,hil,hd];cases hfy:zGi x y e.id with
  | some r =>
   rw[hfy]at hr hf;rw[hf];refine zAr hr (by simp[zF,qF]) (by simp[zGn,zF,qF]) ?_;simp[zGn,zF,qF];refine⟨qR [(10,.ptr 2 0),(11,.ptr 3 0),(6,.ptr 0 0),(7,.ptr 1 0)],[.box (zF Exp.zero),.box (qF Id.zero),.box (zF r.1),.box (qF r.2)],zR [3,4,5,6] 0 (by decide) (by simp) (by simp[zF,qF,Exp.zero,Id.zero,Typ.zero]) (by simp),?_⟩;unfold zYt;simp[zF,qF,Exp.zero,Id.zero,Typ.zero];exact⟨(zM6 (by omega) (by omega)).2 (by simp[zD2]),zC 0 (by simp[zGn,zF,qF])⟩
  | none =>
   rw[hfy]at hr hf;refine zAr hr (by simp[zF,qF]) (by simp[zGn,zF,qF]) ?_;simp[zGn,zF,qF];exact zT (i+1) ⟨hil,hf⟩ (by omega) (zR [0,1,2,3,4] 0 (by decide) (by simp) (by simp[zF,qF]) (by simp[hwi]))
 ·have hie:i=e.kids.length:=by omega
  subst hie;rw[hf,List.drop_length,zIG];simp[zF]
  intros
  exact zC 0 (by simp[zGn,zF,qF,Exp.zero,Id.zero,Typ.zero])
mutual
theorem zJA (x:Id):∀(e:Exp) (u:Id),e.few→Ret Tryz.prog ndF [.agg (zF e),.agg (qF u),.agg (qF x)] [] (zGn (zGi x e u)) []
 | .mk i k n r t ks ns,u,h=>by simp only[Exp.few,zNj]at h;exact zSs x _ u h.2.1 fun y hy v=>zI4 x ks y hy v (h.2.2 y hy)
theorem zI4 (x:Id):∀(l:List Exp),∀e∈l,∀u,e.few→Ret Tryz.prog ndF [.agg (zF e),.agg (qF u),.agg (qF x)] [] (zGn (zGi x e u)) []
 | [],e,he=>by simp at he
 | y::l,e,he=>by
  rcases List.mem_cons.1 he with h | h
  ·rw[h]; exact zJA x y
  ·exact zI4 x l e h
end
section
variable {p:Prg}{F:Int}{c:Nat}{m:Int}{ev:Evl}{e:Exp}{V:List EVar}{s:XS}
@[simp] theorem qMO:zA Tryz.prog 137=true:=by kernel_rfl
end
mutual
def zEI:Exp→Id→List (Exp×Id)
 | .mk i k n r t ks ns,u=>(.mk i k n r t ks ns,u)::zGo ks i
def zGo:List Exp→Id→List (Exp×Id)
 | [],_=>[]
 | e::l,u=>zEI e u++zGo l u
end
theorem zX6 (e:Exp)(u:Id):zEI e u=(e,u)::zGo e.kids e.id:=by
 cases e with
 | mk i k n r t ks ns=>rw[zEI]; rfl
theorem zHX (e:Exp)(u:Id):(e,u)∈zEI e u:=by rw[zX6]; simp
theorem zOd {k:Exp}{u:Id}:∀{l:List Exp},k∈l→(k,u)∈zGo l u
 | [],h=>by simp at h
 | e::l,h=>by
  rw[zGo,List.mem_append];rcases List.mem_cons.1 h with rfl | h
  ·exact .inl (zHX _ _)
  ·exact .inr (zOd h)
mutual
theorem zQP {a k:Exp}{v:Id}(hk:k∈a.kids):∀(e:Exp) (u:Id),(a,v)∈zEI e u→(k,a.id)∈zEI e u
 | .mk i n m r t ks ns,u,h=>by
  rw[zEI,List.mem_cons]at h⊢;rcases h with h | h
  ·have ha:a=.mk i n m r t ks ns:=congrArg Prod.fst h;subst ha;exact .inr (zOd hk)
  ·exact .inr (zOf hk ks i h)
theorem zOf {a k:Exp}{v:Id}(hk:k∈a.kids):∀(l:List Exp) (u:Id),(a,v)∈zGo l u→(k,a.id)∈zGo l u
 | [],u,h=>by simp[zGo]at h
 | e::l,u,h=>by
  rw[zGo,List.mem_append]at h⊢;rcases h with h | h
  ·exact .inl (zQP hk e u h)
  ·exact .inr (zOf hk l u h)
end
mutual
theorem zMb (x:Id):∀(e:Exp) (u:Id),zGi x e u=(zEI e u).find? fun y=>decide (y.1.id=x)
 | .mk i n m r t ks ns,u=>by
  rw[zGi,zEI,List.find?_cons];by_cases h:i=x
  ·simp[h]
  ·simp only[Exp.id_mk,h,decide_false];rw[if_neg (by simp),zNo x ks i]
theorem zNo (x:Id):∀(l:List Exp) (u:Id),zIG x l u=(zGo l u).find? fun y=>decide (y.1.id=x)
 | [],u=>by rw[zIG,zGo]; rfl
 | e::l,u=>by rw[zIG,zGo,List.find?_append,zMb x e u,zNo x l u]
end
mutual
theorem zQO (f:Int→Id):∀(e:Exp) (u:Id),((zEI (zBz f e) u).map fun y=>y.1.id).Perm ((tmps e).map f)
 | .mk i n m r t ks ns,u=>by rw[zBz,zEI,List.map_cons,tmps,List.map_append];exact((zOe f ks (f i.c)).cons _).trans (List.perm_append_singleton _ _).symm
theorem zOe (f:Int→Id):∀(l:List Exp) (u:Id),((zGo (zEE f l) u).map fun y=>y.1.id).Perm ((jA l).map f)
 | [],u=>by rw[zEE,zGo,jA]; exact List.Perm.refl _
 | e::l,u=>by rw[zEE,zGo,jA,List.map_append,List.map_append];exact(zQO f e u).append (zOe f l u)
end
theorem zDb {α β : Type}{g : α→β}:∀{L:List α},(L.map g).Nodup→∀{a b : α},a∈L→b∈L→g a=g b→a=b
 | [],_,a,b,ha,_,_=>by simp at ha
 | x::L,h,a,b,ha,hb,e=>by
  rw[List.map_cons,List.nodup_cons]at h;rcases List.mem_cons.1 ha with rfl | ha'<;>rcases List.mem_cons.1 hb with rfl | hb'
  ·rfl
  ·exact(h.1 (e▸List.mem_map.2 ⟨b,hb',rfl⟩)).elim
  ·exact(h.1 (e▸List.mem_map.2 ⟨a,ha',rfl⟩)).elim
  ·exact zDb h.2 ha' hb' e
def Uq (p:Prg):Prop:=∀d∈p.defs,zA9 d.kind=true→∀d'∈p.defs,zA9 d'.kind=true→∀y∈zEI d.body Id.zero,∀y'∈zEI d'.body Id.zero,y.1.id=y'.1.id→d=d'∧y=y'
theorem PrgOk.uq {l:List Int}(hl:∀x∈l,w64 x=x){P:Prg}(h:PrgOk l P):Uq P:=by
 obtain⟨hnm,hnm2⟩:=zMn l hl;generalize hN:nmV l=nm at *
 have m1:1≤(nm:Int):=by omega
 have m2:(nm:Int)≤2:=by omega
 obtain⟨n5,n8⟩:=zAp l (nm:Int);have hh:=h.heads;rw[hN]at hh;have hlen:P.defs.length=(zW l nm).length:=by have:=congrArg List.length hh; simpa using this
 have hpl:=zAQ l nm m1 m2 hl;have hrange:=fun i=>zBT (show 0≤(nm:Int) by omega) (fun p hp=>(hpl p hp).t6) i
 obtain⟨base,hb0,hbs⟩:=h.bodies;rw[hN]at hb0 hbs;have hbase:∀k,k≤P.defs.length→zAo nm (zW l nm) (zW l nm).length≤base k∧base k≤zAo nm (zW l nm) (zW l nm).length+32768*k:=by
  intro k;induction k with
  | zero=>intro _; rw[hb0]; omega
  | succ k ih =>
   intro hk;have ih:=ih (by omega);rcases hbs k P.defs[k] (List.getElem?_eq_getElem (by omega))with ⟨_,_,e⟩ | ⟨_,e,f,hr,e'⟩
   ·rw[e]; omega
   ·rw[e'];have:=hr.len;omega
 have hmono:∀a b,a≤b→b≤P.defs.length→base a≤base b:=by
  intro a b hab;induction b with
  | zero=>intro _; have:a=0:=by omega
          rw[this]; omega
  | succ b ih =>
   intro hb;by_cases e0:a=b+1
   ·rw[e0]; omega
   ·have ih:=ih (by omega) (by omega);rcases hbs b P.defs[b] (List.getElem?_eq_getElem (by omega))with ⟨_,_,e⟩ | ⟨_,e,f,hr,e'⟩
    ·rw[e]; exact ih
    ·rw[e']; omega
 have hr0:=hrange (zW l nm).length;have key:∀(k:Nat) (hk:k<P.defs.length),zA9 P.defs[k].kind=true→((zEI P.defs[k].body Id.zero).map fun y=>y.1.id).Nodup∧∀y∈zEI P.defs[k].body Id.zero,∃j:Int,y.1.id=idR j∧base k≤j∧j<base (k+1)∧0≤j∧j≤1000000000000000:=by
  intro k hk hb;have hB:zCi P.defs[k]=true:=zH1 hb;have hbk:=hbase k (by omega);rcases hbs k P.defs[k] (List.getElem?_eq_getElem hk)with ⟨h0,_,_⟩ | ⟨_,e,f,hr,e'⟩
  ·rw[h0]at hB; cases hB
  ·have hlt:=hr.len;have hp:=zQO f e Id.zero;rw[←hr.body]at hp;constructor
   ·rw[hp.nodup_iff];unfold List.Nodup;rw[List.pairwise_map];refine hr.nd.imp_of_mem fun {a b} ha hb' hne he=>hne ?_
    obtain⟨j,hj,rfl⟩:=List.getElem_of_mem ha;obtain⟨j',hj',rfl⟩:=List.getElem_of_mem hb';rw[hr.ids j hj,hr.ids j' hj']at he;have:=zEr (by omega) (by omega) (by omega) (by omega) he;have:j=j':=by omega
    subst this;rfl
   ·intro y hy;have:y.1.id∈(tmps e).map f:=hp.mem_iff.1 (List.mem_map.2 ⟨y,hy,rfl⟩);obtain⟨c,hc,hc'⟩:=List.mem_map.1 this;obtain⟨j,hj,rfl⟩:=List.getElem_of_mem hc;rw[hr.ids j hj]at hc';exact⟨_,hc'.symm,by omega,by omega,by omega,by omega⟩
 intro d hd hb d' hd' hb' y hy y' hy' he;obtain⟨k,hk,rfl⟩:=List.getElem_of_mem hd;obtain⟨k',hk',rfl⟩:=List.getElem_of_mem hd';obtain⟨q1,q2⟩:=key k hk hb;obtain⟨q1',q2'⟩:=key k' hk' hb';obtain⟨j,a1,a2,a3,a4,a5⟩:=q2 y hy;obtain⟨j',b1,b2,b3,b4,b5⟩:=q2' y' hy';have hjj:=zEr a4 a5 b4 b5 (a1.symm.trans (he.trans b1));have hkk:k=k':=by
  rcases Nat.lt_trichotomy k k' with h | h | h
  ·have:=hmono (k+1) k' (by omega) (by omega); omega
  ·exact h
  ·have:=hmono (k'+1) k (by omega) (by omega); omega
 subst hkk;exact⟨rfl,zDb q1 hy hy' he⟩
section
variable {p:Prg}{ev:Evl}
end
@[simp] theorem qMN:zA Tryz.prog 49=true:=by kernel_rfl
def At (p:Prg)(s:XS)(e:Exp):Prop:=∃d u,d∈p.defs∧zA9 d.kind=true∧d.id∈s.ds∧(e,u)∈zEI d.body Id.zero∧(e.id=d.body.id∨u∈s.ns)
def Src (p:Prg)(s:XS)(x:Id):Prop:=∃e,At p s e∧e.id=x
def zCl (p:Prg)(s:XS)(x:Id):Prop:=∀d∈p.defs,zA9 d.kind=true→∀y∈zEI d.body Id.zero,y.1.id=x→y.1.k=3→y.1.ref∈s.ds∧(dfn p y.1.ref).body.id∈s.ns
structure Gr (p:Prg)(s s':XS):Prop where
 ds:∀x∈s.ds,x∈s'.ds
 ns:∀x∈s.ns,x∈s'.ns
 st:s'.fail=0→s.fail=0
 nw:∀x∈s'.ns,x∈s.ns∨(Src p s' x∧(s'.fail=0→zCl p s' x))
theorem At.mono {p:Prg}{s s':XS}{e:Exp}(h:At p s e)(h1:∀x∈s.ds,x∈s'.ds)(h2:∀x∈s.ns,x∈s'.ns):At p s' e:=by obtain⟨d,u,a1,a2,a3,a4,a5⟩:=h;exact⟨d,u,a1,a2,h1 _ a3,a4,a5.imp_right (h2 _)⟩
theorem At.gr {p:Prg}{s s':XS}{e:Exp}(h:At p s e)(g:Gr p s s'):At p s' e:=h.mono g.ds g.ns
theorem At.kid {p:Prg}{s:XS}{e k:Exp}(h:At p s e)(hk:k∈e.kids)(hn:e.id∈s.ns):At p s k:=by obtain⟨d,u,a1,a2,a3,a4,a5⟩:=h;exact⟨d,e.id,a1,a2,a3,zQP hk _ _ a4,.inr hn⟩
theorem Src.mono {p:Prg}{s s':XS}{x:Id}(h:Src p s x)(h1:∀x∈s.ds,x∈s'.ds)(h2:∀x∈s.ns,x∈s'.ns):Src p s' x:=by obtain⟨e,a,b⟩:=h;exact⟨e,a.mono h1 h2,b⟩
theorem zCl.mono {p:Prg}{s s':XS}{x:Id}(h:zCl p s x)(h1:∀x∈s.ds,x∈s'.ds)(h2:∀x∈s.ns,x∈s'.ns):zCl p s' x:=fun d hd hb y hy hx hk=>by have:=h d hd hb y hy hx hk;exact⟨h1 _ this.1,h2 _ this.2⟩
theorem Gr.rfl' {p:Prg}(s:XS):Gr p s s:=⟨fun _ h=>h,fun _ h=>h,fun h=>h,fun _ h=>.inl h⟩
theorem Gr.trans {p:Prg}{a b c:XS}(h:Gr p a b)(k:Gr p b c):Gr p a c :=
 ⟨fun x hx=>k.ds _ (h.ds _ hx),fun x hx=>k.ns _ (h.ns _ hx),fun hc=>h.st (k.st hc),fun x hx=>by
  rcases k.nw x hx with hb | hb
  ·rcases h.nw x hb with ha | ⟨a1,a2⟩
   ·exact .inl ha
   ·exact .inr ⟨a1.mono k.ds k.ns,fun hc=>(a2 (k.st hc)).mono k.ds k.ns⟩
  ·exact .inr hb⟩
def GrE (p:Prg)(ev:Evl):Prop:=∀e B V s t,WE p B e t→EnvT p B V→At p s e→Gr p s (ev e V s).2∧((ev e V s).2.fail=0→e.id∈(ev e V s).2.ns)
section
variable {p:Prg}{ev:Evl}
theorem zG8 (h:GrE p ev){B:List Bnd}{V:List EVar}(hV:EnvT p B V):∀(l:List Exp) (s:XS),(∀k∈l,∃t,WE p B k t)→(∀k∈l,At p s k)→Gr p s (jE ev V l s).2
 | [],s,_,_=>Gr.rfl' s
 | e::l,s,hw,ha=>by obtain⟨t,ht⟩:=hw e (by simp);have g:=(h e B V s t ht hV (ha e (by simp))).1;simp only[jE];exact g.trans (zG8 h hV l _ (fun k hk=>hw k (by simp[hk])) fun k hk=>(ha k (by simp[hk])).gr g)
theorem zNq (hs:zK5 ev)(hty:Snd p ev)(h:GrE p ev){B:List Bnd}{V:List EVar}(hV:EnvT p B V){i:Id}{b:Exp}{u t:Typ}(hb:WE p (B++[⟨i,0,u⟩]++[⟨i,1,t⟩]) b t):∀(l:List Val) (r:Val×XS),(∀x∈l,TyV p u x∧qB x≤256) →
 (r.2.fail=0→TyV p t r.1∧qB r.1≤256)→At p r.2 b→Gr p r.2 (zAt ev V i b l r).2
 | [],r,_,_,_=>Gr.rfl' _
 | x::l,r,hl,hr,ha=>by
  by_cases h0:r.2.fail=0
  ·have hE:=(hV.push (i:=i) (n:=0) (hl x (by simp))).push (i:=i) (n:=1) (hr h0);have g:=(h b _ _ r.2 t hb hE ha).1;simp only[zAt];exact g.trans (zNq hs hty h hV hb l _ (fun y hy=>hl y (List.mem_cons_of_mem _ hy)) (fun hf=>hty b _ _ _ t hb hE hf) (ha.gr g))
  ·have e:(zAt ev V i b (x::l) r).2=r.2:=zGj hs V i b _ r h0;rw[e];exact Gr.rfl' _
theorem zT2 (h:GrE p ev){d:Dfn}(hd:d∈p.defs)(hk:zA9 d.kind=true)(hw:WE p (zAX d) d.body d.res){vs:List Val}{s:XS}(ha:s.fail=0→EnvT p (zAX d) (zCA d.slots vs)) :
 Gr p s (zB6 ev d vs s).2∧((zB6 ev d vs s).2.fail=0→d.id∈(zB6 ev d vs s).2.ds∧d.body.id∈(zB6 ev d vs s).2.ns):=by
 unfold zB6;by_cases hf:s.fail=0
 ·rw[if_neg (by simp[hf])];have g0:Gr p s {s with ds:=s.ds++[d.id]}:=⟨fun x hx=>by simp[hx],fun _ h=>h,fun h=>h,fun _ h=>.inl h⟩;have hat:At p {s with ds:=s.ds++[d.id]} d.body:=⟨d,Id.zero,hd,hk,by simp,zHX _ _,.inl rfl⟩;obtain⟨g,g2⟩:=h d.body _ _ {s with ds:=s.ds++[d.id]} d.res hw (ha hf) hat;exact⟨g0.trans g,fun h0=>⟨g.ds _ (by simp),g2 h0⟩⟩
 ·rw[if_pos hf];exact⟨Gr.rfl' _,fun h0=>(hf h0).elim⟩
theorem zM9 {B:List Bnd}{ks:List Exp}{ts:List Typ}(hl:ks.length=ts.length)(hw:∀(j:Nat)(hj:j<ks.length),WE p B ks[j] (ts[j]'(hl▸hj))):∀k∈ks,∃t,WE p B k t:=fun k hk=>by obtain⟨j,hj,rfl⟩:=List.getElem_of_mem hk;exact⟨_,hw j hj⟩
theorem zVC (hp:zMB p)(fl:Nat)(hst:zK5 ev)(hty:Snd p ev)(h:GrE p ev){e:Exp}{B:List Bnd}{V:List EVar}{s:XS}{t:Typ}(he:WE p B e t)(hV:EnvT p B V)(hk:∀k∈e.kids,At p s k) :
 Gr p s (qA p fl ev e V s).2∧(e.k=3→(qA p fl ev e V s).2.fail=0→e.ref∈(qA p fl ev e V s).2.ds∧(dfn p e.ref).body.id∈(qA p fl ev e V s).2.ns):=by
 cases he with
 | int _ i n r u ns h1 h2=>exact⟨by simp only[qA]; exact Gr.rfl' _,fun h3=>by cases h3⟩
 | bool _ i n r u ns h=>exact⟨by simp only[qA]; exact Gr.rfl' _,fun h3=>by cases h3⟩
 | var _ i n r u ns _ h=>exact⟨by simp only[qA]; exact Gr.rfl' _,fun h3=>by cases h3⟩
 | call _ i n r u ks ns hn d hd hkd hl hw =>
  have e:qA p fl ev (.mk i 3 n r u ks ns) V s=zB6 ev d (jE ev V ks s).1 (jE ev V ks s).2:=by simp[qA,dfn,hd]
  have e2:dfn p r=d:=by simp[dfn,hd]
  obtain⟨hm,hid⟩:=zB3 hd;have g1:=zG8 h hV ks s (zM9 hl hw) hk;obtain⟨g2,g3⟩:=zT2 h hm (by simp[zA9,hkd]) (hp r d hd (by simp[zCi,hkd])) (vs:=(jE ev V ks s).1) (s:=(jE ev V ks s).2) fun hf=>by have ha:=zDt hst hty hV ks _ s hl hw hf;exact EnvT.args ha.1 ha.2
  simp only[Exp.ref_mk,e2];rw[e];exact⟨g1.trans g2,fun _ h0=>by rw[←hid]; exact g3 h0⟩
 | op _ i n r u ks ns hn ts _ ho hl hw =>
  have e:qA p fl ev (.mk i 4 n r u ks ns) V s=(zf true (jE ev V ks s).2 (opV n (jE ev V ks s).1),(jE ev V ks s).2):=by simp[qA]
  rw[e];exact⟨zG8 h hV ks s (zM9 hl hw) hk,fun h3=>by cases h3⟩
 | record _ i n r u ks ns hn d hd hkd hl hw =>
  have e:qA p fl ev (.mk i 7 n r u ks ns) V s=(zf (fl==1) (jE ev V ks s).2 (.mk 2 0 (jE ev V ks s).1),(jE ev V ks s).2):=by simp[qA]
  rw[e];exact⟨zG8 h hV ks s (zM9 hl hw) hk,fun h3=>by cases h3⟩
 | case _ i r u a ns d j hd hkd hj ha =>
  have e:qA p fl ev (.mk i 9 j r u [a] ns) V s=(zf (fl==1) (ev a V s).2 (.mk 3 j [(ev a V s).1]),(ev a V s).2):=by simp[qA,jE]
  rw[e];exact⟨(h a B V s _ ha hV (hk a (by simp[Exp.kids]))).1,fun h3=>by cases h3⟩
 | list _ i n r u ks ns t hn hw =>
  have e:qA p fl ev (.mk i 11 n r u ks ns) V s=(zf (fl==1) (jE ev V ks s).2 (.mk 4 0 (jE ev V ks s).1),(jE ev V ks s).2):=by simp[qA]
  rw[e];exact⟨zG8 h hV ks s (fun k hk=>by obtain⟨j,hj,rfl⟩:=List.getElem_of_mem hk; exact⟨_,hw j hj⟩) hk,fun h3=>by cases h3⟩
 | ite _ i n r u a b c ns _ ha hb hc =>
  have e:qA p fl ev (.mk i 5 n r u [a,b,c] ns) V s=if (ev a V s).2.fail≠0 then (vz,(ev a V s).2) else ev ([a,b,c].getD (if (ev a V s).1.n=1 then 1 else 2) .zero) V (ev a V s).2:=by simp[qA,jR]
  have g:=(h a B V s _ ha hV (hk a (by simp[Exp.kids]))).1;rw[e];refine⟨?_,fun h3=>by cases h3⟩;by_cases hf:(ev a V s).2.fail=0
  ·rw[if_neg (by simp[hf])];by_cases hn:(ev a V s).1.n=1
   ·simp only[if_pos hn];exact g.trans (h b B V _ _ hb hV ((hk b (by simp[Exp.kids])).gr g)).1
   ·simp only[if_neg hn];exact g.trans (h c B V _ _ hc hV ((hk c (by simp[Exp.kids])).gr g)).1
  ·rw[if_pos hf]; exact g
 | lets _ i n r u a b ns v _ hfr ha hb =>
  have e:qA p fl ev (.mk i 6 n r u [a,b] ns) V s=if (ev a V s).2.fail≠0 then (vz,(ev a V s).2) else ev b (V++[⟨i,0,(ev a V s).1⟩]) (ev a V s).2:=by simp[qA,jR]
  have g:=(h a B V s _ ha hV (hk a (by simp[Exp.kids]))).1;rw[e];refine⟨?_,fun h3=>by cases h3⟩;by_cases hf:(ev a V s).2.fail=0
  ·rw[if_neg (by simp[hf])];exact g.trans (h b _ _ _ _ hb (hV.push (hty a B V s _ ha hV hf)) ((hk b (by simp[Exp.kids])).gr g)).1
  ·rw[if_pos hf]; exact g
 | field _ i r u a ns d j hd hkd hj ha =>
  have e:qA p fl ev (.mk i 8 j r u [a] ns) V s=if (ev a V s).2.fail≠0 then (vz,(ev a V s).2) else ((ev a V s).1.kids.getD j vz,(ev a V s).2):=by simp[qA,jR]
  have g:=(h a B V s _ ha hV (hk a (by simp[Exp.kids]))).1;rw[e];refine⟨?_,fun h3=>by cases h3⟩;by_cases hf:(ev a V s).2.fail=0
  ·rw[if_neg (by simp[hf])]; exact g
  ·rw[if_pos hf]; exact g
 | mtch _ i n r u a ks ns d _ hfr hd hkd hl ha hw =>
  have e:qA p fl ev (.mk i 10 n r u (a::ks) ns) V s=if (ev a V s).2.fail≠0 then (vz,(ev a V s).2) else ev ((a::ks).getD (1+(ev a V s).1.n).toNat .zero) (V++[⟨i,(ev a V s).1.n,(ev a V s).1.kids.headD vz⟩]) (ev a V s).2:=by simp[qA,jR]
  have g:=(h a B V s _ ha hV (hk a (by simp[Exp.kids]))).1;rw[e];refine⟨?_,fun h3=>by cases h3⟩;by_cases hf:(ev a V s).2.fail=0
  ·rw[if_neg (by simp[hf])];obtain⟨hv,hz⟩:=hty a B V s _ ha hV hf;rcases hv.def_inv hd with ⟨h1,_⟩ | ⟨_,m,x,hm,h1,h2⟩
   ·omega
   ·have hmk:m<ks.length:=by omega
    have e2:(1+(m:Int)).toNat=m+1:=by omega
    rw[h1]at hz ⊢;simp only[Val.n,Val.kids,List.headD_cons,e2,List.getD_cons_succ,List.getD_eq_getElem?_getD,List.getElem?_cons_succ,List.getElem?_eq_getElem hmk,Option.getD_some];exact g.trans (h _ _ _ _ _ (hw m hmk) (hV.push ⟨h2,zCC hz (by simp[Val.kids])⟩) ((hk ks[m] (by simp[Exp.kids])).gr g)).1
  ·rw[if_pos hf]; exact g
 | fold _ i n r u l s' b ns v _ hfr hl' hs' hb =>
  have e:qA p fl ev (.mk i 12 n r u [l,s',b] ns) V s=if (ev l V s).2.fail≠0 then (vz,(ev l V s).2) else zAt ev V i b (ev l V s).1.kids (ev s' V (ev l V s).2):=by simp[qA,jR]
  have g:=(h l B V s _ hl' hV (hk l (by simp[Exp.kids]))).1;rw[e];refine⟨?_,fun h3=>by cases h3⟩;by_cases hf:(ev l V s).2.fail=0
  ·rw[if_neg (by simp[hf])];obtain⟨hv,hz⟩:=hty l B V s _ hl' hV hf;obtain⟨vs,h1,h2⟩:=hv.list_inv;rw[h1]at hz ⊢;have g2:=(h s' B V (ev l V s).2 _ hs' hV ((hk s' (by simp[Exp.kids])).gr g)).1;exact g.trans (g2.trans (zNq hst hty h hV hb vs _ (fun x hx=>⟨h2 x hx,zCC hz hx⟩) (fun hg=>hty s' B V _ _ hs' hV hg) (((hk b (by simp[Exp.kids])).gr g).gr g2)))
  ·rw[if_pos hf]; exact g
end
theorem zJO {p:Prg}(hp:zMB p)(hU:Uq p)(fl m:Nat)(h:GrE p (zAH p fl m)){e:Exp}{B:List Bnd}{V:List EVar}{s:XS}{t:Typ}(he:WE p B e t)(hV:EnvT p B V)(ha:At p s e)(h0:s.fail=0)(h1:¬s.fuel≤0) :
 Gr p s (zAH p fl (m+1) e V s).2∧e.id∈(zAH p fl (m+1) e V s).2.ns:=by
 rw[zAH,if_neg (by simp[h0]),if_neg h1];simp only[zR6];have gt:∀x∈s.ns,x∈(zCE e s).ns:=fun x hx=>by simp[zCE,hx]
 have hin:e.id∈(zCE e s).ns:=by simp[zCE]
 have ha':At p (zCE e s) e:=ha.mono (fun _ h=>h) gt;obtain⟨g,gc⟩:=zVC hp fl (zEz p fl m) (zHd hp fl m) h (s:=zCE e s) he hV fun k hk=>ha'.kid hk hin
 generalize qA p fl (zAH p fl m) e V (zCE e s)=r at g gc;have hl:(zDH r).ds=r.2.ds∧(zDH r).ns=r.2.ns∧((zDH r).fail=0→r.2.fail=0):=by
  unfold zDH;split
  ·exact⟨rfl,rfl,fun h=>by simp[zFY]at h⟩
  ·exact⟨rfl,rfl,fun h=>h⟩
 obtain⟨l1,l2,l3⟩:=hl;refine⟨⟨fun x hx=>by rw[l1]; exact g.ds _ hx,fun x hx=>by rw[l2]; exact g.ns _ (gt _ hx),fun _=>h0,fun x hx=>?_⟩,by rw[l2]; exact g.ns _ hin⟩;have md:∀x∈r.2.ds,x∈(zDH r).ds:=fun x hx=>by rw[l1]; exact hx
 have mn:∀x∈r.2.ns,x∈(zDH r).ns:=fun x hx=>by rw[l2]; exact hx
 rw[l2]at hx;rcases g.nw x hx with hx' | ⟨a1,a2⟩
 ·simp only[zCE,List.mem_append,List.mem_singleton]at hx';rcases hx' with hx' | rfl
  ·exact .inl hx'
  ·refine .inr ⟨⟨e,(ha'.gr g).mono md mn,rfl⟩,fun hz=>?_⟩;intro d hd hb y hy hye hyk;obtain⟨d',u,b1,b2,b3,b4,_⟩:=ha;obtain⟨_,hye'⟩:=hU d hd hb d' b1 b2 y hy (e,u) b4 hye;have:y.1=e:=congrArg Prod.fst hye';rw[this]at hyk ⊢;have:=gc hyk (l3 hz);exact⟨md _ this.1,mn _ this.2⟩
 ·exact .inr ⟨a1.mono md mn,fun hz=>(a2 (l3 hz)).mono md mn⟩
theorem zNR {p:Prg}(hp:zMB p)(hU:Uq p)(fl:Nat):∀m,GrE p (zAH p fl m)
 | 0=>fun e B V s t he hV ha=>by
  rw[zAH];split
  ·rename_i h; exact⟨Gr.rfl' _,fun h0=>(h h0).elim⟩
  ·exact⟨⟨fun _ h=>h,fun _ h=>h,fun h=>by simp[zGI]at h,fun _ h=>.inl h⟩,fun h=>by simp[zGI]at h⟩
 | m+1=>fun e B V s t he hV ha=>by
  by_cases h0:s.fail=0
  ·by_cases h1:s.fuel≤0
   ·rw[zAH,if_neg (by simp[h0]),if_pos h1];exact⟨⟨fun _ h=>h,fun _ h=>h,fun h=>by simp[zGI]at h,fun _ h=>.inl h⟩,fun h=>by simp[zGI]at h⟩
   ·have:=zJO hp hU fl m (zNR hp hU fl m) he hV ha h0 h1;exact⟨this.1,fun _=>this.2⟩
  ·rw[zAH,if_pos h0];exact⟨Gr.rfl' _,fun h=>(h0 h).elim⟩
@[simp] theorem qNg:zA Tryz.prog 14=true:=by kernel_rfl
@[simp] theorem qIX:zA Tryz.prog 3=true:=by kernel_rfl
theorem zP5 {x:Int}(h:0≤x) : -1099511627776≤zNF x∧zNF x≤1099511627776:=by
 have e1:x.tdiv 16=x / 16:=tdN h;have e2:(x / 16).tmod 3=(x / 16) % 3:=tmN (by omega);have e3:(x / 16).tmod 9=(x / 16) % 9:=tmN (by omega);have w:∀y:Int,-1099511627790≤y→y≤1099511627790→w64 y=y:=fun y h1 h2=>IntWalk.i64_in _ (by omega)
 unfold zNF;rw[e1,e2,e3];split
 ·rw[w _ (by omega) (by omega)]; omega
 ·split
  ·rw[w _ (by omega) (by omega)]; omega
  ·rw[w _ (by omega) (by omega)]; omega
theorem zOp {g:Typ→Int→Val×Int}{Q:Val→Prop}:∀(l:List Typ) (a:Int),(∀t∈l,∀b,Q (g t b).1)→∀v∈(zAv g l a).1,Q v
 | [],a,_=>by simp[zAv]
 | t::l,a,h=>fun v hv=>by
  simp only[zAv,List.mem_cons]at hv;rcases hv with rfl | hv
  ·exact h t (by simp) a
  ·exact zOp l _ (fun x hx b=>h x (by simp[hx]) b) v hv
theorem zLg {P:Prg}{g:Typ→Int→Val×Int}:∀(l:List Typ) (a:Int),(∀t∈l,∀b,zBb P t (g t b).1=true)→zBk P l (zAv g l a).1=true
 | [],a,_=>by simp[zAv,zBk]
 | t::l,a,h=>by simp only[zAv,zBk,Bool.and_eq_true];exact⟨h t (by simp) a,zLg l _ fun x hx b=>h x (by simp[hx]) b⟩
theorem zLf {P:Prg}{g:Typ→Val}:∀(l:List Slt),(∀s∈l,zBb P s.typ (g s.typ)=true)→zBk P (l.map Slt.typ) (l.map fun s=>g s.typ)=true
 | [],_=>by simp[zBk]
 | s::l,h=>by simp only[List.map_cons,zBk,Bool.and_eq_true];exact⟨h s (by simp),zLf l fun x hx=>h x (by simp[hx])⟩
theorem zSn {P:Prg}{hs:List Hd}(hf:Fit P hs){l:List Int}(hl:∀x∈l,w64 x=x){r:Nat}{t:Typ}(h:TyOk hs r t):r<24→∀f,r<f→∀a d,zBb P t (jS P l f t a d).1=true:=by
 induction h with
 | int r =>
  intro hr f hf' a d;obtain⟨m,rfl⟩:∃m,f=m+1:=⟨f-1,by omega⟩;have hv:=(TyOk.int r).validT hf.hd hr;have ha:=jY (i:=a) hl (most:=1048576) (by omega);have hm:=zP5 ha.1;rw[zAl,hv];simp[jS,Val.k,Val.n,Val.kids,hm.1,hm.2]
 | bool r =>
  intro hr f hf' a d;obtain⟨m,rfl⟩:∃m,f=m+1:=⟨f-1,by omega⟩;have hv:=(TyOk.bool r).validT hf.hd hr;have ha:=jY (i:=a) hl (most:=1048576) (by omega);have e:(atV l a 1048576).tmod 2=(atV l a 1048576) % 2:=tmN ha.1;rw[zAl,hv];simp[jS,Val.k,Val.n,Val.kids,e];omega
 | list r t h ih =>
  intro hr f hf' a d;obtain⟨m,rfl⟩:∃m,f=m+1:=⟨f-1,by omega⟩;have hv:=(TyOk.list r t h).validT hf.hd hr;rw[zAl,hv];simp only[jS,Typ.k_mk,Typ.kids_mk,List.headD_cons];simp only[Val.k,Val.n,Val.kids];simp;intro v hv;refine zOp (Q:=fun v=>zBb P t v=true) _ _ (fun y hy b=>?_) v hv;rw[(List.mem_replicate.1 hy).2];exact ih (by omega) m (by omega) b _
 | dfn r k h h1 h2 h3 h4 ih =>
  intro hr f hf' a d;obtain⟨m,rfl⟩:∃m,f=m+1:=⟨f-1,by omega⟩;have hv:=(TyOk.dfn r k h h1 h2 h3 h4).validT hf.hd hr;obtain⟨hd,hdm⟩:=hf.at_ k h;have e1:(dfn P hs[k].id).kind=hs[k].kind:=congrArg Hd.kind hd;have e2:(dfn P hs[k].id).slots=hs[k].slots:=congrArg Hd.slots hd;have hs':=hf.slots _ hdm;have ha:=jY (i:=a) hl (most:=1048576) (by omega);have k0:¬(zAy hs[k].id).k=0:=by show ¬(3:Int)=0; decide
  have k1:¬(zAy hs[k].id).k=1:=by show ¬(3:Int)=1; decide
  have k2:¬(zAy hs[k].id).k=2:=by show ¬(3:Int)=2; decide
  have ki:(zAy hs[k].id).id=hs[k].id:=rfl;rw[zAl,hv,if_neg k0,if_neg k1,if_neg k2,jS,if_neg k0,if_neg k1,if_neg k2,ki];by_cases hk:(dfn P hs[k].id).kind=1
  ·rw[if_pos hk,if_pos hk];have hn1:1≤(dfn P hs[k].id).slots.length:=hs'.1;have et:(atV l a 1048576).tmod (dfn P hs[k].id).slots.length=(atV l a 1048576) % (dfn P hs[k].id).slots.length:=tmN ha.1;have q0:0≤(atV l a 1048576).tmod (dfn P hs[k].id).slots.length:=by rw[et]; exact Int.emod_nonneg _ (by omega)
   have q1:(atV l a 1048576).tmod (dfn P hs[k].id).slots.length<(dfn P hs[k].id).slots.length:=by rw[et]; exact Int.emod_lt_of_pos _ (by omega)
   generalize (atV l a 1048576).tmod (dfn P hs[k].id).slots.length=q at q0 q1;have hqn:q.toNat<(dfn P hs[k].id).slots.length:=by omega
   have hg:((dfn P hs[k].id).slots.map Slt.typ)[q.toNat]?=some ((dfn P hs[k].id).slots[q.toNat]).typ:=by simp[hqn]
   have hgd:((dfn P hs[k].id).slots.map Slt.typ).getD q.toNat Typ.zero=((dfn P hs[k].id).slots[q.toNat]).typ:=by rw[List.getD_eq_getElem?_getD,hg]; rfl
   rw[hgd];have hmem:(dfn P hs[k].id).slots[q.toNat]∈hs[k].slots:=by rw[←e2]; exact List.getElem_mem hqn
   have:=ih _ hmem (by omega) m (by omega) (w64 (a+1)) (w64 (d+1));simp only[Val.k,Val.n,Val.kids,hg,zLh,this];simp[q0,q1]
  ·rw[if_neg hk,if_neg hk];have:=zLg (P:=P) (g:=fun t b=>jS P l m t b (w64 (d+1))) ((dfn P hs[k].id).slots.map Slt.typ) (w64 (a+1)) fun y hy b=>by obtain⟨s,hs1,rfl⟩:=List.mem_map.1 hy;rw[e2]at hs1;exact ih s hs1 (by omega) m (by omega) b _
   simp only[Val.k,Val.n,Val.kids,this];simp[zHj]
theorem zSH {P:Prg}{hs:List Hd}(hf:Fit P hs){r:Nat}{t:Typ}(h:TyOk hs r t):r<24→∀f,r<f→zBb P t (yY P f t)=true:=by
 induction h with
 | int r =>
  intro hr f hf';obtain⟨m,rfl⟩:∃m,f=m+1:=⟨f-1,by omega⟩;rw[zAl,(TyOk.int r).validT hf.hd hr];simp[yY,Val.k,Val.n,Val.kids]
 | bool r =>
  intro hr f hf';obtain⟨m,rfl⟩:∃m,f=m+1:=⟨f-1,by omega⟩;rw[zAl,(TyOk.bool r).validT hf.hd hr];simp[yY,Val.k,Val.n,Val.kids]
 | list r t h ih =>
  intro hr f hf';obtain⟨m,rfl⟩:∃m,f=m+1:=⟨f-1,by omega⟩;rw[zAl,(TyOk.list r t h).validT hf.hd hr];simp[yY,Val.k,Val.n,Val.kids]
 | dfn r k h h1 h2 h3 h4 ih =>
  intro hr f hf';obtain⟨m,rfl⟩:∃m,f=m+1:=⟨f-1,by omega⟩;have hv:=(TyOk.dfn r k h h1 h2 h3 h4).validT hf.hd hr;obtain⟨hd,hdm⟩:=hf.at_ k h;have e2:(dfn P hs[k].id).slots=hs[k].slots:=congrArg Hd.slots hd;have hs':=hf.slots _ hdm;have k0:¬(zAy hs[k].id).k=0:=by show ¬(3:Int)=0; decide
  have k1:¬(zAy hs[k].id).k=1:=by show ¬(3:Int)=1; decide
  have k2:¬(zAy hs[k].id).k=2:=by show ¬(3:Int)=2; decide
  have ki:(zAy hs[k].id).id=hs[k].id:=rfl;rw[zAl,hv,if_neg k0,if_neg k1,if_neg k2,yY,if_neg k0,if_neg k1,if_neg k2,ki];by_cases hk:(dfn P hs[k].id).kind=1
  ·rw[if_pos hk,if_pos hk];have hn1:1≤(dfn P hs[k].id).slots.length:=hs'.1;cases hss:(dfn P hs[k].id).slots with
   | nil=>rw[hss]at hn1; simp at hn1
   | cons s ss =>
    have:=ih s (by rw[←e2,hss]; simp) (by omega) m (by omega);simp[Val.k,Val.n,Val.kids,zLh,this]
  ·rw[if_neg hk,if_neg hk];have:=zLf (P:=P) (g:=fun t=>yY P m t) (dfn P hs[k].id).slots fun s hs1=>ih s (by rw[←e2]; exact hs1) (by omega) m (by omega)
   simp only[Val.k,Val.n,Val.kids,this];simp
theorem zTy {P:Prg}{hs:List Hd}(hf:Fit P hs){d:Dfn}(hd:d∈P.defs){l:List Int}(hl:∀x∈l,w64 x=x):zBk P (d.slots.map Slt.typ) (zBZ P d l)=true:=by
 refine zHH (by rw[zHz,List.length_map]) fun j h1 h2=>?_
 have hj:j<d.slots.length:=by simpa using h1
 have ht:=(hf.slots d hd).2.2.2.2 _ (List.getElem_mem hj);have hl':∀x∈l.drop (min (7*j) l.length),w64 x=x:=fun x hx=>hl x (List.mem_of_mem_drop hx)
 simp only[zBZ,List.getElem_mapIdx,List.getElem_map,zCL];split
 ·exact zSH hf ht (by omega) 5 (by omega)
 ·exact zSn hf hl' ht (by omega) 10 (by omega) 0 1
end Go.Proofs.YthglhccibdlccaaGreatDoor

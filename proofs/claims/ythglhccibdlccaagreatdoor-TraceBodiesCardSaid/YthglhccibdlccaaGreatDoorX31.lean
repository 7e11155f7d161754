/-
  Evaluation as data: operations, and a run with its fuel, its failure, and what it has asked.
  The maker's literals of variants and records; all literals.
  fits and Valid of the reference.
-/
import Derived.Test.YthglhccibdlccaaGreatDoorX24
import Derived.Test.YthglhccibdlccaaGreatDoorX30
import Derived.Test.YthglhccibdlccaaGreatDoorX29
set_option linter.unusedVariables false
set_option linter.unusedSimpArgs false
namespace Go.Proofs.YthglhccibdlccaaGreatDoor
open Go.Abs
abbrev vz:Val:=.mk 0 0 []
def zFX (a b:Int):Int:=if b=0 then 0 else if a.tmod b≠0∧¬(a<0↔b<0) then a.tdiv b-1 else a.tdiv b
def zMx (a b:Int):Int:=if b=0 then 0 else a-b*zFX a b
def zKJ (n a b:Int):Int:=if n=0 then zBy (a+b) else if n=1 then zBy (a-b) else if n=2 then zBy (a*b) else if n=3 then zFX a b else zMx a b
def opV (n:Int):List Val→Val
 | [a]=>if n=9 then zB8 (decide (a.n=0)) else .mk 0 a.kids.length []
 | [a,b]=>if n≤4 then .mk 0 (zKJ n a.n b.n) [] else if n=5 then zB8 (decide (a.n<b.n)) else if n=6 then zB8 (decide (zNa a b=0))
  else if n=7 then zB8 (decide (a.n=1∧b.n=1)) else if n=8 then zB8 (decide (a.n=1∨b.n=1)) else .mk 4 0 (a.kids++b.kids)
 | _=>vz
structure XS where
 fuel:Int
 fail:Int
 ds:List Id
 ns:List Id
abbrev Evl:=Exp→List EVar→XS→Val×XS
def jE (ev:Evl)(env:List EVar):List Exp→XS→List Val×XS
 | [],s=>([],s)
 | e::l,s=>((ev e env s).1::(jE ev env l (ev e env s).2).1,(jE ev env l (ev e env s).2).2)
theorem zKO (ev:Evl)(env:List EVar)(e:Exp):∀(l:List Exp) (s:XS),jE ev env (l++[e]) s=((jE ev env l s).1++[(ev e env (jE ev env l s).2).1],(ev e env (jE ev env l s).2).2)
 | [],s=>rfl
 | x::l,s=>by simp only[List.cons_append,jE,zKO ev env e l]
theorem zG9 (ev:Evl)(env:List EVar):∀(l:List Exp) (s:XS),(jE ev env l s).1.length=l.length
 | [],s=>rfl
 | x::l,s=>by simp only[jE,List.length_cons,zG9 ev env l]
def zAt (ev:Evl)(env:List EVar)(i:Id)(b:Exp):List Val→Val×XS→Val×XS
 | [],r=>r
 | x::l,r=>zAt ev env i b l (ev b (env++[⟨i,0,x⟩]++[⟨i,1,r.1⟩]) r.2)
theorem zJ1 (ev:Evl)(env:List EVar)(i:Id)(b:Exp)(x:Val):∀(l:List Val) (r:Val×XS),zAt ev env i b (l++[x]) r=ev b (env++[⟨i,0,x⟩]++[⟨i,1,(zAt ev env i b l r).1⟩]) (zAt ev env i b l r).2
 | [],r=>rfl
 | y::l,r=>by simp only[List.cons_append,zAt,zJ1 ev env i b x l]
def zCA (ss:List Slt)(vs:List Val):List EVar:=List.zipWith (fun s v=>⟨s.id,0,v⟩) ss vs
theorem zGJ (ss:List Slt)(vs:List Val)(h:vs.length=ss.length):(zCA ss vs).length=ss.length:=by simp[zCA,h]
theorem zR7 {ss:List Slt}{vs:List Val}(h:vs.length=ss.length){i:Nat}(hi:i<ss.length):(zCA ss vs).take (i+1)=(zCA ss vs).take i++[⟨ss[i].id,0,vs[i]⟩]:=by rw[List.take_succ_eq_append_getElem (by rw[zGJ ss vs h]; exact hi)];simp[zCA]
def zB6 (ev:Evl)(d:Dfn)(vs:List Val)(s:XS):Val×XS:=if s.fail≠0 then (vz,s) else ev d.body (zCA d.slots vs) {s with ds:=s.ds++[d.id]}
def jR (ev:Evl)(e:Exp)(env:List EVar)(s:XS):Val×XS :=
 if (ev (e.kids.headD .zero) env s).2.fail≠0 then (vz,(ev (e.kids.headD .zero) env s).2)
 else if e.k=5 then ev (e.kids.getD (if (ev (e.kids.headD .zero) env s).1.n=1 then 1 else 2) .zero) env (ev (e.kids.headD .zero) env s).2
 else if e.k=6 then ev (e.kids.getD 1 .zero) (env++[⟨e.id,0,(ev (e.kids.headD .zero) env s).1⟩]) (ev (e.kids.headD .zero) env s).2
 else if e.k=8 then ((ev (e.kids.headD .zero) env s).1.kids.getD e.n.toNat vz,(ev (e.kids.headD .zero) env s).2)
 else if e.k=10 then ev (e.kids.getD (1+(ev (e.kids.headD .zero) env s).1.n).toNat .zero) (env++[⟨e.id,(ev (e.kids.headD .zero) env s).1.n,(ev (e.kids.headD .zero) env s).1.kids.headD vz⟩]) (ev (e.kids.headD .zero) env s).2
 else zAt ev env e.id (e.kids.getD 2 .zero) (ev (e.kids.headD .zero) env s).1.kids (ev (e.kids.getD 1 .zero) env (ev (e.kids.headD .zero) env s).2)
def zf (c:Bool)(s:XS)(v:Val):Val:=if c=true∧s.fail≠0 then vz else v
def qA (p:Prg)(fl:Nat)(ev:Evl)(e:Exp)(env:List EVar)(s:XS):Val×XS :=
 if e.k=0 then (.mk 0 e.n [],s)
 else if e.k=1 then (.mk 1 e.n [],s)
 else if e.k=2 then (zFQ env e.ref e.n,s)
 else if e.k=5∨e.k=6∨e.k=8∨e.k=10∨e.k=12 then jR ev e env s
 else if e.k=3 then zB6 ev (dfn p e.ref) (jE ev env e.kids s).1 (jE ev env e.kids s).2
 else if e.k=4 then (zf true (jE ev env e.kids s).2 (opV e.n (jE ev env e.kids s).1),(jE ev env e.kids s).2)
 else if e.k=7 then (zf (fl==1) (jE ev env e.kids s).2 (.mk 2 0 (jE ev env e.kids s).1),(jE ev env e.kids s).2)
 else if e.k=9 then (zf (fl==1) (jE ev env e.kids s).2 (.mk 3 e.n (jE ev env e.kids s).1),(jE ev env e.kids s).2)
 else (zf (fl==1) (jE ev env e.kids s).2 (.mk 4 0 (jE ev env e.kids s).1),(jE ev env e.kids s).2)
def zRo (v:Val):Prop:=256<zD6 v∨24<zCb v
instance (v:Val):Decidable (zRo v):=by unfold zRo; infer_instance
abbrev zGI:Int:=18
abbrev zFY:Int:=4
def zDH (r:Val×XS):XS:=if r.2.fail=0∧zRo r.1 then {r.2 with fail:=zFY} else r.2
def zR6 (fl:Nat)(r:Val×XS):Val×XS:=(zf (fl==2) (zDH r) r.1,zDH r)
def zCE (e:Exp)(s:XS):XS:={s with fuel:=s.fuel-1,ns:=s.ns++[e.id]}
def zAH (p:Prg)(fl:Nat):Nat→Evl
 | 0,_,_,s=>if s.fail≠0 then (vz,s) else (vz,{s with fail:=zGI})
 | m+1,e,env,s =>
  if s.fail≠0 then (vz,s) else if s.fuel≤0 then (vz,{s with fail:=zGI})
  else zR6 fl (qA p fl (zAH p fl m) e env (zCE e s))
theorem zJY {σ τ : St}(hk:zBv σ τ){j:Nat}{o:AObj}(h : σ[j]?=some o)(hn:o≠AObj.rsv):jU τ [j] [o] = τ:=by
 have h1:=hk j o h hn;have hlt:j < τ.length:=by
  by_cases hl:j < τ.length
  ·exact hl
  ·rw[List.getElem?_eq_none (by omega)]at h1; cases h1
 rw[List.getElem?_eq_getElem hlt]at h1;simp only[jU];injection h1 with h1
 rw[←h1,List.append_nil];exact List.set_getElem_self hlt
theorem zA0.mono {hs:List Hd}{own:Int}{f:FuncId}{m:Mk}{args:List A}{env:List Bnd}{t:Typ}{c c':Int}(h:zA0 hs own f m args env t c)(hc:c≤c'):zA0 hs own f m args env t c':=by obtain⟨e,m',h1,h2,h3,h4,h5⟩:=h;exact⟨e,m',h1,h2.mono hc,h3,h4,h5⟩
theorem zUK {hs:List Hd}{R:Nat}{c depth:Int}{Q:Nat→Prop}{len:Nat}(hk:zBa hs R c depth Q len)(hc:0≤c)(envs:Nat→List Bnd)(t:Typ){r:Nat}(hr:TyOk hs r t)(hQ:Q r)
 (m:Mk)(hx:Cx hs R m)(he:∀j,EnvOk hs R m.temp (envs j))(h1:∀j,0<(envs j).length)(h2:∀j,(envs j).length≤len):∀(k:Nat),Lim m (k*(c+1)) →
  ∃(es:List Exp) (ns:List ByteArray) (ms:Nat→Mk),es.length=k∧ns.length=k∧ms 0=m∧(∀j≤k,Adv m (ms j) (j*(c+1)))∧Seg m.temp (ms k).temp (jA es) ∧
   ∀(j:Nat) (hj:j<es.length) (hj':j<ns.length),∃mm:Mk,Ret Tryz.prog yM [.ptr 0 0,.agg (zB t),.sl (envs j).length (zM (envs j)),int depth] (mkS (ms j)) (.agg (zF es[j])) (mkS mm) ∧
    Ret Tryz.prog 81 [.ptr 0 0] (mkS mm) (.lit (.string ns[j])) (mkS (ms (j+1)))∧WT hs m.own (envs j) es[j] t∧es[j].num0:=by
 intro k;induction k with
 | zero =>
  intro hl;refine⟨[],[],fun _=>m,rfl,rfl,rfl,fun j hj=>?_,Seg.nil,fun j hj=>by simp at hj⟩;have:j=0:=by simpa using hj
  subst this;exact(Adv.zero m).mono (by simp)
 | succ k ih =>
  intro hl;have e1:(((k+1:Nat):Int))*(c+1)=k*(c+1)+(c+1):=by rw[Int.natCast_add,Int.add_mul]; simp
  rw[e1]at hl;obtain⟨es,ns,ms,q0,q1,q2,q3,q4,q5⟩:=ih (hl.mono (by omega));have a1:=q3 k (Nat.le_refl _);have hl1:=Lim.adv (c:=k*(c+1)) (c':=c+1) hl a1;obtain⟨e,mm,g1,g2,g3,g4,g5⟩:=hk (ms k) r t (envs k) (hx.adv a1) (hl1.mono (by omega)) hr hQ ((he k).mono a1.temp1) (h1 k) (h2 k);have hl2:=Lim.adv (c:=c) (c':=1) hl1 g2;obtain⟨s,hs⟩:=zIT mm hl2.name1 (by have:=hl2.name2; omega);have a2:=g2.trans (zG6 mm);refine⟨es++[e],ns++[s],fun j=>if j≤k then ms j else {mm with name:=mm.name+1},by simp[q0],by simp[q1],by simp[q2],fun j hj=>?_,?_,fun j hj hj'=>?_⟩
  ·by_cases hle:j≤k
   ·simp only[hle,if_true]; exact q3 j hle
   ·have:j=k+1:=by omega
    subst this;simp only[show ¬(k+1≤k) by omega,if_false];rw[e1];exact a1.trans a2
  ·rw[zDm];simp only[show ¬(k+1≤k) by omega,if_false];exact q4.append g4 a1.temp1 g2.temp1
  ·simp only[List.length_append,List.length_singleton,q0]at hj;by_cases hlt:j<k
   ·have hjes:j<es.length:=by omega
    have hjns:j<ns.length:=by omega
    rw[List.getElem_append_left hjes,List.getElem_append_left hjns];simp only[show j≤k by omega,if_true,show j+1≤k by omega];exact q5 j hjes hjns
   ·have:j=k:=by omega
    subst this;rw[List.getElem_append_right (by omega),List.getElem_append_right (by omega)];simp only[Nat.le_refl,if_true,show ¬(j+1≤j) by omega,if_false,Nat.sub_self,q0,q1,List.getElem_cons_zero];rw[a1.own]at g3;exact⟨mm,g1,hs,g3,g5⟩
theorem zUQ {hs:List Hd}{R:Nat}{m:Mk}{env:List Bnd}{c depth:Int}{Q:Nat→Prop}{len:Nat}(hc:0≤c)(hl:Lim m (c+1))(x:Int)(hx0:0≤x)(hx1:x≤65536)(k:Nat)(h:k<hs.length)(h1:∀(j:Nat)(hj:j<k),hs[j].id≠hs[k].id)
 (h2:hs[k].kind=1)(h3:0<hs[k].slots.length)(h3':hs[k].slots.length≤6){r:Nat}(h4:∀s∈hs[k].slots,TyOk hs r s.typ)(hQ:Q r)
 (hk:zBa hs R c (depth-1) Q len)(hx:Cx hs R m)(he:EnvOk hs R m.temp env)(h5:0<env.length)(h6:env.length≤len)(hd1 : -1000≤depth)(hd2:depth≤1000) :
 zA0 hs m.own zMl m [.ptr 0 0,.agg (zB (zAy hs[k].id)),.sl env.length (zM env),int x,int depth] env (zAy hs[k].id) (c+1):=by
 obtain⟨hm,hdv,hhd⟩:=zZb hx h h1;generalize hD:m.defs[k]=D at hdv hhd;have eid:D.id=hs[k].id:=by rw[←hhd]; rfl
 have eslots:D.slots=hs[k].slots:=by rw[←hhd]; rfl
 have ekind:D.kind=1:=by rw[←h2,←hhd]; rfl
 have hdl:=hx.dlen;have hd100:=hx.len;have wd:IntKind.i64.wrap (depth-1)=depth-1:=IntWalk.i64_in _ (by omega);obtain⟨j,hj,hj1⟩:∃j:Nat,j<D.slots.length∧(j:Int)=if depth<0 then 0 else x.tmod D.slots.length:=by
  rw[eslots];by_cases hd:depth<0
  ·exact⟨0,h3,by rw[if_pos hd]; rfl⟩
  ·refine⟨(x % hs[k].slots.length).toNat,?_,?_⟩
   ·have:=Int.emod_lt_of_pos x (b:=(hs[k].slots.length:Int)) (by omega);have:=Int.emod_nonneg x (b:=(hs[k].slots.length:Int)) (by omega);omega
   ·rw[if_neg hd,tmN hx0];have:=Int.emod_nonneg x (b:=(hs[k].slots.length:Int)) (by omega);omega
 have hjs:j<hs[k].slots.length:=by rw[←eslots]; exact hj
 have hty:D.slots[j].typ=hs[k].slots[j].typ:=by simp only[eslots]
 obtain⟨e,m',g1,g2,g3,g4,g5⟩:=hk m r D.slots[j].typ env hx (hl.mono (by omega)) (by rw[hty]; exact h4 _ (List.getElem_mem hjs)) hQ he h5 h6;have hln:=Lim.adv (c:=c) (c':=1) hl g2;obtain⟨l1,l2,l3,l4,l5,l6,l7,l8⟩:=hln;refine⟨.mk ⟨0,0,m'.temp⟩ 9 j hs[k].id Typ.zero [e] [],{m' with temp:=m'.temp+1,left:=m'.left-1},?_,g2.trans (yL _),.case _ _ k h j hjs e h2 (hty▸g3),by simp only[tmps,jA,List.append_nil]; exact g4.append (Seg.one _) g2.temp1 (by omega),zCd (by simpa using g5)⟩;refine zH Tryz.func79 rfl zRt (rs:=[.cell 10 15 true]) (by kernel_rfl) ?_;unfold zOG;simp[mkS,mkB,zB];refine⟨_,_,yN 1,?_⟩;simp[mkS,mkB,zB,List.replicate];refine zQy (zOi m.mods m.defs hs[k].id (by omega)) [1] (by decide) (by simp[zKL]) (by simp[zKL]) (by simp[qF]) (fun τ hτ=>by
  have:=zJY hτ (j:=1) (o:=.row false 39 31 m.defs.length (qE m.defs)) (by simp) (by simp)
  simpa [zKL] using this) ?_
 rw[hdv];have hnil:D.slots≠[]:=fun e=>by rw[e]at hj; simp at hj
 have hdS:List.drop (j*11+4) (jT D.slots)=(zAi D.slots[j]++jT (D.slots.drop (j+1))).drop 4:=by rw[←List.drop_drop,jP hj]
 have hbS:j*11+4+5≤D.slots.length*11:=by omega
 by_cases hd:depth<0
 ·have hj0:j=0:=by rw[if_pos hd]at hj1; omega
  subst hj0;simp only[Nat.zero_mul,Nat.zero_add]at hdS hbS;simp[mkS,mkB,zO,ekind,hnil,hd,hj,hdS,hbS,zAi,wd];intro _;refine zN g1 [0,1] (by decide) (by simp[mkS,mkB]) (by simp[zB]) ?_;simp[mkS,mkB];refine zN (yC m' 9 0 [e] l3 (by omega) (by omega) l6) [0,1] (by decide) (by simp[mkS,mkB]) (by simp[zJ]) ?_;simp[mkS,mkB,zF];exact zG [0,1] 0 (by decide) (by simp) (by simp) (by simp[zF,zJ,eid])
 ·rw[if_neg hd]at hj1;simp[mkS,mkB,zO,ekind,hnil,hd,←hj1,hj,hdS,hbS,zAi,wd];intro _;refine zN g1 [0,1] (by decide) (by simp[mkS,mkB]) (by simp[zB]) ?_;simp[mkS,mkB];refine zN (yC m' 9 j [e] l3 (by omega) (by omega) l6) [0,1] (by decide) (by simp[mkS,mkB]) (by simp[zJ]) ?_;simp[mkS,mkB,zF];exact zG [0,1] 0 (by decide) (by simp) (by simp) (by simp[zF,zJ,eid])
set_option maxHeartbeats 2000000 in
theorem zXf {hs:List Hd}{R:Nat}{m:Mk}{env:List Bnd}{c depth:Int}{Q:Nat→Prop}{len:Nat}(hc:0≤c)(hl:Lim m (6*c+1))(x:Int)(k:Nat)(h:k<hs.length)(h1:∀(j:Nat)(hj:j<k),hs[j].id≠hs[k].id)
 (h2:hs[k].kind=0)(h3':hs[k].slots.length≤6){r:Nat}(h4:∀s∈hs[k].slots,TyOk hs r s.typ)(hQ:Q r)
 (hk:zBa hs R c (depth-1) Q len)(hx:Cx hs R m)(he:EnvOk hs R m.temp env)(h5:0<env.length)(h6:env.length≤len)(hd1 : -1000≤depth)(hd2:depth≤1000) :
 zA0 hs m.own zMl m [.ptr 0 0,.agg (zB (zAy hs[k].id)),.sl env.length (zM env),int x,int depth] env (zAy hs[k].id) (6*c+1):=by
 obtain⟨hm,hdv,hhd⟩:=zZb hx h h1;generalize hD:m.defs[k]=D at hdv hhd;have eid:D.id=hs[k].id:=by rw[←hhd]; rfl
 have eslots:D.slots=hs[k].slots:=by rw[←hhd]; rfl
 have ekind:D.kind=0:=by rw[←h2,←hhd]; rfl
 have hdl:=hx.dlen;have hd100:=hx.len;have wd:IntKind.i64.wrap (depth-1)=depth-1:=IntWalk.i64_in _ (by omega);have hS6:D.slots.length≤6:=by rw[eslots]; exact h3'
 have hsc:((D.slots.length:Int))*c≤6*c:=Int.mul_le_mul_of_nonneg_right (by omega) hc;obtain⟨es,ms,q1,q2,q3,q4,q5⟩:=zQC hk hc env h5 h6 (D.slots.map (·.typ)) m hx (hl.mono (by rw[List.length_map]; omega)) (fun t ht=>by obtain⟨s,hs',rfl⟩:=List.mem_map.1 ht;exact⟨r,h4 s (eslots▸hs'),hQ⟩) he
 rw[List.length_map]at q1 q3 q4;have ha:=(q3 D.slots.length (Nat.le_refl _)).mono hsc;obtain⟨l1,l2,l3,l4,l5,l6,l7,l8⟩:=Lim.adv (c:=6*c) (c':=1) hl ha;refine⟨.mk ⟨0,0,(ms es.length).temp⟩ 7 0 hs[k].id Typ.zero es [],{ms es.length with temp:=(ms es.length).temp+1,left:=(ms es.length).left-1},?_,q1▸ha.trans (yL _),.record _ _ k h es h2 (by rw[←eslots,q1]) fun j hj=>?_,
  by simp only[tmps]; rw[q1]; exact q4.append (Seg.one _) ha.temp1 (by omega),zCd (zHf rfl fun j hj=>(q5 j hj (by rw[List.length_map]; omega)).2.2)⟩
 ·rw[←eid]at hdv ⊢;refine zH Tryz.func79 rfl zRt (rs:=[.cell 10 15 true]) (by kernel_rfl) ?_;unfold zOG;simp[mkS,mkB,zB];refine⟨_,_,yN 1,?_⟩;simp[mkS,mkB,zB,List.replicate];refine zQy (zOi m.mods m.defs D.id (by omega)) [1] (by decide) (by simp[zKL]) (by simp[zKL]) (by simp[qF]) (fun τ hτ=>by
   have:=zJY hτ (j:=1) (o:=.row false 39 31 m.defs.length (qE m.defs)) (by simp) (by simp)
   simpa [zKL] using this) ?_
  rw[hdv];simp[mkS,mkB,zO,ekind];refine qY (S:=Nat) (fun i=>[(0,.ptr 0 0),(2,.sl env.length (zM env)),(4,int depth),(6,.ptr 2 0),(10,.ptr 3 0),(15,.ptr 4 0),(20,.row 5 i),(21,int i)])
   (fun i=>mkS (ms i)++[.box (zB (zAy D.id)),.box (zF Exp.zero),.box (zO D),.row false 37 15 i (qU (es.take i))]) (fun i=>i≤es.length) (fun i=>es.length-i) 0 (by simp)
   ((yK (t:=20) (by simp) 37 15).trans (zR [0,1,2,3,4,5] 0 (by decide) (by simp) (by simp[mkS,mkB,zB,zAy,q2,zF,Exp.zero,Id.zero,Typ.zero,zO,ekind]) (by simp))) ?_
  intro i hi;have hms:=q3 i (by omega);by_cases hi2:i<es.length
  ·have hid:i<D.slots.length:=by omega
   obtain⟨g1,_,_⟩:=q5 i hi2 (by rw[List.length_map]; omega);rw[List.getElem_map]at g1;have hst:qU (es.take (i+1))=qU (es.take i)++zF es[i]:=zAd hi2;have hw:IntKind.i64.wrap ((i:Int)+1)=(i:Int)+1:=IntWalk.i64_in _ (by omega);have hdS:List.drop (i*11+4) (jT D.slots)=(zAi D.slots[i]++jT (D.slots.drop (i+1))).drop 4:=by rw[←List.drop_drop,jP hid]
   have hbS:i*11+4+5≤D.slots.length*11:=by omega
   simp[mkS,mkB,zO,hid,hdS,hbS,zAi,wd];intro _;refine zN g1 [0,1] (by decide) (by simp[mkS,mkB]) (by simp[zB]) ?_;simp[mkS,mkB];refine⟨⟨by simp[maxLen]; omega,by omega⟩,?_⟩;exact zT (i+1) hi2 (by omega) (zR [0,1,2,3,4,5] 0 (by decide) (by simp) (by simp[mkS,mkB,zB,zAy,zF,Exp.zero,Id.zero,Typ.zero,hst,zO]) (by simp[hw]))
  ·have hie:i=es.length:=by omega
   subst hie;have hid:¬es.length<D.slots.length:=by omega
   rw[←q1]at l3 l4 l5 l6;simp[mkS,mkB,zO,hid];intro _;refine⟨qR [(0,.ptr 0 0),(10,.ptr 3 0),(15,.ptr 4 0),(20,.sl es.length (qU es))],mkS (ms es.length)++[.box (zB (zAy D.id)),.box (zF Exp.zero),.box (zO D)],zR [0,1,2,3,4] 1 (by decide) (by simp) (by simp[mkS,mkB,zB,zAy,zF,Exp.zero,Id.zero,Typ.zero,zO]) (by simp),?_⟩;simp[mkS,mkB];refine zN (yC (ms es.length) 7 0 es l3 (by omega) (by omega) l6) [0,1] (by decide) (by simp[mkS,mkB]) (by simp) ?_;simp[mkS,mkB,zF,zO];exact zG [0,1] 0 (by decide) (by simp) (by simp) (by simp[zF])
 ·have:=(q5 j hj (by rw[List.length_map]; omega)).2.1;rw[List.getElem_map]at this
  simpa only[eslots] using this
theorem zUS {hs:List Hd}{R:Nat}{m:Mk}{env:List Bnd}{c depth:Int}{Q:Nat→Prop}{len:Nat}(hc:0≤c)(hl:Lim m (6*c+1))(x:Int)(hx0:0≤x)(hx1:x≤65536)(t:Typ){r:Nat}(hr:TyOk hs r t)(hQ:∀r'<r,Q r')
 (hk:zBa hs R c (depth-1) Q len)(hx:Cx hs R m)(he:EnvOk hs R m.temp env)(h5:0<env.length)(h6:env.length≤len)(hd1 : -1000≤depth)(hd2:depth≤1000) :
 zA0 hs m.own zMl m [.ptr 0 0,.agg (zB t),.sl env.length (zM env),int x,int depth] env t (6*c+1):=by
 cases hr with
 | int r=>exact(zXe (R:=R) (hl.mono (by omega)) x depth hx0 hx1).mono (by omega)
 | bool r=>exact(zUP (hl.mono (by omega)) x depth hx0).mono (by omega)
 | list r t h=>exact(zUR hc (hl.mono (by omega)) x hx0 t h (hQ r (by omega)) hk hx he h5 h6 hd1 hd2).mono (by omega)
 | dfn r k h h1 h2 h3 h4 =>
  rcases h2 with h2 | ⟨h2,h2'⟩
  ·exact zXf hc hl x k h h1 h2 h3 h4 (hQ r (by omega)) hk hx he h5 h6 hd1 hd2
  ·exact(zUQ hc (hl.mono (by omega)) x hx0 hx1 k h h1 h2 h2' h3 h4 (hQ r (by omega)) hk hx he h5 h6 hd1 hd2).mono (by omega)
@[simp] theorem qMr:zA Tryz.prog 136=true:=by kernel_rfl
@[simp] theorem qM2:zA Tryz.prog 98=true:=by kernel_rfl
end Go.Proofs.YthglhccibdlccaaGreatDoor

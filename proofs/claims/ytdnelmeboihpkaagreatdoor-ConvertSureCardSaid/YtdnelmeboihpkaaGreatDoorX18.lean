/-
  Paths of converters and values that follow them, as data.
  The converters of a program as edges, in the order of their IDs.
  Following a path: with more fuel, and in two parts.
  The paths of a program: what the reference lists.
  There are few paths.
  convert.follow and Along.
  The reference's Leads, IsPath, follow and Along.
  convert.order and edges.
  convert.reaches: a search that goes breadth first.
  convert.paths: the recursive closure that visits.
-/
import Derived.Test.YtdnelmeboihpkaaGreatDoorX14
import Derived.Test.YtdnelmeboihpkaaGreatDoorX17
import Derived.Test.YtdnelmeboihpkaaGreatDoorX12
import Derived.Test.YtdnelmeboihpkaaGreatDoorX13
set_option linter.unusedVariables false
set_option maxHeartbeats 8000000
set_option maxRecDepth 100000
set_option linter.unusedSimpArgs false
open Go.Proofs.Tryz (prog)
namespace Go.Proofs.YtdnelmeboihpkaaGreatDoor
open Go.Abs
theorem zRq {r:Val×XS}(h:(zDi r).fail=0):¬zJD r.1∧r.2.fail=0:=by
 unfold zDi at h;split at h
 ·cases h
 ·rename_i h';exact⟨fun hb=>h' ⟨h,hb⟩,h⟩
theorem zUh (p:Prg)(fl n:Nat)(e:Exp)(V:List EVar)(s:XS)(h:(zAq p fl n e V s).2.fail=0):¬zJD (zAq p fl n e V s).1:=by
 cases n with
 | zero =>
  rw[zAq]at h;split at h
  ·rename_i h'; exact(h' h).elim
  ·cases h
 | succ n =>
  rw[zAq]at h⊢;split at h
  ·rename_i h'; exact(h' h).elim
  ·rename_i h0;rw[if_neg h0];split at h
   ·cases h
   ·rename_i h1;rw[if_neg h1];have:=zRq (show (zDi _).fail=0 from h);show ¬zJD (zf (fl==2) (zDi _) _);rw[zFx (show (zDi _).fail=0 from h)];exact this.1
section
variable {p:Prg}{hs:List Hd}(hf:Fit p hs)
include hf
theorem zQi (id:Id)(vs:List Val)(hz:∀v∈vs,qD v≤256∧zAs v≤24)(fuel:Int) :
 (qD (yR p id vs fuel).1≤256∧zAs (yR p id vs fuel).1≤24)∧0≤(yR p id vs fuel).2.1∧(yR p id vs fuel).2.1≤max fuel 0∧0≤(yR p id vs fuel).2.2∧(yR p id vs fuel).2.2≤100:=by
 have hvz:qD vz≤256∧zAs vz≤24:=by decide
 unfold yR;split
 ·exact⟨hvz,by simp only; omega⟩
 ·rename_i d hd;by_cases h1:zQ1 d.kind=false
  ·rw[if_pos h1]; exact⟨hvz,by simp only; omega⟩
  rw[if_neg h1];by_cases h2:vs.length≠d.slots.length
  ·rw[if_pos h2]; exact⟨hvz,by simp only; omega⟩
  rw[if_neg h2];by_cases h3:zB8 p (d.slots.map Slt.typ) vs=false
  ·rw[if_pos h3]; exact⟨hvz,by simp only; omega⟩
  rw[if_neg h3];have hfl:=zZd p d vs fuel;unfold Fl at hfl;by_cases h0:(zF3 p d vs fuel).2.fail=0
  ·rw[if_neg (by simp[h0])];have hg:0≤fuel:=Int.not_lt.1 fun hn=>by
    have e2:(zF3 p d vs fuel).2.fail=zFK:=by unfold zF3 zB5; rw[show fuel.toNat=0 by omega]; simp[zAq]
    rw[h0]at e2;cases e2
   have he:EqF (zE4 p d vs fuel) (zF3 p d vs fuel):=by unfold zE4 zF3;exact zI1 (zIN 1 2 fuel.toNat) d ⟨rfl,rfl⟩ fun _=>rfl
   have hc:=zWM p d vs fuel;have hu:=zYP p d vs fuel hg;rw[he.1.1]at hc hu;obtain⟨_,_,_,snd,sty⟩:=hf.slots d (zAu hd).1;have hft:zB8 p (d.slots.map Slt.typ) vs=true:=by simpa using h3
   have hl:vs.length=d.slots.length:=by omega
   have hty:TyL p (d.slots.map Slt.typ) vs:=TyL.of (by simpa using hl) fun j hj=>by
    rw[jBk];refine zSx hf (sty _ (jA3 _)) _ ?_;have:=zGx hft j (by simp; omega) (by omega)
    rwa [jBk]at this
   have hbB:zGV d=true:=zTf (by simpa using h1);have hrun:zF3 p d vs fuel=zAq p 2 fuel.toNat d.body (zCF d.slots vs) ⟨fuel,0,[d.id],[]⟩:=by unfold zF3 zB5; simp
   have hsz:=zHY hf.bods 2 fuel.toNat d.body _ _ ⟨fuel,0,[d.id],[]⟩ d.res (hf.bods _ d hd hbB) (EnvT.args hty fun v hv=>(hz v hv).1) (by rw[←hrun]; exact h0);have hbig:=zUh p 2 fuel.toNat d.body (zCF d.slots vs) ⟨fuel,0,[d.id],[]⟩ (by rw[←hrun]; exact h0);rw[←hrun]at hsz hbig;have hdp:zAs (zF3 p d vs fuel).1≤24:=by have:=zKr _ (by omega:qD (zF3 p d vs fuel).1≤100000000);unfold zJD at hbig;omega
   exact⟨⟨hsz.2,hdp⟩,by simp only; omega⟩
  ·rw[if_pos h0];refine⟨hvz,?_⟩;simp only;omega
end
def zZ (p:Prg):List Id→Val→Int→Val×Int×Int
 | [],v,_=>(v,0,0)
 | id::l,v,fuel=>if (yR p id [v] fuel).2.2≠0 then (vz,0,(yR p id [v] fuel).2.2)
  else if (zZ p l (yR p id [v] fuel).1 (fuel-(yR p id [v] fuel).2.1)).2.2≠0 then (vz,0,(zZ p l (yR p id [v] fuel).1 (fuel-(yR p id [v] fuel).2.1)).2.2)
  else ((zZ p l (yR p id [v] fuel).1 (fuel-(yR p id [v] fuel).2.1)).1,(yR p id [v] fuel).2.1+(zZ p l (yR p id [v] fuel).1 (fuel-(yR p id [v] fuel).2.1)).2.1,0)
section
variable {p:Prg}{hs:List Hd}(hf:Fit p hs)
include hf
end
def zJG (p:Prg)(l:List Id)(v:Val)(steps fuel:Int):Val×Int×Int :=
 if (zZ p l v (fuel-steps)).2.2≠0 then (vz,0,(zZ p l v (fuel-steps)).2.2) else ((zZ p l v (fuel-steps)).1,steps+(zZ p l v (fuel-steps)).2.1,0)
theorem zWg (p:Prg)(v:Val)(steps fuel:Int):zJG p [] v steps fuel=(v,steps,0):=by simp[zJG,zZ]
theorem zWf {p:Prg}{id:Id}{l:List Id}{v:Val}{steps fuel:Int}(h:(yR p id [v] (fuel-steps)).2.2≠0):zJG p (id::l) v steps fuel=(vz,0,(yR p id [v] (fuel-steps)).2.2):=by simp[zJG,zZ,h]
theorem zTH {p:Prg}{id:Id}{l:List Id}{v:Val}{steps fuel:Int}(h:(yR p id [v] (fuel-steps)).2.2=0) :
 zJG p (id::l) v steps fuel=zJG p l (yR p id [v] (fuel-steps)).1 (steps+(yR p id [v] (fuel-steps)).2.1) fuel:=by
 unfold zJG;rw[show fuel-(steps+(yR p id [v] (fuel-steps)).2.1)=fuel-steps-(yR p id [v] (fuel-steps)).2.1 by omega];simp only[zZ,h,ne_eq,not_true,if_false];by_cases h2:(zZ p l (yR p id [v] (fuel-steps)).1 (fuel-steps-(yR p id [v] (fuel-steps)).2.1)).2.2=0
 ·simp[h2,Int.add_assoc]
 ·simp[h2]
theorem zTI (p:Prg)(l:List Id)(v:Val)(fuel:Int):zJG p l v 0 fuel=if (zZ p l v fuel).2.2≠0 then (vz,0,(zZ p l v fuel).2.2) else ((zZ p l v fuel).1,(zZ p l v fuel).2.1,0):=by simp[zJG]
theorem zQR (p:Prg):∀(l:List Id) (v:Val) (fuel:Int),(zZ p l v fuel).2.2≠0→(zZ p l v fuel).1=vz∧(zZ p l v fuel).2.1=0
 | [],v,fuel,h=>(h rfl).elim
 | id::l,v,fuel,h=>by
  unfold zZ at h⊢;split
  ·exact⟨rfl,rfl⟩
  ·rename_i h1;rw[if_neg h1]at h;split
   ·exact⟨rfl,rfl⟩
   ·rename_i h2;rw[if_neg h2]at h;exact(h rfl).elim
theorem zRb (p:Prg)(l:List Id)(v:Val)(fuel:Int):zJG p l v 0 fuel=zZ p l v fuel:=by
 rw[zTI];by_cases h:(zZ p l v fuel).2.2=0
 ·rw[if_neg (by simp[h])];exact Prod.ext rfl (Prod.ext rfl h.symm)
 ·rw[if_pos h];have:=zQR p l v fuel h;exact Prod.ext this.1.symm (Prod.ext this.2.symm rfl)
def zEF (p:Prg)(l:List Id)(v:Val)(fuel:Int):Val×Int×Int :=
 if l=[] then (v,0,0)
 else if zGQ p l=false then (vz,0,1)
 else match zA1 p (l.getD 0 .zero)with
  | some a=>if zAL p a.1 v=false then (vz,0,1) else zZ p l v fuel
  | none=>(vz,0,1)
def jS (d:Dfn):Option Edg:=if d.kind=5 then (match d.slots with | [s]=>if s.typ.k=3∧d.res.k=3 then some ⟨d.id,s.typ.id,d.res.id⟩ else none | _=>none) else none
theorem zEt {d:Dfn}{e:Edg}(h:jS d=some e):e.id=d.id:=by
 unfold jS at h;split at h
 ·split at h
  ·split at h
   ·cases h; rfl
   ·cases h
  ·cases h
 ·cases h
def zOF (p:Prg):List Id:=zWQ ((p.defs.filter fun d=>(zA1 p d.id).isSome).map (·.id))
def zAa (p:Prg):List Edg:=(zOF p).filterMap fun x=>(qW p.defs x).bind jS
theorem zKy {p:Prg}{hs:List Hd}(hf:Fit p hs)(e:Edg):e∈zAa p↔∃d∈p.defs,jS d=some e:=by
 unfold zAa zOF;rw[jCe];constructor
 ·rintro⟨x,_,h⟩;rw[jA5]at h;obtain⟨d,h1,h2⟩:=h;exact⟨d,(zAu h1).1,h2⟩
 ·rintro⟨d,hd,he⟩;obtain⟨i,hi,rfl⟩:=jB0 hd;have hfd:=zGw hf.nd hi;refine⟨p.defs[i].id,?_,by rw[hfd]; exact he⟩;rw[zPY,jAg];refine⟨p.defs[i],List.mem_filter.2 ⟨hd,?_⟩,rfl⟩;unfold zA1;rw[hfd];unfold jS at he;simp only;split at he
  ·rename_i hk;rw[if_pos hk];split at he
   ·rename_i s hs;rw[hs]; rfl
   ·cases he
  ·cases he
theorem zEk {p:Prg}:∀(l:List Id),((l.filterMap fun x=>(qW p.defs x).bind jS).map (·.id)).Sublist l
 | []=>by simp
 | x::l=>by
  rw[List.filterMap_cons];cases h:(qW p.defs x).bind jS with
  | none=>exact(zEk l).cons _
  | some e =>
   rw[jA5]at h;obtain⟨d,h1,h2⟩:=h;have:=zEt h2;rw[(zAu h1).2]at this;simp only[jA9,this];exact(zEk l).cons_cons _
theorem zTv (p:Prg):SS ((zAa p).map (·.id)):=(zSR _).sublist (zEk _)
theorem zNy {p:Prg}{hs:List Hd}(hf:Fit p hs){S:List Edg}(h1:SS (S.map (·.id)))(h2:∀e,e∈S↔∃d∈p.defs,jS d=some e):S=zAa p:=by
 have hid:S.map (·.id)=(zAa p).map (·.id):=h1.unique (zTv p) fun x=>by simp only[jAg,h2,zKy hf]
 have hinj:∀a b:Edg,(∃d∈p.defs,jS d=some a)→(∃d∈p.defs,jS d=some b)→a.id=b.id→a=b:=by rintro a b ⟨d,hd,ha⟩ ⟨d',hd',hb⟩ e;rw[zEt ha,zEt hb]at e;obtain⟨i,hi,rfl⟩:=jB0 hd;obtain⟨j,hj,rfl⟩:=jB0 hd';have hi':=zGw hf.nd hi;have hj':=zGw hf.nd hj;rw[e,hj']at hi';rw[←jAz hi',hb]at ha;exact(jAz ha).symm
 have key:∀(A B:List Edg),(∀e∈A,∃d∈p.defs,jS d=some e)→(∀e∈B,∃d∈p.defs,jS d=some e)→A.map (·.id)=B.map (·.id)→A=B:=by
  intro A;induction A with
  | nil=>intro B _ _ h; cases B with
   | nil=>rfl
   | cons b B=>simp at h
  | cons a A ih =>
   intro B hA hB h;cases B with
   | nil=>simp at h
   | cons b B =>
    simp only[jA9,jAu]at h;rw[hinj a b (hA a (by simp)) (hB b (by simp)) h.1,ih B (fun e he=>hA e (by simp[he])) (fun e he=>hB e (by simp[he])) h.2]
 exact key _ _ (fun e he=>(h2 e).1 he) (fun e he=>(zKy hf e).1 he) hid
def zSn (p:Prg)(x:Id):Option Edg:=match zA1 p x with
 | some (a,b)=>if a.k=3∧b.k=3 then some ⟨x,a.id,b.id⟩ else none
 | none=>none
theorem zV6 (p:Prg)(x:Id):(qW p.defs x).bind jS=zSn p x:=by
 unfold zSn zA1;cases h:qW p.defs x with
 | none=>rfl
 | some d =>
  have hx:=(zAu h).2;simp only[Option.bind_some,jS];split
  ·split
   ·rename_i s hs;simp only[hx,hs]
   ·rename_i hs;split
    ·rename_i hs';split at hs'
     ·rename_i s e; exact(hs s e).elim
     ·cases hs'
    ·rfl
  ·rfl
theorem zTu (p:Prg):zAa p=(zOF p).filterMap (zSn p):=by
 unfold zAa
 congr 1
 funext x;exact zV6 p x
def zTR (n:Nat):Nat:=[1,1,2,3,4,6,9,12].getD n 0
theorem zTS:∀r,r≤7→∀o,o≤r→o*zTR (r-o)≤zTR r:=by decide
theorem zKF:∀r,r≤7→1≤zTR r∧zTR r≤64:=by decide
def zFY (L:List Edg)(old:List Id):Nat:=(L.filter fun e=>decide (e.fro∉old)).length
theorem zKL (old:List Id)(a:Id)(h:a∉old):∀L:List Edg,zFY L old=zFY L (old++[a])+(L.filter fun e=>decide (e.fro=a)).length
 | []=>by simp[zFY]
 | e::L=>by
  have ih:=zKL old a h L;unfold zFY at ih ⊢;simp only[List.filter_cons];by_cases h1:e.fro=a
  ·have e1:decide (e.fro∉old)=true:=decide_eq_true (by rw[h1]; exact h);have e2:decide (e.fro∉old++[a])=false:=decide_eq_false (by simp[h1]);have e3:decide (e.fro=a)=true:=decide_eq_true h1;rw[e1,e2,e3];simp only[if_true,jAe,if_false,jAl];omega
  ·have e3:decide (e.fro=a)=false:=decide_eq_false h1;by_cases h2:e.fro∈old
   ·have e1:decide (e.fro∉old)=false:=decide_eq_false (by simp[h2]);have e2:decide (e.fro∉old++[a])=false:=decide_eq_false (by simp[h2]);rw[e1,e2,e3];simp only[jAe,if_false];exact ih
   ·have e1:decide (e.fro∉old)=true:=decide_eq_true h2;have e2:decide (e.fro∉old++[a])=true:=decide_eq_true (by simp[h1,h2]);rw[e1,e2,e3];simp only[if_true,jAe,if_false,jAl];omega
theorem zOT {α β : Type}(f : α→List β)(q : α→Bool)(B:Nat):∀L:List α,(∀x∈L,(f x).length≤if q x then B else 0)→(L.flatMap f).length≤(L.filter q).length*B
 | [],_=>by simp
 | x::L,h=>by
  have ih:=zOT f q B L fun y hy=>h y (by simp[hy])
  have hx:=h x (by simp);rw[jBg,jA7,List.filter_cons];cases hq:q x
  ·rw[hq]at hx;simp only[jAe,if_false]at hx ⊢;omega
  ·rw[hq]at hx;simp only[if_true]at hx ⊢;rw[jAl,jBj];omega
theorem zMh {L:List Edg}{to:Id}:∀(n:Nat) (at_:Id) (old:List Id),at_∉old→zFY L old≤7→(zAy L to n at_ (old++[at_])).length≤zTR (zFY L old)
 | 0,at_,old,_,h7=>by have:=zKF _ h7;unfold zAy;split<;>simp<;>omega
 | n+1,at_,old,ha,h7=>by
  have hp:=zKF _ h7;unfold zAy;split
  ·simp; omega
  ·have hst:=zKL old at_ ha L
   have hg:=zTS _ h7 (L.filter fun e=>decide (e.fro=at_)).length (by omega);have hsub:zFY L old-(L.filter fun e=>decide (e.fro=at_)).length=zFY L (old++[at_]):=by omega
   rw[hsub]at hg;refine jBt (zOT _ (fun e=>decide (e.fro=at_)) (zTR (zFY L (old++[at_]))) L fun e he=>?_) hg;split
   ·rename_i hc;have:=zMh (L:=L) (to:=to) n e.to (old++[at_]) hc.2 (by omega)
    simpa [hc.1] using this
   ·simp
theorem zUm {p:Prg}(h:(zAa p).length≤7)(fro to:Id)(n:Nat):(zAy (zAa p) to n fro [fro]).length≤64:=by
 have hl:zFY (zAa p) []≤7:=by have:=jDe (fun e:Edg=>decide (e.fro∉([]:List Id))) (zAa p);unfold zFY; omega
 have:=zMh (L:=zAa p) (to:=to) n fro [] (by simp) hl;have h2:=(zKF _ hl).2;simp only[jC8]at this;omega
def zZu:K:=G [kO 4 0,kO 6 2,kZ 8 [ki,ki,kl],kMi 9 0,kMi 10 0] (G [kMi 11 0] (Z (G [M 17 1,kN 18 17,kMi 19 0] (K.block 0 (K.loop (G [kB 20 19 18 .lss] (Z (Y 20 ks (K.exit 0)) (Z (K.block 1 (G [kX 21 17 19 3,J 22 21 3,kZ 13 [ki,ki,ki],S 13 22 3] (G [J 24 4 2,J 25 13 3,J 26 6 3,kd 27 46 3 1 [ki,ki,kl] [(0,3,(kt 26))],M 28 3,M 29 11,kB 30 28 29 .sub,kC 31 29 [(kt 24),(kt 25),(kt 27),(kt 30)],M 23 31,kE 32 23 0,kE 33 23 1,kE 34 23 2,kZ 14 [ki,ki,kl],S 14 32 3,M 15 33,M 16 34] (Z (G [M 35 16,kQi 36 35 0 true] (Y 36 (G [kb 37 [ki,ki,kl] [],M 38 16,S 8 37 3,kMi 9 0,M 10 38] kr) ks)) (G [J 39 14 3,S 6 39 3] (K.ops [M 40 11,M 41 15,kB 42 40 41 .add,M 11 42])))))) (K.ops [kBi 43 19 1 .add,M 19 43]))))))) (G [J 44 6 3,M 45 11,S 8 44 3,M 9 45,kMi 10 0] kr)))
theorem qGO:zO prog Tryz.f45.ntmps (Tryz.f45.body.getD .skip)=some zZu.erase:=by kernel_rfl
@[simp] theorem qK0:zA prog 45=true:=by kernel_rfl
def zZo:K:=G [kO 4 0,kO 6 2,kZ 8 [ki,ki,kl],kMi 9 0,kMi 10 0] (Z (G [M 14 1,kN 15 14,kQi 16 15 0 false] (Y 16 (G [J 17 6 3,S 8 17 3,kMi 9 0,kMi 10 0] kr) ks)) (G [J 19 4 2,M 20 1,kC 21 44 [(kt 19),(kt 20)],M 18 21,kE 22 18 0,kE 23 18 1,kE 24 18 2,kZ 11 kz2,kZ 12 kz2,S 11 22 5,S 12 23 5,M 13 24] (Z (G [M 25 13,kR 26 25,M 27 26,T 27 false (J 28 4 2),T 27 false (J 29 11 5),T 27 false (J 30 6 3),T 27 false (kC 31 30 [(kt 28),(kt 29),(kt 30)]),T 27 false (kR 32 31),kPt 33 27 32] (Y 33 (G [kb 34 [ki,ki,kl] [],S 8 34 3,kMi 9 0,kMi 10 1] kr) ks)) (G [J 35 4 2,M 36 1,J 37 6 3,M 38 3,kC 39 45 [(kt 35),(kt 36),(kt 37),(kt 38)],kE 40 39 0,kE 41 39 1,kE 42 39 2,S 8 40 3,M 9 41,M 10 42] kr))))
theorem qGI:zO prog Tryz.f16.ntmps (Tryz.f16.body.getD .skip)=some zZo.erase:=by kernel_rfl
@[simp] theorem qKu:zA prog 16=true:=by kernel_rfl
theorem zYp (p:Prg)(l:List Id)(v:Val)(fuel:Int):zJG p l v 0 fuel=zZ p l v fuel:=zRb p l v fuel
theorem zMt {p:Prg}{hs:List Hd}(hf:Fit p hs)(l:List Id)(hl:l.length≤1000000)(v:Val)(hv:qD v≤256∧zAs v≤24)(fuel:Int)(h0 : -90000≤fuel)(h1:fuel≤90000) :
 Ret prog 45 [.agg (zM p),.sl l.length (zQ l),.agg (zC v),int fuel] [] (zCU (zZ p l v fuel)) []:=by
 have hP:=eP p;refine zK Tryz.func45 rfl qGO (rs:=[.cell 8 3 true,.slot 9,.slot 10]) (by kernel_rfl) ?_;unfold zZu;simp -implicitDefEqProofs [hP,zC];intro hlm;refine jX (S:=Nat×Val×Int) (fun s=>[(1,.sl l.length (zQ l)),(3,int fuel),(4,.ptr 0 0),(6,.ptr 1 0),(8,.ptr 2 0),(11,int s.2.2),(17,.sl l.length (zQ l)),(18,int l.length),(19,int s.1)]) (fun s=>[.box (zM p),.box (zC s.2.1),.box [int 0,int 0,.nil]])
  (fun s=>s.1≤l.length∧(qD s.2.1≤256∧zAs s.2.1≤24)∧0≤s.2.2∧s.2.2≤max fuel 0∧zZ p l v fuel=zJG p (l.drop s.1) s.2.1 s.2.2 fuel) (fun s=>l.length-s.1) (0,v,0) ⟨by simp,hv,by simp,by simp only; omega,by simp[zYp]⟩
  (zP [0,1,2] 0 (by decide) (by simp) (by simp[hP,zC]) (by simp)) ?_
 rintro⟨i,x,st⟩ ⟨hi,hx,hs0,hs1,ho⟩;simp only at hi hx hs0 hs1 ho;by_cases h:i<l.length
 ·have hd:l.drop i=l[i]::l.drop (i+1):=jAy h;have hw:=zBg i (by omega);have hw2:=jT (fuel-st) (by omega);simp -implicitDefEqProofs [hP,zC,h,zCN h,hw2];have hcall:=zQL hf l[i] [x] (gas:=fuel-st) (fuel:=max (fuel-st) 0) rfl (by omega) (by simpa using hx);rw[zXE hf]at hcall;refine qK hcall (by simp[hP,zF,zC,zDO]) (by simp[zCU,zC]) ?_;have hsm:=zQi hf l[i] [x] (by simpa using hx) (fuel-st);rw[hd]at ho;by_cases he:(yR p l[i] [x] (fuel-st)).2.2=0
  ·rw[zTH he]at ho;simp -implicitDefEqProofs [zCU,zC,he];have hw3:IntKind.i64.wrap (st+(yR p l[i] [x] (fuel-st)).2.1)=st+(yR p l[i] [x] (fuel-st)).2.1:=IntWalk.i64_in _ (by omega);exact zU (i+1,(yR p l[i] [x] (fuel-st)).1,st+(yR p l[i] [x] (fuel-st)).2.1) ⟨h,hsm.1,by simp only; omega,by simp only; omega,ho⟩ (by simp only; omega) (zP [0,1,2] 0 (by decide) (by simp) (by simp[hP,zC]) (by simp[hw,hw3]))
  ·rw[zWf he]at ho;simp -implicitDefEqProofs [zCU,zC,he];exact zB 0 (by simp[ho,zCU,zC,vz,jQ,qP,zV])
 ·have hi':i=l.length:=by omega
  subst hi';rw[List.drop_length,zWg]at ho;simp -implicitDefEqProofs [hP,zC];exact zB 0 (by simp[ho,zCU,zC])
theorem zOv {p:Prg}{hs:List Hd}(hf:Fit p hs)(l:List Id)(hl:l.length≤1000000)(v:Val)(hv:qD v≤256∧zAs v≤24)(fuel:Int)(h0 : -90000≤fuel)(h1:fuel≤90000) :
 Ret prog 16 [.agg (zM p),.sl l.length (zQ l),.agg (zC v),int fuel] [] (zCU (zEF p l v fuel)) []:=by
 have hP:=eP p;refine zK Tryz.func16 rfl qGI (rs:=[.cell 8 3 true,.slot 9,.slot 10]) (by kernel_rfl) ?_;unfold zZo;cases hl0:l with
 | nil =>
  simp -implicitDefEqProofs [hP,zC];exact zB 0 (by simp[zEF,zCU,zC])
 | cons y l' =>
  rw[←hl0];have hne:l≠[]:=by rw[hl0]; simp
  have hlen:¬((l.length:Int)=0):=by rw[hl0]; simp; omega
  simp -implicitDefEqProofs [hP,zC,hlen,hne];intro _;refine qK (zXR p l hl) (by simp[hP]) (by simp[zJl,zS]) ?_;by_cases hp:zGQ p l=true
  ·have hlead:∃a,zA1 p (l.getD 0 .zero)=some a:=by
    have h1:zD9 p l 1=true:=zPH (List.length_pos_iff.2 hne) hp;simp only[zD9,jBd,zIn]at h1;cases hc:zA1 p (l.getD 0 .zero)with
    | none=>rw[hc]at h1; cases h1
    | some a=>exact⟨a,rfl⟩
   obtain⟨a,ha⟩:=hlead;have hfro:zVX p l=a.1:=by rw[zVX,ha]; rfl
   have hal:zEF p l v fuel=if zAL p a.1 v=false then (vz,0,1) else zZ p l v fuel:=by rw[zEF,if_neg hne,if_neg (by rw[hp]; decide),ha]
   simp -implicitDefEqProofs [zJl,zHE,hp,hne,hfro,zS];refine qK (zNi p a.1 v hv.1 hv.2) (by simp[hP,zS,zC]) (by simp) ?_;cases hfi:zAL p a.1 v
   ·simp -implicitDefEqProofs;exact zB 0 (by simp[hal,hfi,zCU,zC,vz,jQ,qP,zV])
   ·simp -implicitDefEqProofs;refine qK (zMt hf l hl v hv fuel h0 h1) (by simp[hP,zC]) (by simp[zCU,zC]) ?_;simp -implicitDefEqProofs [zCU,zC];exact zB 0 (by simp[hal,hfi,zCU,zC])
  ·have hp':zGQ p l=false:=by simpa using hp
   have hal:zEF p l v fuel=(vz,0,1):=by rw[zEF,if_neg hne,if_pos hp']
   simp -implicitDefEqProofs [zJl,zHE,hp',zS];exact zB 0 (by simp[hal,zCU,zC,vz,jQ,qP,zV])
@[simp] theorem qKP:zA prog 13=true:=by kernel_rfl
def zRn (a:Option (Typ×Typ)):A:=.tup [.agg (zS (a.getD (.zero,.zero)).1),.agg (zS (a.getD (.zero,.zero)).2),bl a.isSome]
@[simp] theorem qFw {rf g}(a:Option (Typ×Typ)):vw rf g (zRn a)=zRn a:=by cases a<;>simp[zRn,zS]
@[simp] theorem qKO:zA prog 46=true:=by kernel_rfl
@[simp] theorem qKN:zA prog 48=true:=by kernel_rfl
@[simp] theorem qMm {rf g}(r:Val×Int×Int):vw rf g (zCU r)=zCU r:=by simp[zCU,zC]
@[simp] theorem qKL:zA prog 17=true:=by kernel_rfl
@[simp] theorem qKQ:zA prog 54=true:=by kernel_rfl
def zZ0:K:=G [kO 2 0,kO 3 1,kMb 4 false] (G [J 8 2 2,J 9 3 3,kC 10 96 [(kt 8),(kt 9)],M 7 10,kE 11 7 0,kE 12 7 1,kZ 5 kz0,S 5 11 31,M 6 12] (G [M 13 6,M 14 13,T 14 true (D 15 5 3),T 14 true (L 16 15 1),T 14 true (kQi 17 16 0 false),T 14 true (M 18 17),T 18 false (D 19 5 3),T 18 false (L 20 19 1),T 18 false (kQi 21 20 1 false),T 14 true (kPt 22 18 21),kPf 23 14 22,M 4 23] kr))
theorem qGU:zO prog Tryz.f52.ntmps (Tryz.f52.body.getD .skip)=some zZ0.erase:=by kernel_rfl
@[simp] theorem qK5:zA prog 52=true:=by kernel_rfl
def zBa (p:Prg)(id:Id):Bool:=match qW p.defs id with
 | some d=>decide (d.kind=0)||decide (d.kind=1)
 | none=>false
theorem zNc (p:Prg)(id:Id):Ret prog 52 [.agg (zM p),.agg (zF id)] [] (bl (zBa p id)) []:=by
 have hP:=eP p;have hdf:=zD1 p id;unfold zCa at hdf;refine zK Tryz.func52 rfl qGU (rs:=[.slot 4]) (by kernel_rfl) ?_;unfold zZ0;simp -implicitDefEqProofs [hP,zF];refine qK hdf (by simp[zM,zF]) (by simp) ?_;cases hd:qW p.defs id with
 | none =>
  simp -implicitDefEqProofs [zH];exact zB 0 (by simp[zBa,hd])
 | some d =>
  by_cases hk:d.kind=0
  ·simp -implicitDefEqProofs [zH,hk];exact zB 0 (by simp[zBa,hd,hk])
  ·simp -implicitDefEqProofs [zH,hk];exact zB 0 (by simp[zBa,hd,hk])
def zZv:K:=G [kO 2 0,kO 3 1,kMi 4 0] (Z (K.dops [(0,0,D 5 2 0),(1,0,L 6 5 1),(2,0,D 7 3 0),(3,0,L 8 7 1),(4,0,kC 9 80 [(kt 6),(kt 8)]),(5,0,D 10 2 1),(6,0,L 11 10 1),(7,0,D 12 3 1),(8,0,L 13 12 1),(9,0,kC 14 80 [(kt 11),(kt 13)]),(10,0,D 15 2 2),(11,0,L 16 15 1),(12,0,D 17 3 2),(13,0,L 18 17 1),(14,0,kC 19 80 [(kt 16),(kt 18)]),(15,0,kd 20 3 1 3 [ki,ki,ki] [(0,1,(kt 9)),(1,1,(kt 14)),(2,1,(kt 19))]),(16,0,kC 21 79 [(kt 20)]),(17,0,M 4 21)]) kr)
theorem qGP:zO prog Tryz.f147.ntmps (Tryz.f147.body.getD .skip)=some zZv.erase:=by kernel_rfl
@[simp] theorem qK1:zA prog 147=true:=by kernel_rfl
theorem zTp (x y:Id):Ret prog 147 [.agg (zF x),.agg (zF y)] [] (int (zI4 x y)) []:=by refine zK Tryz.func147 rfl qGP (rs:=[.slot 4]) (by kernel_rfl) ?_;unfold zZv;simp -implicitDefEqProofs [zF];refine qR (zCe x.a y.a) (by simp) (by simp) ?_;simp -implicitDefEqProofs;refine qR (zCe x.b y.b) (by simp) (by simp) ?_;simp -implicitDefEqProofs;refine qR (zCe x.c y.c) (by simp) (by simp) ?_;simp -implicitDefEqProofs;refine qR (zW9 [zAw x.a y.a,zAw x.b y.b,zAw x.c y.c]) (by simp) (by simp) ?_;simp -implicitDefEqProofs;exact zB 0 (by simp[zI4])
def zAX (e:Edg):List A:=[.lit (.int .i64 e.id.a),.lit (.int .i64 e.id.b),.lit (.int .i64 e.id.c),.lit (.int .i64 e.fro.a),.lit (.int .i64 e.fro.b),.lit (.int .i64 e.fro.c),.lit (.int .i64 e.to.a),.lit (.int .i64 e.to.b),.lit (.int .i64 e.to.c)]
def yE (l:List Edg):List A:=l.flatMap zAX
theorem zFL (d:Edg):qE (zAX d):=qE.lit (qE.lit (qE.lit (qE.lit (qE.lit (qE.lit (qE.lit (qE.lit (qE.lit qE.nil))))))))
theorem zGH (l:List Edg):qE (yE l):=zAU zFL l
@[simp] theorem zY7 (l:List Edg):qU (yE l)=yE l:=(zGH l).1
@[simp] theorem qDx {rf g}(l:List Edg):vwL rf g (yE l)=yE l:=(zGH l).2 _ _
@[simp] theorem zZP:yE []=[]:=rfl
theorem zEI (x:Edg)(l:List Edg):yE (x::l)=zAX x++yE l:=rfl
theorem zKi (l l':List Edg):yE (l++l')=yE l++yE l':=by simp only[yE,jCi]
@[simp] theorem zZO (l:List Edg):(yE l).length=l.length*9:=by rw[yE,zBG (k:=9) (fun _=>rfl)]
theorem zBm {l:List Edg}{i:Nat}(h:i<l.length):(yE l).drop (i*9)=zAX l[i]++yE (l.drop (i+1)):=by rw[yE,yE,zDt (k:=9) (fun _=>rfl) h]
@[simp] theorem qEb (d:Edg):(zAX d).length=9:=rfl
@[simp] theorem qEa (d:Edg):(zAX d).take 9=zAX d:=jAm (jA _)
@[simp] theorem qBT (d:Edg)(l:List A):(zAX d++l).take 9=zAX d:=by rw[jC (by simp)]; exact jAm (by simp)
@[simp] theorem qCB (d:Edg):qU (zAX d)=zAX d:=(zFL d).1
@[simp] theorem qJX (d:Edg) {rf g}:vwL rf g (zAX d)=zAX d:=(zFL d).2 _ _
@[simp] theorem zLT (e:Edg)(k:Nat):zAZ k (zAX e)=true:=by simp[zAX]
@[simp] theorem zZK (l:List Edg)(k:Nat):zAZ k (yE l)=true:=by
 induction l with
 | nil=>rfl
 | cons e l ih=>rw[zEI,zF9,ih,zLT]; rfl
def zZq:K:=G [kO 2 0,kO 3 1,kMi 4 0] (G [D 5 2 0,J 6 5 3,D 7 3 0,J 8 7 3,kC 9 147 [(kt 6),(kt 8)],M 4 9] kr)
theorem qGK:zO prog Tryz.f146.ntmps (Tryz.f146.body.getD .skip)=some zZq.erase:=by kernel_rfl
@[simp] theorem qKw:zA prog 146=true:=by kernel_rfl
theorem zQ7 (x y:Edg):Ret prog 146 [.agg (zAX x),.agg (zAX y)] [] (int (zI4 x.id y.id)) []:=by refine zK Tryz.func146 rfl qGK (rs:=[.slot 4]) (by kernel_rfl) ?_;unfold zZq;simp -implicitDefEqProofs [zAX];refine qK (zTp x.id y.id) (by simp[zF]) (by simp) ?_;simp -implicitDefEqProofs;exact zB 0 (by simp)
def zYO:Go.Shelf.Ren:=⟨fun | 6=>145 | 15=>121 | 14=>172 | 28=>165 | 29=>166 | 20=>187 | 21=>188 | 22=>189 | 23=>190 | 24=>191 | 25=>192 | 26=>193 | 27=>194 | 46=>201 | 49=>202 | 50=>203 | 57=>209 | 47=>182 | 48=>183 | n=>n,fun | 22=>149 | 24=>155 | 25=>202 | 3=>3 | 39=>181 | 0=>0 | 53=>222 | 55=>224 | 4=>4 | 46=>215 | 45=>214 | 50=>219 | 5=>5 | 9=>9 | 66=>241 | 70=>245 | 76=>256 | 77=>257 | n=>n,fun n=>n⟩
theorem zS9:Go.Proofs.SlLaysF0.n6 prog zYO:={
 mixed:=by kernel_rfl,
 f6:=⟨Tryz.f145.name,by decide,Tryz.func145.trans (congrArg some (by kernel_rfl))⟩,
 f14:=⟨Tryz.f172.name,by decide,Tryz.func172.trans (congrArg some (by kernel_rfl))⟩,
 f15:=Tryz.func121.trans (congrArg some (by kernel_rfl)),
 f20:=⟨Tryz.f187.name,by decide,Tryz.func187.trans (congrArg some (by kernel_rfl))⟩,
 f21:=⟨Tryz.f188.name,by decide,Tryz.func188.trans (congrArg some (by kernel_rfl))⟩,
 f22:=⟨Tryz.f189.name,by decide,Tryz.func189.trans (congrArg some (by kernel_rfl))⟩,
 f23:=⟨Tryz.f190.name,by decide,Tryz.func190.trans (congrArg some (by kernel_rfl))⟩,
 f24:=⟨Tryz.f191.name,by decide,Tryz.func191.trans (congrArg some (by kernel_rfl))⟩,
 f25:=⟨Tryz.f192.name,by decide,Tryz.func192.trans (congrArg some (by kernel_rfl))⟩,
 f26:=⟨Tryz.f193.name,by decide,Tryz.func193.trans (congrArg some (by kernel_rfl))⟩,
 f27:=⟨Tryz.f194.name,by decide,Tryz.func194.trans (congrArg some (by kernel_rfl))⟩,
 f28:=Tryz.func165.trans (congrArg some (by kernel_rfl)),
 f29:=Tryz.func166.trans (congrArg some (by kernel_rfl)),
 f46:=⟨Tryz.f201.name,by decide,Tryz.func201.trans (congrArg some (by kernel_rfl))⟩,
 f47:=Tryz.func182.trans (congrArg some (by kernel_rfl)),
 f48:=Tryz.func183.trans (congrArg some (by kernel_rfl)),
 f49:=⟨Tryz.f202.name,by decide,Tryz.func202.trans (congrArg some (by kernel_rfl))⟩,
 f50:=⟨Tryz.f203.name,by decide,Tryz.func203.trans (congrArg some (by kernel_rfl))⟩,
 f57:=⟨Tryz.f209.name,by decide,Tryz.func209.trans (congrArg some (by kernel_rfl))⟩,
 t0:=Tryz.underlying0,
 a0:=Tryz.isAgg0,
 z0:=Tryz.sizeOf0,
 v0:=Tryz.zeroValue0,
 t3:=Tryz.underlying3,
 a3:=Tryz.isAgg3,
 z3:=Tryz.sizeOf3,
 v3:=Tryz.zeroValue3,
 t4:=Tryz.underlying4,
 a4:=Tryz.isAgg4,
 z4:=Tryz.sizeOf4,
 v4:=Tryz.zeroValue4,
 t5:=Tryz.underlying5,
 a5:=Tryz.isAgg5,
 z5:=Tryz.sizeOf5,
 v5:=Tryz.zeroValue5,
 t9:=Tryz.underlying9,
 a9:=Tryz.isAgg9,
 z9:=Tryz.sizeOf9,
 v9:=Tryz.zeroValue9,
 t22:=Tryz.underlying149,
 a22:=Tryz.isAgg149,
 z22:=Tryz.sizeOf149,
 v22:=Tryz.zeroValue149,
 t25:=Tryz.underlying202,
 a25:=Tryz.isAgg202,
 z25:=Tryz.sizeOf202,
 v25:=Tryz.zeroValue202,
 t39:=Tryz.underlying181,
 a39:=Tryz.isAgg181,
 z39:=Tryz.sizeOf181,
 v39:=Tryz.zeroValue181,
 t45:=Tryz.underlying214,
 a45:=Tryz.isAgg214,
 z45:=Tryz.sizeOf214,
 v45:=Tryz.zeroValue214,
 t46:=Tryz.underlying215,
 a46:=Tryz.isAgg215,
 z46:=Tryz.sizeOf215,
 v46:=Tryz.zeroValue215,
 t50:=Tryz.underlying219,
 a50:=Tryz.isAgg219,
 z50:=Tryz.sizeOf219,
 v50:=Tryz.zeroValue219,
 t53:=Tryz.underlying222,
 a53:=Tryz.isAgg222,
 z53:=Tryz.sizeOf222,
 v53:=Tryz.zeroValue222,
 t55:=Tryz.underlying224,
 a55:=Tryz.isAgg224,
 z55:=Tryz.sizeOf224,
 v55:=Tryz.zeroValue224,
 t66:=Tryz.underlying241,
 a66:=Tryz.isAgg241,
 z66:=Tryz.sizeOf241,
 v66:=Tryz.zeroValue241,
 t70:=Tryz.underlying245,
 a70:=Tryz.isAgg245,
 z70:=Tryz.sizeOf245,
 v70:=Tryz.zeroValue245,
 t76:=Tryz.underlying256,
 a76:=Tryz.isAgg256,
 z76:=Tryz.sizeOf256,
 v76:=Tryz.zeroValue256,
 t77:=Tryz.underlying257,
 a77:=Tryz.isAgg257,
 z77:=Tryz.sizeOf257,
 v77:=Tryz.zeroValue257}
@[simp] theorem qH3:zA prog 145=true:=by kernel_rfl
theorem zXS:∀args w,(callFunc 146 args).run prog w=.ok (.enter 146 args) w:=enters_of Tryz.func146 (by kernel_rfl) rfl
def zUR (E:List Edg):Prop:=∀a∈E,∀b∈E,a.id=b.id→a=b
abbrev zOj (E:List Edg):={e:Edg // e∈E}
def zTo {E:List Edg}(a b:zOj E):Int:=zI4 a.1.id b.1.id
theorem zKN {E:List Edg}(h:zUR E):Ord (zTo (E:=E)) where
 irrefl x:=zD6.irrefl _
 trans x y z:=zD6.trans _ _ _
 ntrans x y z:=zD6.ntrans _ _ _
 anti x y a b:=Subtype.ext (h _ x.2 _ y.2 (zD6.anti _ _ a b))
theorem qDf {E:List Edg}(h:zUR E):zNn prog 145 146 (fun e:zOj E=>zAX e.1) zTo :=
 zXa (k:=9) (fun _=>rfl) (zKN h) (fun a b=>zQ7 a.1 b.1) fun α _ enc hk h1 cf hO blk off cap d w hcmp hH hblk hsz =>
  Go.Proofs.AnyQ.slices_SortFunc zS9 9 Tryz.isAgg155 Tryz.sizeOf155 enc hk h1 cf hO 146 #[] blk off cap d w zXS hcmp hH hblk hsz
theorem qIW:∀(p:Option Addr) (cap:Nat) (fv:Value) (w:World),Calls prog 145 #[.slice p 0 cap,fv] w fun e w'=>e=.returned (.tuple #[])∧w'=w :=
 fun p cap fv w=>Go.Proofs.AnyF.slices_SortFunc_none zS9 p cap fv w
def zLx (E:List Edg):List Edg:=(zEb (zTo (E:=E)) (E.attach)).map (·.1)
theorem zOU {E:List Edg}(l:List (zOj E)):l.flatMap (fun e=>zAX e.1)=yE (l.map (·.1)):=by
 induction l with
 | nil=>rfl
 | cons e l ih=>rw[jBg,ih,jA9,zEI]
theorem zWY {E:List Edg}(h:zUR E)(hmx:E.length<4611686018427387904):Ret prog 145 [.row 0 E.length,.clo 146 [] []] [.row false 155 9 E.length (yE E)] (.tup []) [.row false 155 9 E.length (yE (zLx E))]:=by have:=zQe (sz:=9) (by omega) (fun _=>rfl) (fun b:zOj E=>zLT b.1 0) (zKN h) 155 (qDf h) qIW E.attach (by simpa using hmx);rw[zOU,zOU,List.length_attach]at this;rw[show (E.attach.map (·.1))=E from List.attach_map_subtype_val E]at this;exact this
theorem zCi (E:List Edg):(zLx E).Perm E:=by have h:=(List.mergeSort_perm E.attach fun x y=>!decide (zTo y x<0)).map (·.1);rw[show (E.attach.map (·.1))=E from List.attach_map_subtype_val E]at h;exact h
theorem zWZ {E:List Edg}(h:zUR E)(hn:E.Nodup):SS ((zLx E).map (·.id)):=by
 have ho:=zKN h;have hs:=List.pairwise_mergeSort (le:=fun x y:zOj E=>!decide (zTo y x<0)) (fun a b c h1 h2=>by simp only[jBb,decide_eq_false_iff_not]at *; exact ho.ntrans c b a h2 h1)
  (fun a b=>by
   simp only[jB3,jBb,decide_eq_false_iff_not];by_cases h:zTo b a<0
   ·exact .inr fun h'=>ho.irrefl _ (ho.trans _ _ _ h h')
   ·exact .inl h) E.attach
 have hnd:(zLx E).Nodup:=(zCi E).nodup_iff.2 hn;unfold SS;rw[jD5];have h1:(zLx E).Pairwise fun a b=>¬zI4 b.id a.id<0:=by
  unfold zLx;rw[jD5];exact hs.imp fun hab=>by simp only[jBb]at hab;exact of_decide_eq_false hab
 have h2:=List.Pairwise.and h1 hnd;have h3:=List.Pairwise.and_mem.1 h2;exact h3.imp fun {a b} ⟨ha,hb,hc,hne⟩=>by
  cases hl:zBL a.id b.id with
  | true=>rfl
  | false =>
   rw[zEs]at hc;have hba:zBL b.id a.id=false:=by simpa using hc
   exact(hne (h a ((zCi E).mem_iff.1 ha) b ((zCi E).mem_iff.1 hb) (zD5 hl hba))).elim
def zZr:K:=G [kO 1 0,kMn 2] (G [kMn 3] (Z (G [D 6 1 1,L 7 6 1,kN 8 7,kMi 9 0] (K.block 0 (K.loop (G [kB 10 9 8 .lss] (Z (Y 10 ks (K.exit 0)) (Z (K.block 1 (G [kX 11 7 9 31,J 12 11 31,kZ 5 kz0,S 5 12 31] (G [D 13 5 3,L 14 13 1,kQi 15 14 5 false,M 16 15,T 16 true (D 17 5 8),T 16 true (L 18 17 1),T 16 true (kN 19 18),T 16 true (kQi 20 19 1 false),kPf 21 16 20,M 22 21,T 22 true (D 23 5 8),T 22 true (L 24 23 1),T 22 true (kXi 25 24 11 0),T 22 true (D 26 25 4),T 22 true (D 27 26 0),T 22 true (L 28 27 1),T 22 true (kQi 29 28 3 false),kPf 30 22 29,M 31 30,T 31 true (D 32 5 9),T 31 true (D 33 32 0),T 31 true (L 34 33 1),T 31 true (kQi 35 34 3 false),kPf 36 31 35] (Y 36 (K.dops [(0,0,M 37 3),(1,0,D 38 5 0),(2,0,J 39 38 3),(3,0,D 40 5 8),(4,0,L 41 40 1),(5,0,kXi 42 41 11 0),(6,0,D 43 42 4),(7,0,D 44 43 1),(8,0,J 45 44 3),(9,0,D 46 5 9),(10,0,D 47 46 1),(11,0,J 48 47 3),(12,0,kb 49 [ki,ki,ki,ki,ki,ki,ki,ki,ki] [(0,3,(kt 39)),(3,3,(kt 45)),(6,3,(kt 48))]),(13,0,kd 50 155 9 1 [ki,ki,ki,ki,ki,ki,ki,ki,ki] [(0,9,(kt 49))]),(14,0,kP 51 155 9 72 37 50),(15,0,M 3 51)]) ks)))) (K.ops [kBi 52 9 1 .add,M 9 52]))))))) (G [M 53 3,kC 54 145 [(kt 53),(.func 146)]] (G [M 55 3,M 2 55] kr))))
theorem qGL:zO prog Tryz.f98.ntmps (Tryz.f98.body.getD .skip)=some zZr.erase:=by kernel_rfl
@[simp] theorem qKx:zA prog 98=true:=by kernel_rfl
def zCv (p:Prg):List Edg:=p.defs.filterMap jS
theorem zKx {p:Prg}{hs:List Hd}(hf:Fit p hs):zUR (zCv p)∧(zCv p).Nodup:=by
 have hnd:=hf.nd;have key:∀(l:List Dfn),l.Pairwise (fun a b=>a.id≠b.id)→((l.filterMap jS).map (·.id)).Nodup:=by
  intro l;induction l with
  | nil=>intro _; simp
  | cons d l ih =>
   intro h;have h':=jBy.1 h;rw[List.filterMap_cons];cases he:jS d with
   | none=>exact ih h'.2
   | some e =>
    simp only[jA9,jD];refine⟨fun hm=>?_,ih h'.2⟩;obtain⟨e',he',hid⟩:=jAg.1 hm;obtain⟨d',hd',hde⟩:=jCe.1 he';rw[zEt he,zEt hde]at hid;exact h'.1 d' hd' hid.symm
 have hk:=key _ hnd;constructor
 ·intro a ha b hb hab;obtain⟨i,hi,rfl⟩:=jB0 ha;obtain⟨j,hj,rfl⟩:=jB0 hb;have hab':((zCv p).map (·.id))[i]'(by simpa using hi)=((zCv p).map (·.id))[j]'(by simpa using hj):=by simpa using hab
  have hij:=(List.getElem_inj hk).1 hab';subst hij;rfl
 ·exact List.Pairwise.of_map (·.id) (fun a b h e=>h (by rw[e])) hk
theorem zEa {p:Prg}{hs:List Hd}(hf:Fit p hs):zLx (zCv p)=zAa p:=by
 obtain⟨h1,h2⟩:=zKx hf;refine zNy hf (zWZ h1 h2) fun e=>?_
 rw[(zCi _).mem_iff];unfold zCv;rw[jCe]
theorem zV7 {p:Prg}{hs:List Hd}(hf:Fit p hs):Ret prog 98 [.agg (zM p)] [] (.sl (zAa p).length (yE (zAa p))) []:=by
 have hP:=eP p;have hL:=hf.len8;refine zK Tryz.func98 rfl qGL (rs:=[.slot 2]) (by kernel_rfl) ?_;unfold zZr;simp -implicitDefEqProofs [hP];intro hlm;have hlen:∀i,((p.defs.take i).filterMap jS).length≤100:=fun i=>by have:=jDb jS (p.defs.take i);rw[jB2]at this;omega
 refine jX (S:=Nat) (fun i=>[(3,.row 1 ((p.defs.take i).filterMap jS).length),(7,.sl p.defs.length (qM p.defs)),(8,int p.defs.length),(9,int i)]) (fun i=>[.box (zM p),.row false 155 9 ((p.defs.take i).filterMap jS).length (yE ((p.defs.take i).filterMap jS))])
  (fun i=>i≤p.defs.length) (fun i=>p.defs.length-i) 0 (by simp)
  ((zAS (t:=3) (by simp) 155 9).trans (zP [0,1] 0 (by decide) (by simp) (by simp[hP]) (by simp))) ?_
 intro i hi;have hln:=hlen i;by_cases h:i<p.defs.length
 ·have hw:=zBg i (by omega);have hts:p.defs.take (i+1)=p.defs.take i++[p.defs[i]]:=jAh h;generalize hE:(p.defs.take i).filterMap jS=E at *
  have hE':(p.defs.take (i+1)).filterMap jS=E++(jS p.defs[i]).toList:=by rw[hts,List.filterMap_append,hE];cases h:jS p.defs[i]<;>simp[List.filterMap_cons,h]
  simp -implicitDefEqProofs [hP,h,zAI h];generalize hd:p.defs[i]=d at *
  by_cases hk:d.kind=5
  ·match hsl:d.slots with
   | [s] =>
    have hcs:yN [s]=yJ s:=by simp[yN]
    by_cases h3:s.typ.k=3
    ·by_cases h4:d.res.k=3
     ·have hed:jS d=some ⟨d.id,s.typ.id,d.res.id⟩:=by simp[jS,hk,hsl,h3,h4]
      rw[hed]at hE';simp -implicitDefEqProofs [zH,hk,hsl,hcs,yJ,h3,h4];exact fun _=>⟨⟨by simp[maxLen]; omega,by omega⟩,zU (i+1) h (by omega) (zP [0,1] 0 (by decide) (by simp) (by simp[hP,hE',zKi,zEI,zAX]) (by simp[hw,hE']))⟩
     ·have hed:jS d=none:=by simp[jS,hk,hsl,h4]
      rw[hed]at hE';simp -implicitDefEqProofs [zH,hk,hsl,hcs,yJ,h3,h4]
      first | exact fun _=>zU (i+1) h (by omega) (zP [0,1] 0 (by decide) (by simp) (by simp[hP,hE']) (by simp[hw,hE'])) | exact zU (i+1) h (by omega) (zP [0,1] 0 (by decide) (by simp) (by simp[hP,hE']) (by simp[hw,hE']))
    ·have hed:jS d=none:=by simp[jS,hk,hsl,h3]
     rw[hed]at hE';simp -implicitDefEqProofs [zH,hk,hsl,hcs,yJ,h3]
     first | exact fun _=>zU (i+1) h (by omega) (zP [0,1] 0 (by decide) (by simp) (by simp[hP,hE']) (by simp[hw,hE'])) | exact zU (i+1) h (by omega) (zP [0,1] 0 (by decide) (by simp) (by simp[hP,hE']) (by simp[hw,hE']))
   | [] =>
    have hed:jS d=none:=by simp[jS,hsl]
    rw[hed]at hE';simp -implicitDefEqProofs [zH,hk,hsl]
    first | exact fun _=>zU (i+1) h (by omega) (zP [0,1] 0 (by decide) (by simp) (by simp[hP,hE']) (by simp[hw,hE'])) | exact zU (i+1) h (by omega) (zP [0,1] 0 (by decide) (by simp) (by simp[hP,hE']) (by simp[hw,hE']))
   | s::s'::l =>
    have hed:jS d=none:=by simp[jS,hsl]
    rw[hed]at hE';have h1:¬((l.length:Int)+1+1=1):=by omega
    simp -implicitDefEqProofs [zH,hk,hsl,h1]
    first | exact fun _=>zU (i+1) h (by omega) (zP [0,1] 0 (by decide) (by simp) (by simp[hP,hE']) (by simp[hw,hE'])) | exact zU (i+1) h (by omega) (zP [0,1] 0 (by decide) (by simp) (by simp[hP,hE']) (by simp[hw,hE']))
  ·have hed:jS d=none:=by simp[jS,hk]
   rw[hed]at hE';simp -implicitDefEqProofs [zH,hk];exact zU (i+1) h (by omega) (zP [0,1] 0 (by decide) (by simp) (by simp[hP,hE']) (by simp[hw,hE']))
 ·have hi':i=p.defs.length:=by omega
  subst hi';have hE:(p.defs.take p.defs.length).filterMap jS=zCv p:=by rw[jBa]; rfl
  rw[hE];have hle:(zCv p).length≤100:=by have:=jDb jS p.defs; unfold zCv; omega
  obtain⟨g1,g2⟩:=zKx hf;simp -implicitDefEqProofs [hP];refine jN (zWY g1 (by omega)) [1] (by simp) (by simp) (by simp) ?_;simp -implicitDefEqProofs [hP];rw[zEa hf,show (zCv p).length=(zAa p).length by rw[←zEa hf]; exact(zCi _).length_eq.symm];exact zB 1 (by simp)
end Go.Proofs.YtdnelmeboihpkaaGreatDoor
namespace Go.Proofs.YtdnelmeboihpkaaGreatDoor
open Go.Abs
def mrk (l:List Id):List (List Int×A):=l.map fun x=>(zHm x,.lit (.bool true))
theorem zKW {x y:Id}:zHm x=zHm y↔x=y:=by simp[zHm,Id.eq_iff]
theorem zMn (x:Id):∀l:List Id,zB7 (zHm x) (mrk l)=if x∈l then some (.lit (.bool true)) else none
 | []=>rfl
 | y::l=>by
  have ih:=zMn x l;simp only[mrk,jA9,zB7]at ih ⊢;by_cases h:y=x
  ·subst h; simp
  ·rw[if_neg fun e=>h (zKW.1 e),ih];simp[Ne.symm h]
theorem zLk (x:Id):∀l:List Id,x∉l→putI (zHm x) (.lit (.bool true)) (mrk l)=mrk (l++[x])
 | [],_=>rfl
 | y::l,h=>by simp only[jA6,not_or]at h;have ih:=zLk x l h.2;simp only[mrk,jA9,putI,jB9]at ih ⊢;rw[if_neg fun e=>h.1 (zKW.1 e).symm,ih]
theorem zOH (x:Id):∀l:List Id,x∉l→zI6 (zHm x) (mrk (l++[x]))=mrk l
 | [],_=>by simp[mrk,zI6]
 | y::l,h=>by simp only[jA6,not_or]at h;have ih:=zOH x l h.2;simp only[mrk,jA9,zI6,jB9]at ih ⊢;rw[if_neg fun e=>h.1 (zKW.1 e).symm,ih]
theorem zKE (x:Id)(l:List Id):zEV (Value.bool false) false (zB7 [x.a,x.b,x.c] (mrk l))=.lit (.bool (decide (x∈l))):=by have hf:=zMn x l;simp only[zHm]at hf;rw[hf];by_cases h:x∈l<;>simp[zEV,h,zFh,qN]
@[simp] theorem qOP {rf g}(l:List Id):(mrk l).map (fun p=>(p.1,vw rf g p.2))=mrk l:=by unfold mrk;rw[jC5];exact jBr fun x _=>by simp
theorem zJW {marked:List Id}{x:Id}:∀(l:List Edg) (M:List Id),(zEe marked x l M).length≤M.length+l.length
 | [],M=>by simp[zEe]
 | e::l,M=>by
  simp only[zEe,jAl];split
  ·have:=zJW (marked:=marked) (x:=x) l (M++[e.to]);simp only[jA7,jC0]at this;omega
  ·have:=zJW (marked:=marked) (x:=x) l M;omega
def zZy:K:=G [kO 5 1,kO 6 2,kMb 8 false] (G [⟨none,.mop (some 14) (.mk 3) []⟩,J 15 5 3,⟨none,.mop none (.set 3) [(kt 14),(kt 15),(.const (.bool true))]⟩,M 16 14,M 9 16] (G [J 17 5 3,⟨none,.brow (some 18) 31 3 1 [ki,ki,ki] [(0,3,(kt 17))]⟩,M 10 18] (Z (K.block 0 (K.loop (Z (G [M 19 10,kN 20 19,kBi 21 20 0 .gtr] (Y 21 ks (K.exit 0))) (K.block 1 (G [M 22 10,kXi 23 22 3 0,J 24 23 3,kZ 11 [ki,ki,ki],S 11 24 3] (G [M 25 10,⟨none,.rslc (some 26) (kt 25) 3 (some (kc 1)) none⟩,M 10 26] (Z (G [J 27 11 3,J 28 6 3,⟨none,.eqs (some 29) false [.i,.i,.i] (kt 27) (kt 28)⟩] (Y 29 (G [kMb 8 true] kr) ks)) (G [M 30 0,kN 31 30,kMi 32 0] (K.block 2 (K.loop (G [kB 33 32 31 .lss] (Z (Y 33 ks (K.exit 2)) (Z (K.block 3 (G [kX 34 30 32 9,J 35 34 9,kZ 13 [ki,ki,ki,ki,ki,ki,ki,ki,ki],S 13 35 9] (G [D 36 13 3,J 37 36 3,J 38 11 3,⟨none,.eqs (some 39) false [.i,.i,.i] (kt 37) (kt 38)⟩,M 40 39,T 40 true (M 41 9),T 40 true (D 42 13 6),T 40 true (J 43 42 3),⟨some (40,true),.mop (some 44) (.get 3 (.bool false) false) [(kt 41),(kt 43)]⟩,T 40 true (kR 45 44),kPf 46 40 45,M 47 46,T 47 true (M 48 3),T 47 true (D 49 13 6),T 47 true (J 50 49 3),⟨some (47,true),.mop (some 51) (.get 3 (.bool false) false) [(kt 48),(kt 50)]⟩,T 47 true (kR 52 51),kPf 53 47 52] (Y 53 (G [M 54 9,D 55 13 6,J 56 55 3,⟨none,.mop none (.set 3) [(kt 54),(kt 56),(.const (.bool true))]⟩] (K.ops [M 57 10,D 58 13 6,J 59 58 3,kd 60 31 3 1 [ki,ki,ki] [(0,3,(kt 59))],⟨none,.apq (some 61) 31 3 24 (kt 57) (kt 60)⟩,M 10 61])) ks)))) (K.ops [kBi 62 32 1 .add,
 M 32 62])))))))))))))) (G [kMb 8 false] kr))))
theorem qGS:zO prog Tryz.f101.ntmps (Tryz.f101.body.getD .skip)=some zZy.erase:=by kernel_rfl
@[simp] theorem qK3:zA prog 101=true:=by kernel_rfl
open Classical in
theorem zR5 (L:List Edg)(hL:L.length≤1000)(fro to:Id)(marked:List Id)(fr:Bool) :
 Ret prog 101 [.sl L.length (yE L),.agg (zF fro),.agg (zF to),.map 0] [.mp fr 3 (mrk marked)] (bl (decide (Rchs L to marked fro))) [.mp fr 3 (mrk marked)]:=by
 refine zK Tryz.func101 rfl qGS (rs:=[.slot 8]) (by kernel_rfl) ?_;unfold zZy;have hm1:putI [fro.a,fro.b,fro.c] (.lit (.bool true)) []=mrk [fro]:=rfl;simp -implicitDefEqProofs [zF,hm1];refine jX (S:=List Id×List Id×List Id) (fun s=>[(0,.sl L.length (yE L)),(3,.map 0),(5,.ptr 1 0),(6,.ptr 2 0),(8,bl false),(9,.map 3),(10,.win 4 (s.1.length+s.2.2.length) (s.1.length*3) s.2.2.length 3)])
  (fun s=>[.mp fr 3 (mrk marked),.box (zF fro),.box (zF to),.mp true 3 (mrk (s.2.1++s.2.2)),.row false 31 3 (s.1.length+s.2.2.length) (zQ (s.1++s.2.2))])
  (fun s=>Bfs L to marked fro (s.2.1++s.2.2) s.2.1.length∧s.1.length≤s.2.1.length) (fun s=>L.length+1-s.2.1.length) ([],[],[fro]) ⟨Bfs.start L to marked fro,by simp⟩ ?_ ?_
 ·refine(zXo (t:=10) (l:=4) (m:=1) (sz:=3) (by simp) rfl).trans (zP [0,1,2,3,4] 0 (by decide) (by simp) (by simp[zF]) (by simp))
 rintro⟨junk,dn,live⟩ ⟨hb,hj⟩;simp only at hb hj;have hM:=hb.len;rw[jA7]at hM
 match hlive:live with
 | [] =>
  have hno:=hb.no (by simp);simp -implicitDefEqProofs;exact zI [0] 0 (by simp) (by simp) (by simp) (by simp[hno])
 | x::rest =>
  have hpos:(0:Int)<(rest.length:Int)+1:=by omega
  have hlt:junk.length*3+3≤(junk.length+(rest.length+1))*3:=by omega
  have hk:dn.length<(dn++x::rest).length:=by simp
  have hx:(dn++x::rest)[dn.length]=x:=by simp
  have hdr:(zQ (junk++x::rest)).drop (junk.length*3)=zF x++zQ rest:=by rw[zEJ,List.drop_left,zCM]; rfl
  simp only[jAl]at hM;by_cases hto:x=to
  ·have hyes:=hb.yes hk (hx.trans hto);subst hto;simp -implicitDefEqProofs [hpos,hdr,zF,hlt];exact⟨by omega,zI [0] 0 (by simp) (by simp) (by simp) (by simp[hyes])⟩
  ·have hnx:=hb.next hk (by rw[hx]; exact hto);rw[hx]at hnx;simp -implicitDefEqProofs [hpos,hdr,zF,hlt,hto];refine⟨by omega,fun _=>?_⟩;have hsh:junk.length+1+rest.length=junk.length+(rest.length+1):=by omega
   refine jX (S:=Nat×List Id×List Id) (fun s=>[(0,.sl L.length (yE L)),(3,.map 0),(5,.ptr 1 0),(6,.ptr 2 0),(8,bl false),(9,.map 3),(10,.win 4 (s.2.1.length+s.2.2.length) (s.2.1.length*3) s.2.2.length 3),(11,.ptr 5 0),(30,.sl L.length (yE L)),(31,int L.length),(32,int s.1)])
    (fun s=>[.mp fr 3 (mrk marked),.box (zF fro),.box (zF to),.mp true 3 (mrk (dn++x::s.2.2)),.row false 31 3 (s.2.1.length+s.2.2.length) (zQ (s.2.1++s.2.2)),.box (zF x)])
    (fun s=>s.1≤L.length∧zEe marked x (L.take s.1) (dn++x::rest)=dn++x::s.2.2∧s.2.1.length≤dn.length+1) (fun s=>L.length-s.1) (0,junk++[x],rest) ⟨by simp,by simp[zEe],by simp; omega⟩
    (zP [0,1,2,3,4,5] 0 (by decide) (by simp) (by simp[zF,hsh]) (by simp[jAt,hsh])) ?_
   rintro⟨j,jk,lv⟩ ⟨hjl,hN,hjk⟩;simp only at hjl hN hjk;have hlen:=zJW (marked:=marked) (x:=x) (L.take j) (dn++x::rest);rw[hN]at hlen;simp only[jA7,jAl,jB2]at hlen;by_cases h:j<L.length
   ·have hw:=zBg j (by omega);have hsn:=zLP marked x L[j] (L.take j) (dn++x::rest);rw[←jAh h,hN]at hsn;have hg1:=zKE L[j].to (dn++x::lv);have hg2:=zKE L[j].to marked;have hput:=zLk L[j].to (dn++x::lv);have hMj:dn++x::(lv++[L[j].to])=dn++x::lv++[L[j].to]:=by simp
    have hcs:zQ (lv++[L[j].to])=zQ lv++zF L[j].to:=by rw[zB0]; rfl
    have hdl:(zQ (jk++lv)).drop (jk.length*3)=zQ lv:=by rw[zEJ,List.drop_left]
    simp only[zHm]at hput;generalize hM0:dn++x::lv=Mj at *
    by_cases c1:L[j].fro=x
    ·by_cases c2:L[j].to∈Mj
     ·rw[if_neg (by simp[c2])]at hsn;simp -implicitDefEqProofs [h,zBm h,zAX,zF,c1,hg1,c2];exact zU (j+1,jk,lv) ⟨h,by rw[hsn,hM0],hjk⟩ (by simp only; omega) (zP [0,1,2,3,4,5] 0 (by decide) (by simp) (by simp[zF,hM0]) (by simp[hw]))
     ·by_cases c3:L[j].to∈marked
      ·rw[if_neg (by simp[c3])]at hsn;simp -implicitDefEqProofs [h,zBm h,zAX,zF,c1,hg1,c2,hg2,c3];exact zU (j+1,jk,lv) ⟨h,by rw[hsn,hM0],hjk⟩ (by simp only; omega) (zP [0,1,2,3,4,5] 0 (by decide) (by simp) (by simp[zF,hM0]) (by simp[hw]))
      ·rw[if_pos ⟨c1,c2,c3⟩]at hsn;simp -implicitDefEqProofs [h,zBm h,zAX,zF,c1,hg1,c2,hg2,c3,hput c2];refine⟨?_,?_,?_⟩
       ·exact⟨rfl,by omega,rfl,rfl,rfl,rfl,by omega,by simp[maxLen]; omega,by omega⟩
       ·exact zU (j+1,jk,lv++[L[j].to]) ⟨h,by rw[hsn,hMj],hjk⟩ (by simp only; omega) (zP [0,1,2,3,4,5] 0 (by decide) (by simp) (by simp[zF,hMj,zB0,jBi]) (by simp[hw,jBi]))
       ·exact zU (j+1,[],lv++[L[j].to]) ⟨h,by rw[hsn,hMj],by simp⟩ (by simp only; omega) (zP [0,1,2,3,7,5] 0 (by decide) (by simp) (by simp[zF,hMj,hdl,zB0]) (by simp[hw]))
    ·rw[if_neg (by simp[c1])]at hsn;simp -implicitDefEqProofs [h,zBm h,zAX,zF,c1];exact zU (j+1,jk,lv) ⟨h,by rw[hsn,hM0],hjk⟩ (by simp only; omega) (zP [0,1,2,3,4,5] 0 (by decide) (by simp) (by simp[zF,hM0]) (by simp[hw]))
   ·have hjl':j=L.length:=by omega
    subst hjl';rw[jBa]at hN;rw[hN]at hnx;simp -implicitDefEqProofs;exact zU (jk,dn++[x],lv) ⟨by simpa using hnx,by simpa using hjk⟩ (by simp only[jA7,jC0]; omega) (zP [0,1,2,3,4] 0 (by decide) (by simp) (by simp[zF]) (by simp))
end Go.Proofs.YtdnelmeboihpkaaGreatDoor
namespace Go.Abs
section
variable {P:Program}{env:Env}{d:Option Nat} {σ : St}
theorem zSl {K:Env→St→Prop}{f:FuncId}{args args':List A}{r:A}{s0 s1:St}(h:Ret P f args s0 r (s0++s1))(js:List Nat)(hjs:js.Nodup)(hlen:s0.length=js.length)(ho:yL σ jH (zW js) js s0)(ha:zBu js args' args)
 (hput:qL σ js (s0.map (zA9 js σ.length)) = σ)(hq:K (env.put d (ren js σ.length r)) (σ++s1.map (zA9 js σ.length))):zIt P σ d K f args' env :=
 ⟨_,_,zAg.append _ _,zAH h js hjs ho ha ⟨rfl,by
  have:=zHt (js:=js) (ks:=[]) (s:=σ) (a:=s0.map (zA9 js σ.length)) (b:=s1.map (zA9 js σ.length)) (by simpa using hlen);rw[jCf,hput]at this;rw[jCu,this,qL]⟩,hq⟩
end
end Go.Abs
namespace Go.Proofs.YtdnelmeboihpkaaGreatDoor
open Go.Abs
theorem zOE (l:List Id)(h:l≠[])(hb:l.length≤1000000):Ret prog 100 [.row 0 l.length] [.row false 31 3 l.length (zQ l)] (.row 1 l.length) ([.row false 31 3 l.length (zQ l)]++[.row false 31 3 l.length (zQ l)]):=by
 refine zK Tryz.func100 rfl zVb (rs:=[.slot 2]) (by kernel_rfl) ?_;unfold zQr;have h0:l.length≠0:=by simpa using h
 simp -implicitDefEqProofs [h,h0,zTX];refine⟨⟨by simp[maxLen]; omega,by omega⟩,?_⟩;exact zI [0,1] 0 (by decide) (by simp) (by simp) (by simp)
theorem zNs:Ret prog 100 [.row 0 0] [.row false 31 3 0 []] (.sl 0 []) ([.row false 31 3 0 []]++[]):=by refine zK Tryz.func100 rfl zVb (rs:=[.slot 2]) (by kernel_rfl) ?_;unfold zQr;simp -implicitDefEqProofs [zTX];exact⟨zI [0] 0 (by simp) (by simp) (by simp) (by simp),zI [0] 0 (by simp) (by simp) (by simp) (by simp)⟩
@[simp] theorem zKd:∀(l:List Id) (k:Nat),zAZ k (zQ l)=true
 | [],_=>rfl
 | d::l,k=>by rw[zCM]; simp[zKd l k]
def zGP (L:List Edg)(to:Id)(n:Nat)(at_:Id)(met:List Id)(e:Edg):List (List Id):=if e.fro=at_∧e.to∉met then (zAy L to n e.to (met++[e.to])).map (e.id::·) else []
theorem zQJ {L:List Edg}{to:Id}{n:Nat}{at_:Id}{met:List Id}(h:at_≠to)(hn:zHP L met≤n):zAy L to n at_ met=L.flatMap (zGP L to (n-1) at_ met):=by
 cases n with
 | zero =>
  unfold zAy;rw[if_neg h];symm;rw[List.flatMap_eq_nil_iff];intro e he;unfold zGP;rw[if_neg];rintro⟨_,h'⟩;have:=zCy he h';omega
 | succ n =>
  unfold zAy;rw[if_neg h];rfl
theorem zUl {L:List Edg}{to:Id}{n:Nat}{at_:Id}{met:List Id}{e:Edg}(he:e∈L)(hn:zHP L met≤n)(h:e.fro≠at_∨e.to∈met∨¬Rchs L to met e.to):zGP L to (n-1) at_ met e=[]:=by
 unfold zGP;by_cases hc:e.fro=at_∧e.to∉met
 ·rw[if_pos hc];rcases h with h | h | h
  ·exact(h hc.1).elim
  ·exact(hc.2 h).elim
  ·have hlt:=zCy he hc.2;have:=zK2 (n-1) e.to (met++[e.to]) (L:=L) (to:=to) (by omega);rw[List.map_eq_nil_iff];refine Decidable.byContradiction fun h0=>h ?_
   exact(this.1 h0).mono fun x hx=>jBh _ hx
 ·rw[if_neg hc]
def zZ1:K:=K.wk (G [kO 7 0,kMb 8 false] (Z (G [J 12 7 3,J 13 1 3,⟨none,.eqs (some 14) false [.i,.i,.i] (kt 12) (kt 13)⟩] (Y 14 (Z (K.dops [(0,1,L 15 2 1),(1,1,L 16 3 1),(2,3,kC 17 100 [(kt 16)]),(3,4,⟨none,.call (some 18) (kt 15) [(kt 17)]⟩),(4,0,M 8 18)]) kr) ks)) (Z (G [L 19 4 1,kN 20 19,kMi 21 0] (K.block 0 (K.loop (G [kB 22 21 20 .lss] (Z (Y 22 ks (K.exit 0)) (Z (K.block 1 (G [kX 23 19 21 9,J 24 23 9,kZ 10 [ki,ki,ki,ki,ki,ki,ki,ki,ki],S 10 24 9] (Z (G [D 25 10 3,J 26 25 3,J 27 7 3,⟨none,.eqs (some 28) true [.i,.i,.i] (kt 26) (kt 27)⟩,M 29 28,T 29 false (L 30 5 1),T 29 false (D 31 10 6),T 29 false (J 32 31 3),⟨some (29,false),.mop (some 33) (.get 3 (.bool false) false) [(kt 30),(kt 32)]⟩,kPt 34 29 33,M 35 34,T 35 false (L 36 4 1),T 35 false (D 37 10 6),T 35 false (J 38 37 3),T 35 false (J 39 1 3),T 35 false (L 40 5 1),T 35 false (kC 41 101 [(kt 36),(kt 38),(kt 39),(kt 40)]),T 35 false (kR 42 41),kPt 43 35 42] (Y 43 (K.exit 1) ks)) (G [L 44 5 1,D 45 10 6,J 46 45 3,⟨none,.mop none (.set 3) [(kt 44),(kt 46),(.const (.bool true))]⟩] (G [L 47 3 1,D 48 10 0,J 49 48 3,kd 50 31 3 1 [ki,ki,ki] [(0,3,(kt 49))],kP 51 31 3 24 47 50,S 3 51 1] (G [L 52 6 1,D 53 10 6,J 54 53 3,⟨none,.call (some 55) (kt 52) [(kt 54)]⟩,M 11 55] (G [L 56 3 1,L 57 3 1,kN 58 57,kBi 59 58 1 .sub,⟨none,.shr (some 60) (kt 56) 3 (kt 59)⟩,S 3 60 1] (G [L 61 5 1,D 62 10 6,J 63 62 3,⟨none,.mop none (.del 3) [(kt 61),(kt 63)]⟩] (G [M 64 11,kR 65 64] (Y 65 (G [kMb 8 false] kr) ks)))))))))) (K.ops [kBi 66 21 1 .add,
 M 21 66]))))))) (G [kMb 8 true] kr))))
def qIh:Nat→Option (List (Nat×Nat)):=fun r=>match r with | 2=>some [(0,1),(1,1),(2,3),(3,4),(4,0)] | _=>none
theorem qGV:qF prog Tryz.f99.ntmps qIh (Tryz.f99.body.getD .skip)=some zZ1.erase:=by kernel_rfl
@[simp] theorem zXA:zA prog 99=true:=by kernel_rfl
def zDn (b m:Nat)(L:List Edg)(to:Id)(fr:Bool)(met:List Id)(l n:Nat):St :=
 [.box [yv b],.box [.sl L.length (yE L)],.mp fr 3 (mrk met),.box [.map (m+2)],.box [.row (m+l) n],.box [.clo 99 [] [.rptr (zF to),.ptr m 0,.ptr (m+4) 0,.ptr (m+1) 0,.ptr (m+3) 0,.ptr (m+5) 0]]]
def zLO (b m:Nat)(L:List Edg)(to:Id)(fr:Bool)(met path:List Id):St:=zDn b m L to fr met 6 path.length++[AObj.row false 31 3 path.length (zQ path)]
def zJM (b m:Nat)(L:List Edg)(to:Id)(met path:List Id):St:=zDn b m L to false met 7 path.length++[AObj.dead,AObj.row false 31 3 path.length (zQ path)]
theorem zXn {n0 b m:Nat}{L:List Edg}{to:Id}{fr:Bool}{met path:List Id}{S:St}(hS:S.length=m){env:Env}:zA0 n0 env (S++zJM b m L to met path) env (S++zLO b m L to fr met path):=by
 have h1:=zZg (n0:=n0) (env:=env) (σ:=S++zLO b m L to fr met path) (j:=m+4) (o:=0) (l:=m+6) (n:=path.length) (sz:=3) (e:=31) (ds:=[.row (m+6) path.length]) (cs:=zQ path)
  (by rw[yV hS]; rfl) rfl (by rw[yV hS]; rfl)
 have e1:((S++zLO b m L to fr met path).set (m+6) .dead).set (m+4) (.box ([A.row (m+6) path.length].set 0 (.row (S++zLO b m L to fr met path).length path.length)))++[AObj.row false 31 3 path.length (zQ path)] =
  S++(zDn b m L to fr met 7 path.length++[AObj.dead,AObj.row false 31 3 path.length (zQ path)]):=by
  rw[zAB hS,zAB hS,jB1,jA7,hS];simp[zLO,zDn]
 rw[e1]at h1;have h2:=zL2 (n0:=n0) (env:=env) (σ:=S++(zDn b m L to fr met 7 path.length++[AObj.dead,AObj.row false 31 3 path.length (zQ path)])) (l:=m+2) (nk:=3) (fr:=fr) (es:=mrk met) (by rw[yV hS]; rfl);have e2:(S++(zDn b m L to fr met 7 path.length++[AObj.dead,AObj.row false 31 3 path.length (zQ path)])).set (m+2) (.mp false 3 (mrk met))=S++zJM b m L to met path:=by rw[zAB hS];simp[zJM,zDn]
 rw[e2]at h2;exact h1.trans h2
def zJU (m:Nat)(at_ to:Id):List A:=[.agg (zF at_),.rptr (zF to),.ptr m 0,.ptr (m+4) 0,.ptr (m+1) 0,.ptr (m+3) 0,.ptr (m+5) 0]
theorem zUr {L:List Edg}(hL:L.length≤1000)(to:Id)(b m:Nat)(T:Nat→St)(X:List (List A))(hT:∀i,i≤X.length→Cl m (T i))
 (hY:∀i (h:i<X.length),zCp prog b X[i] (T i) fun o τ=>o=.ret (.lit (.bool true))∧τ = T (i+1)) :
 ∀(n:Nat) (at_:Id) (met path:List Id) (fr:Bool) (i:Nat),zHP L met≤n→path.length+n≤2000→i+(zAy L to n at_ met).length≤X.length →
  (∀q (hq:q<(zAy L to n at_ met).length) (h:i+q<X.length),X[i+q]=[.sl (path++(zAy L to n at_ met)[q]).length (zQ (path++(zAy L to n at_ met)[q]))]) →
  Ret prog 99 (zJU m at_ to) (T i++zLO b m L to fr met path) (bl true) (T (i+(zAy L to n at_ met).length)++zJM b m L to met path):=by
 intro n;induction n using Nat.strongRecOn with
 | ind n ih =>
 intro at_ met path fr i hn hpn hi hX
 have hTi:=hT i (by omega);have hTe:=hT (i+(zAy L to n at_ met).length) hi;have hlen0:(T i++zLO b m L to fr met path).length=m+7:=by rw[jA7,hTi.1]; simp[zLO,zDn]
 refine qS Tryz.func99 rfl qGV (rs:=[.slot 8]) (by kernel_rfl) ?_;unfold zZ1;rw[qD9,hlen0];rw[qDA];refine⟨_,_,zXn hTi.1,?_⟩;unfold zJU;simp -implicitDefEqProofs [zJM,zDn,hTi.1,yV hTi.1,zAe hTi.1,zF];by_cases hat:at_=to
 ·have hE:zAy L to n at_ met=[[]]:=by subst hat; cases n<;>simp[zAy]
  subst hat;rw[hE]at hX hTe hi;simp only[jC0]at hX hTe hi;have hyi:=hY i (by omega);have hXi:=hX 0 (by omega) (by omega);simp only[jBn,jDg,jCf]at hXi;rw[hXi]at hyi;rw[hE,jC0];simp -implicitDefEqProofs [hTi.1,yV hTi.1,zAe hTi.1,zH5];by_cases hp:path=[]
  ·subst hp;refine zSl zNs [m+7] (by simp) rfl (by simp[yV hTi.1]) (by simp) (by simp[zAB hTi.1]) ?_;simp -implicitDefEqProofs [hTi.1,yV hTi.1,zAe hTi.1];refine⟨_,_,zI2 hTi hTe hyi (by simp) ⟨rfl,rfl⟩,?_⟩;exact zIV (own':=zJM b m L at_ met []) hTe rfl [0,1,2,3,4,5,6,7] 0 (by decide) (by decide) (by simp[zJM,zDn,zF]) (by simp)
  ·refine zSl (zOE path hp (by omega)) [m+7] (by simp) rfl (by simp[yV hTi.1]) (by simp) (by simp[zAB hTi.1]) ?_;simp -implicitDefEqProofs [hTi.1,yV hTi.1,zAe hTi.1];refine exY (k:=9) rfl hTi hTe (zKd path 0) hyi ?_;simp -implicitDefEqProofs;exact zIV (own':=zJM b m L at_ met path) hTe rfl [0,1,2,3,4,5,6,7] 0 (by decide) (by decide) (by simp[zJM,zDn,zF]) (by simp)
 ·have hE:=zQJ (L:=L) (n:=n) (met:=met) hat hn;generalize hEE:zAy L to n at_ met=E at *
  have hspl:∀j,E=(L.take j).flatMap (zGP L to (n-1) at_ met)++(L.drop j).flatMap (zGP L to (n-1) at_ met):=fun j=>by rw[←jCi,jCd]; exact hE
  obtain⟨cnt,hcd⟩:∃cnt:Nat→Nat,∀j,cnt j=((L.take j).flatMap (zGP L to (n-1) at_ met)).length:=⟨_,fun _=>rfl⟩;have hcnt:∀j,cnt j≤E.length:=fun j=>by rw[hcd,hspl j,jA7]; omega
  have hc0:cnt 0=0:=by rw[hcd]; simp
  have hcL:cnt L.length=E.length:=by rw[hcd,jBa,hE]
  simp -implicitDefEqProofs [hTi.1,yV hTi.1,zAe hTi.1,hat];intro hlm;refine jX (S:=Nat) (fun j=>[(1,.rptr (zF to)),(2,.ptr m 0),(3,.ptr (m+4) 0),(4,.ptr (m+1) 0),(5,.ptr (m+3) 0),(6,.ptr (m+5) 0),(7,.ptr (m+8) 0),(19,.sl L.length (yE L)),(20,int L.length),(21,int j)])
   (fun j=>T (i+cnt j)++(zDn b m L to false met 7 path.length++[AObj.dead,AObj.row false 31 3 path.length (zQ path),AObj.box (zF at_)]))
   (fun j=>j≤L.length) (fun j=>L.length-j) 0 (by simp) ?_ ?_
  ·rw[hc0];exact zNa hTi rfl [0,1,2,3,4,5,6,7,8] 0 (by decide) (by decide) (by simp[zDn,zF]) (by simp[zF])
  intro j hj;have hTj:=hT (i+cnt j) (by have:=hcnt j; omega);by_cases h:j<L.length
  ·have hw:=zBg j (by omega);have hel:L[j]∈L:=jA3 h;have hsucc:cnt (j+1)=cnt j+(zGP L to (n-1) at_ met L[j]).length:=by rw[hcd,hcd,jAh h,jCi,List.flatMap_singleton,jA7]
   have hle:=hcnt (j+1);have hg:=zKE L[j].to met;have hnone:=zUl (L:=L) (to:=to) (at_:=at_) (met:=met) hel hn;by_cases c1:L[j].fro=at_
   ·by_cases c2:L[j].to∈met
    ·rw[hnone (.inr (.inl c2)),jBq,jBn]at hsucc;simp -implicitDefEqProofs [zDn,hTj.1,yV hTj.1,zAe hTj.1,zAB hTj.1,h,zBm h,zAX,zF,c1,c2,hg];refine zU (j+1) h (by omega) ?_;rw[hsucc];exact zNa hTj rfl [0,1,2,3,4,5,6,7,8] 0 (by decide) (by decide) (by simp[zDn,zF]) (by simp[zF,hw])
    ·simp -implicitDefEqProofs [zDn,hTj.1,yV hTj.1,zAe hTj.1,zAB hTj.1,h,zBm h,zAX,zF,c1,c2,hg];refine jN (zR5 L hL L[j].to to met false) [m+2] (by simp) (by simp[yV hTj.1]) (by simp[zF]) ?_;simp -implicitDefEqProofs [hTj.1,yV hTj.1,zAe hTj.1,zAB hTj.1];by_cases c3:Rchs L to met L[j].to
     ·have hlt:=zCy hel c2;have hpe:zGP L to (n-1) at_ met L[j]=(zAy L to (n-1) L[j].to (met++[L[j].to])).map (L[j].id::·):=by rw[zGP,if_pos ⟨c1,c2⟩]
      have hput:=zLk L[j].to met c2;have hdel:=zOH L[j].to met c2;simp only[zHm]at hput hdel;rw[hpe,jB4]at hsucc;have hsucc':i+cnt (j+1)=i+cnt j+(zAy L to (n-1) L[j].to (met++[L[j].to])).length:=by omega
      have hcall:=ih (n-1) (by omega) L[j].to (met++[L[j].to]) (path++[L[j].id]) false (i+cnt j) (by omega) (by simp; omega) (by omega) (fun q hq hqx=>by
       have h2:cnt j+q<E.length:=by omega
       have:=hX (cnt j+q) h2 (by omega);have hEq:E[cnt j+q]=L[j].id::(zAy L to (n-1) L[j].to (met++[L[j].to]))[q]:=by
        have h3:E[cnt j+q]?=some (L[j].id::(zAy L to (n-1) L[j].to (met++[L[j].to]))[q]):=by rw[hspl j,jAo (by rw[←hcd]; omega),←hcd,Nat.add_sub_cancel_left,jAy h,jBg,hpe,jAc (by simpa using hq),jCl,jA2 hq];rfl
        rw[jA2 h2]at h3;exact jAz h3
       rw[hEq]at this
       simpa [jBi] using this)
      have hT1:=hT (i+cnt j+(zAy L to (n-1) L[j].to (met++[L[j].to])).length) (by omega);simp -implicitDefEqProofs [hTj.1,yV hTj.1,zAe hTj.1,zAB hTj.1,c3,hput];refine⟨⟨by simp[maxLen]; omega,by omega⟩,?_⟩;have hcs:zQ (path++[L[j].id])=zQ path++[.lit (.int .i64 L[j].id.a),.lit (.int .i64 L[j].id.b),.lit (.int .i64 L[j].id.c)]:=by rw[zB0]; rfl
      have htk:(zQ path++[A.lit (.int .i64 L[j].id.a),.lit (.int .i64 L[j].id.b),.lit (.int .i64 L[j].id.c)]).take (path.length*3)=zQ path:=by rw[jC (by simp)];exact jAm (by simp)
      refine zVm hTj hT1 hcall [0,1,2,3,4,5,7] (by decide) (by simp[zLO,zDn,zF,hcs]) (by simp[zJU,zF]) ?_;have hwp:IntKind.i64.wrap (path.length:Int)=path.length:=IntWalk.i64_in _ (by omega);simp -implicitDefEqProofs [zJM,zDn,zF,hcs,hT1.1,yV hT1.1,zAe hT1.1,zAB hT1.1,hdel,hwp,htk];refine⟨by omega,?_⟩;refine zU (j+1) h (by omega) ?_;rw[hsucc'];exact zNa hT1 rfl [0,1,2,3,4,5,6,11,8] 0 (by decide) (by decide) (by simp[zDn,zF]) (by simp[zF,hw])
     ·rw[hnone (.inr (.inr c3)),jBq,jBn]at hsucc;simp -implicitDefEqProofs [c3];refine zU (j+1) h (by omega) ?_;rw[hsucc];exact zNa hTj rfl [0,1,2,3,4,5,6,7,8] 0 (by decide) (by decide) (by simp[zDn,zF]) (by simp[zF,hw])
   ·rw[hnone (.inl c1),jBq,jBn]at hsucc;simp -implicitDefEqProofs [zDn,hTj.1,yV hTj.1,zAe hTj.1,zAB hTj.1,h,zBm h,zAX,zF,c1];refine zU (j+1) h (by omega) ?_;rw[hsucc];exact zNa hTj rfl [0,1,2,3,4,5,6,7,8] 0 (by decide) (by decide) (by simp[zDn,zF]) (by simp[zF,hw])
  ·have hj':j=L.length:=by omega
   subst hj';rw[hcL]at hTj ⊢;simp -implicitDefEqProofs [hTj.1,yV hTj.1,zAe hTj.1];exact zIV (own':=zJM b m L to met path) hTe rfl [0,1,2,3,4,5,6,7] 0 (by decide) (by decide) (by simp[zJM,zDn,zF]) (by simp)
end Go.Proofs.YtdnelmeboihpkaaGreatDoor

/-
  Soundness of the operations that leave the state alone: comparison, building, slicing; and all in one.
  Soundness: building structs and arrays; all operations that leave the state alone, in one theorem.
-/
import Derived.Test.YthglhccibdlccaaGreatDoorX3
import Derived.Laws.StructEq
set_option linter.unusedVariables false
set_option linter.unusedSimpArgs false
namespace Go.Abs
section
variable {P:Program}{H:Mem}{L:List LI} {σ : St}{w:World}{N:Nat}{env:Env}{a:Act}
theorem zC0 (he:qI H L N env a.tmps){d:Nat}{x:Operand}{l:Int}(h:qO env d (some x)=some l):∃k,a.eval x=.int k l:=by
 have hx:=qR he x;simp only[qO]at h;split at h<;>try (cases h; done)
 rename_i k j hxe;cases h;rw[hxe]at hx;simp only[Rel]at hx;exact⟨k,hx⟩
theorem zAb {k:IntKind}{i:Int}{y:Nat}{code:BoundsCode}(h0:0≤i)(h1:i≤y):(Instr.sliceBound (.int k i) y code).run P w=.ok i.toNat w:=by simp[Instr.sliceBound,asIntOf,h0,h1]
theorem zAD (he:qI H L N env a.tmps){n cap:Nat}{lo hi:Option Operand}{l h:Int}(hl:qO env 0 lo=some l)(hh:qO env n hi=some h)
 (h0:0≤l)(h1:l≤h)(h2:h≤n)(hc:n≤cap):(Instr.sliceBounds true n cap (lo.map a.eval) (hi.map a.eval) none).run P w=.ok (l.toNat,h.toNat,cap) w:=by
 unfold Instr.sliceBounds;cases hi with
 | none =>
  simp only[qO,Option.some.injEq]at hh;subst hh;cases lo with
  | none =>
   simp only[qO,Option.some.injEq]at hl;subst hl;simp
  | some x =>
   obtain⟨k,hx⟩:=zC0 he hl;have h1':l≤((n:Nat):Int):=h1;simp[hx,zAb h0 h1']
 | some y =>
  obtain⟨k,hy⟩:=zC0 he hh;have h0':0≤h:=by omega
  have h2':h≤((cap:Nat):Int):=by omega
  cases lo with
  | none =>
   simp only[qO,Option.some.injEq]at hl;subst hl;simp[hy,zAb h0' h2']
  | some x =>
   obtain⟨k',hx⟩:=zC0 he hl;have h1':l≤((h.toNat:Nat):Int):=by omega
   simp[hy,hx,zAb h0' h2',zAb h0 h1']
theorem zCw (he:qI H L N env a.tmps){n cap:Nat}{lo:Option Operand}{hi mx:Operand}{l h m:Int}(hl:qO env 0 lo=some l)(hh:qO env n (some hi)=some h)
 (hm:qO env n (some mx)=some m)(h0:0≤l)(h1:l≤h)(h2:h≤n)(hmh:m=h)(hc:n≤cap) :
 (Instr.sliceBounds true n cap (lo.map a.eval) (some (a.eval hi)) (some (a.eval mx))).run P w=.ok (l.toNat,h.toNat,h.toNat) w:=by
 subst hmh;obtain⟨k,hy⟩:=zC0 he hh;obtain⟨k',hz⟩:=zC0 he hm;have h0':0≤m:=by omega
 have h2':m≤((cap:Nat):Int):=by omega
 have h3':m≤((m.toNat:Nat):Int):=by omega
 unfold Instr.sliceBounds;cases lo with
 | none =>
  simp only[qO,Option.some.injEq]at hl;subst hl;simp[hy,hz,zAb h0' h2',zAb h0' h3']
 | some x =>
  obtain⟨k'',hx⟩:=zC0 he hl;have h1':l≤((m.toNat:Nat):Int):=by omega
  simp[hy,hz,hx,zAb h0' h2',zAb h0' h3',zAb h0 h1']
theorem zSv {o:Oper}{t e:TypeId}{x:Operand}{lo hi mx:Option Operand}{i:TypeInfo}(ho:o.op=.slice t x lo hi mx)
 (hu:P.underlying t=some (.slice e))(hi':P.info? e=some i)(he:qI H L N env a.tmps){r:A}{p:Prop}
 (h:zO env σ (.slc o.dst x i.size lo hi mx)=some (p,r))(hp:p):zAl P H L w a o r:=by
 have hx:=qR he x;have fin:∀ad n cap l h m,a.eval x=.slice ad n cap→(Instr.sliceBounds true n cap (lo.map a.eval) (hi.map a.eval) (mx.map a.eval)).run P w=.ok (l,h,m) w →
  Rel H L r (.slice (if m=l then ad else ad.map (·.add (l*i.size))) (h-l) (m-l))→zAl P H L w a o r:=by
  intro ad n cap l h m hv hb hr;refine⟨_,?_,hr⟩;unfold execOp;simp only[ho];refine qQ ?_;simp[Instr.sliceAt,Instr.slice,run_underlying hu,hv,hb,yE hi']
 have part2:∀(ad:Option Addr) (n cap:Nat) (cs:List A) (l h:Int),n≤cap→cap≤maxLen→(n=0∧cs=[]∨∃b o,∃us:List Value,ad=some ⟨b,o,none⟩∧zX H L cs us∧(∀u∈us,one u)∧At H b o us) →
  0≤l→l≤h→h≤n→Rel H L (.sl (h-l).toNat ((cs.drop (l.toNat*i.size)).take ((h-l).toNat*i.size))) (.slice (if cap=l.toNat then ad else ad.map (·.add (l.toNat*i.size))) (h.toNat-l.toNat) (cap-l.toNat)):=by
  intro ad n cap cs l h hc hm hcs h0 h1 h2;have e1:h.toNat-l.toNat=(h-l).toNat:=by omega
  simp only[Rel,e1];refine⟨_,_,rfl,by omega,by omega,?_⟩;by_cases hz:(h-l).toNat=0
  ·exact .inl ⟨hz,by simp[hz]⟩
  ·right;have hne:¬cap=l.toNat:=by omega
   rcases hcs with ⟨rfl,rfl⟩ | ⟨b,off,us,rfl,g1,g2,g3⟩
   ·omega
   ·refine⟨b,off+l.toNat*i.size,_,?_,(g1.drop _).take _,zAM g2,(g3.drop _).take _⟩;simp[hne,Addr.add_lit]
 have part3:∀(ad:Option Addr) (n cap:Nat) (cs:List A) (l h:Int),n≤cap→cap≤maxLen→(n=0∧cs=[]∨∃b o,∃us:List Value,ad=some ⟨b,o,none⟩∧zX H L cs us∧(∀u∈us,one u)∧At H b o us) →
  0≤l→l≤h→h≤n→Rel H L (.fsl (h-l).toNat ((cs.drop (l.toNat*i.size)).take ((h-l).toNat*i.size))) (.slice (if h.toNat=l.toNat then ad else ad.map (·.add (l.toNat*i.size))) (h.toNat-l.toNat) (h.toNat-l.toNat)):=by
  intro ad n cap cs l h hc hm hcs h0 h1 h2;have e1:h.toNat-l.toNat=(h-l).toNat:=by omega
  simp only[Rel,e1];refine⟨_,rfl,by omega,?_⟩;by_cases hz:(h-l).toNat=0
  ·exact .inl ⟨hz,by simp[hz]⟩
  ·right;have hne:¬h.toNat=l.toNat:=by omega
   rcases hcs with ⟨rfl,rfl⟩ | ⟨b,off,us,rfl,g1,g2,g3⟩
   ·omega
   ·refine⟨b,off+l.toNat*i.size,_,?_,(g1.drop _).take _,zAM g2,(g3.drop _).take _⟩;simp[hne,Addr.add_lit]
 cases mx with
 | none =>
  simp only[zO]at h;split at h<;>try (cases h; done)
  ·rename_i n cs hxe;split at h<;>try (cases h; done)
   rename_i l hh hl hhb;cases h;rw[hxe]at hx;simp only[Rel]at hx;obtain⟨ad,cap,hv,g1,g2,g3⟩:=hx;exact fin ad n cap _ _ _ hv (zAD he hl hhb hp.1 hp.2.1 hp.2.2 g1) (part2 ad n cap cs l hh g1 g2 g3 hp.1 hp.2.1 hp.2.2)
  ·rename_i n cs hxe;split at h<;>try (cases h; done)
   rename_i l hh hl hhb;cases h;rw[hxe]at hx;simp only[Rel]at hx;obtain⟨ad,hv,g2,g3⟩:=hx;exact fin ad n n _ _ _ hv (zAD he hl hhb hp.1 hp.2.1 hp.2.2 (Nat.le_refl _)) (part2 ad n n cs l hh (Nat.le_refl _) g2 g3 hp.1 hp.2.1 hp.2.2)
  ·rename_i hxe;split at h<;>try (cases h; done)
   rename_i l hh hl hhb;cases h;rw[hxe]at hx;simp only[Rel]at hx;obtain⟨rfl,rfl⟩:=hp;exact fin none 0 0 _ _ _ hx (zAD (n:=0) (cap:=0) he hl hhb (by omega) (by omega) (by simp) (by omega)) (by simp[Rel])
 | some mx =>
  cases hi with
  | none=>simp only[zO]at h; cases h
  | some hi =>
   simp only[zO]at h;split at h<;>try (cases h; done)
   ·rename_i n cs hxe;split at h<;>try (cases h; done)
    rename_i l hh m hl hhb hmb;cases h;rw[hxe]at hx;simp only[Rel]at hx;obtain⟨ad,cap,hv,g1,g2,g3⟩:=hx;exact fin ad n cap _ _ _ hv (zCw he hl hhb hmb hp.1.1 hp.1.2.1 hp.1.2.2 hp.2 g1) (part3 ad n cap cs l hh g1 g2 g3 hp.1.1 hp.1.2.1 hp.1.2.2)
   ·rename_i n cs hxe;split at h<;>try (cases h; done)
    rename_i l hh m hl hhb hmb;cases h;rw[hxe]at hx;simp only[Rel]at hx;obtain⟨ad,hv,g2,g3⟩:=hx;exact fin ad n n _ _ _ hv (zCw he hl hhb hmb hp.1.1 hp.1.2.1 hp.1.2.2 hp.2 (Nat.le_refl _)) (part3 ad n n cs l hh (Nat.le_refl _) g2 g3 hp.1.1 hp.1.2.1 hp.1.2.2)
   ·rename_i hxe;split at h<;>try (cases h; done)
    rename_i l hh m hl hhb hmb;cases h;rw[hxe]at hx;simp only[Rel]at hx;obtain⟨⟨rfl,rfl⟩,rfl⟩:=hp;exact fin none 0 0 _ _ _ hx (zCw (n:=0) (cap:=0) he hl hhb hmb (by omega) (by omega) (by simp) rfl (by omega)) (by simp[Rel])
theorem zPJ {o:Oper}{t e:TypeId}{x:Operand}{lo hi:Option Operand}{i:TypeInfo}(ho:o.op=.slice t x lo hi none)
 (hu:P.underlying t=some (.slice e))(hi':P.info? e=some i)(he:qI H L N env a.tmps)(hs:RelSt H L σ w){r:A}{p:Prop}
 (h:zO env σ (.rslc o.dst x i.size lo hi)=some (p,r))(hp:p):zAl P H L w a o r:=by
 have hx:=qR he x;have fin:∀ad n cap l h m,a.eval x=.slice ad n cap→(Instr.sliceBounds true n cap (lo.map a.eval) (hi.map a.eval) none).run P w=.ok (l,h,m) w →
  Rel H L r (.slice (if m=l then ad else ad.map (·.add (l*i.size))) (h-l) (m-l))→zAl P H L w a o r:=by
  intro ad n cap l h m hv hb hr;refine⟨_,?_,hr⟩;unfold execOp;simp only[ho];refine qQ ?_;simp[Instr.sliceAt,Instr.slice,run_underlying hu,hv,hb,yE hi']
 simp only[zO]at h;split at h<;>try (cases h; done)
 ·rename_i l n hxe;split at h<;>try (cases h; done)
  rename_i fz e' sz m ds hds;split at h<;>try (cases h; done)
  rename_i hn;obtain⟨hn,rfl⟩:=hn;split at h<;>try (cases h; done)
  rename_i l' hh hl hhb;cases h;rw[hxe]at hx;simp only[Rel]at hx;obtain⟨_,li,e1,e2,e3,hv⟩:=hx;have hob:=hs.obj l li _ e1 hds;simp only[zW]at hob;obtain⟨_,hlen,_,hob⟩:=hob;have hv:=hv (by rw[hn,hlen]);obtain⟨p1,p2,p3⟩:=hp;rcases hob with ⟨hb,h0⟩ | ⟨b,cur,hb,_,k2,k3,_⟩
  ·rw[hb]at hv;have hn0:n=0:=by omega
   have hv':a.eval x=.slice none n 0:=by rw[hn0]; exact hv
   refine fin none n 0 _ _ _ hv' (zAD he hl hhb p1 p2 p3 (by omega)) ?_;have hkz:(hh-l').toNat=0:=by omega
   have e5:hh.toNat-l'.toNat=0:=by omega
   simp only[Rel,hkz,e5];refine⟨rfl,li,e1,e2,e3,fun _=>⟨Nat.zero_le _,_,_,rfl,Nat.zero_le _,by omega,.inl trivial⟩⟩
  ·rw[hb]at hv;refine fin _ n li.cap _ _ _ hv (zAD he hl hhb p1 p2 p3 (by omega)) ?_;have e5:hh.toNat-l'.toNat=(hh-l').toNat:=by omega
   simp only[Rel,e5];refine⟨rfl,li,e1,e2,e3,fun _=>⟨by omega,_,_,rfl,by omega,by omega,?_⟩⟩;by_cases hz:(hh-l').toNat=0
   ·exact .inl hz
   ·have hne:¬li.cap=l'.toNat:=by omega
    exact .inr ⟨b,hb,by simp[hne,Addr.add_lit]⟩
 ·rename_i l n off k' _ hxe;split at h<;>try (cases h; done)
  rename_i fz e' sz m ds hds;split at h<;>try (cases h; done)
  rename_i hn;obtain⟨hn,rfl⟩:=hn;split at h<;>try (cases h; done)
  rename_i l' hh hl hhb;cases h;rw[hxe]at hx;simp only[Rel]at hx;obtain⟨_,li,e1,e2,e3,hv⟩:=hx;have hob:=hs.obj l li _ e1 hds;simp only[zW]at hob;obtain⟨_,hlen,_,hob⟩:=hob;obtain⟨g0,ad,cap,hv,g1,g2,g3⟩:=hv (by rw[hn,hlen]);obtain⟨p1,p2,p3⟩:=hp;refine fin _ k' cap _ _ _ hv (zAD he hl hhb p1 p2 p3 g1) ?_;have e5:hh.toNat-l'.toNat=(hh-l').toNat:=by omega
  simp only[Rel,e5];refine⟨rfl,li,e1,e2,e3,fun _=>⟨by omega,_,_,rfl,by omega,by omega,?_⟩⟩;by_cases hz:(hh-l').toNat=0
  ·exact .inl hz
  ·have hne:¬cap=l'.toNat:=by omega
   rcases g3 with g3 | ⟨b,hb,rfl⟩
   ·omega
   ·exact .inr ⟨b,hb,by simp[hne,Addr.add_lit,Nat.add_assoc]⟩
open Classical in
theorem zEd (p:Prop):zAJ false p=.lit (.bool (decide p)):=by simp[zAJ]
open Classical in
theorem zEY (p:Prop):zAJ true p=.lit (.bool (decide (¬p))):=by simp[zAJ]
theorem zJM (a b:ByteArray):(a.toList==b.toList)=@decide (a=b) (Classical.propDecidable _):=by
 by_cases hab:a=b
 ·subst hab; simp
 ·have hne:¬a.toList=b.toList:=fun e=>hab (by
   rw[ByteArray.toList_eq,ByteArray.toList_eq]at e;cases a; cases b;simp only at e
   congr
   exact Array.ext' e)
  simp[hab,hne]
open Classical in
theorem zLH {k:SK}{x y:A}{p:Prop}(h:zB6 k x y=some p){t:TypeId}(hk:zKS P t=some k)(d:Nat):∃u v,x=.lit u∧y=.lit v∧one u∧one v∧(Op.equalIn (d+1) t u v).run P w=.ok (decide p) w:=by
 unfold zB6 at h;unfold zKS at hk;split at h<;>try (cases h; done)
 ·rename_i k a k' b;split at h<;>try (cases h; done)
  rename_i he;subst he;cases h;split at hk<;>try (cases hk; done)
  rename_i D hD;refine⟨_,_,rfl,rfl,rfl,rfl,?_⟩;rw[run_equalIn_int w d t k _ a b hD];by_cases hab:a=b<;>simp[hab]
 ·rename_i a b;cases h;split at hk<;>try (cases hk; done)
  rename_i hD;refine⟨_,_,rfl,rfl,rfl,rfl,?_⟩;rw[run_equalIn_bool' w d t a b hD];cases a<;>cases b<;>simp
 ·rename_i a b;cases h;split at hk<;>try (cases hk; done)
  rename_i hD;refine⟨_,_,rfl,rfl,rfl,rfl,?_⟩;rw[run_equalIn_string w d t a b hD,zJM]
open Classical in
theorem zSc {k:SK}{x y:A}{p:Prop}(h:zB6 k x y=some p){t:TypeId}(hk:zKS P t=some k)(xo yo:Operand):∃u v,x=.lit u∧y=.lit v ∧
 (do eqGuard .eql t xo yo u v; binOp .eql t u v:Sem Value).run P w=.ok (.bool (decide p)) w∧(do eqGuard .neq t xo yo u v; binOp .neq t u v:Sem Value).run P w=.ok (.bool (decide ¬p)) w:=by
 unfold zB6 at h;unfold zKS at hk;split at h<;>try (cases h; done)
 ·rename_i k a k' b;split at h<;>try (cases h; done)
  rename_i he;subst he;cases h;refine⟨_,_,rfl,rfl,?_,?_⟩
  ·rw[Sem.run_bind,zF0,Result.andThen_ok];by_cases hab:a=b<;>simp[binOp,Op.intCmp,hab]
  ·rw[Sem.run_bind,zF0,Result.andThen_ok];by_cases hab:a=b<;>simp[binOp,Op.intCmp,hab]
 ·rename_i a b;cases h;split at hk<;>try (cases hk; done)
  rename_i hD;refine⟨_,_,rfl,rfl,?_,?_⟩
  ·simp[eqGuard,binOp,Op.equal,Op.maxDepth,run_equalIn_bool' w 9999 t a b hD];cases a<;>cases b<;>simp
  ·simp[eqGuard,binOp,Op.equal,Op.maxDepth,run_equalIn_bool' w 9999 t a b hD];cases a<;>cases b<;>simp
 ·rename_i a b;cases h;refine⟨_,_,rfl,rfl,?_,?_⟩
  ·simp[eqGuard,binOp,Op.stringOp,zJM]
  ·simp[eqGuard,binOp,Op.stringOp,zJM]
theorem zEX {t:TypeId}{k:SK}(h:zKS P t=some k):(isAgg t).run P w=.ok false w:=by
 unfold zKS at h;split at h<;>try (cases h; done)
 all_goals (rename_i hD; rw[zDu hD]; rfl)
open Classical in
theorem zFz (d:Nat):∀(ks:List SK) (fs:List Field) (o:Nat) (xs ys:List A) (p:Prop) (us vs us0 vs0:List Value),zEu P o fs=some ks→yT ks xs ys=some p →
 zX H L xs us→zX H L ys vs→us0.length=o→vs0.length=o→(Op.eqFields (d+1) (us0++us).toArray (vs0++vs).toArray fs).run P w=.ok (decide p) w
 | ks,[],o,xs,ys,p,us,vs,us0,vs0,hf,he,hx,hy,h1,h2=>by
  simp only[zEu,Option.some.injEq]at hf;subst hf;unfold yT at he;split at he<;>try (cases he; done)
  ·cases he; simp[Op.eqFields]
  ·cases ‹([]:List SK)=_::_›
 | ks,f::fs,o,xs,ys,p,us,vs,us0,vs0,hf,he,hx,hy,h1,h2=>by
  simp only[zEu]at hf;split at hf<;>try (cases hf; done)
  rename_i hof;obtain⟨hof,hnm⟩:=hof;split at hf<;>try (cases hf; done)
  rename_i k ks' hk hks;cases hf;cases xs with
  | nil=>simp[yT]at he
  | cons x xs' =>
  cases ys with
  | nil=>simp[yT]at he
  | cons y ys' =>
  simp only[yT]at he;split at he<;>try (cases he; done)
  rename_i p1 q1 hp1 hq1;cases he;obtain⟨u,us',rfl,hu,hus⟩:=qA hx;obtain⟨v,vs',rfl,hv,hvs⟩:=qA hy;obtain⟨u',v',rfl,rfl,_,_,hrun⟩:=zLH (w:=w) hp1 hk d;simp only[Rel]at hu hv;subst hu;subst hv;have hpu:(part f.type (us0++u::us').toArray f.offset).run P w=.ok u w:=by
   unfold part;rw[Sem.run_bind,zEX hk,Result.andThen_ok];have:(us0++u::us')[f.offset]?=some u:=by rw[hof,←h1]; simp
   simp[this]
  have hpv:(part f.type (vs0++v::vs').toArray f.offset).run P w=.ok v w:=by
   unfold part;rw[Sem.run_bind,zEX hk,Result.andThen_ok];have:(vs0++v::vs')[f.offset]?=some v:=by rw[hof,←h2]; simp
   simp[this]
  have ih:=zFz d ks' fs (o+1) xs' ys' q1 us' vs' (us0++[u]) (vs0++[v]) hks hq1 hus hvs (by simp[h1]) (by simp[h2]);simp only[List.append_assoc,List.singleton_append]at ih;simp only[Op.eqFields,hnm,ne_eq,not_false_eq_true,if_true,Sem.run_bind,hpu,hpv,Result.andThen_ok,hrun];by_cases hp:p1
  ·simp[hp,ih]
  ·simp[hp]
open Classical in
theorem zLQ {o:Oper}{ng:Bool}{t t':TypeId}{x y:Operand}{k:SK}(ho:o.op=.binOp (if ng then .neq else .eql) t x y t')(hk:zKS P t=some k)(he:qI H L N env a.tmps){r:A}{p:Prop}
 (h:zO env σ (.eqv o.dst ng k x y)=some (p,r)):zAl P H L w a o r:=by
 have hx:=qR he x;have hy:=qR he y;simp only[zO,Option.map_eq_some_iff,Prod.mk.injEq]at h;obtain⟨q,hq,_,rfl⟩:=h;obtain⟨u,v,e1,e2,h1,h2⟩:=zSc (w:=w) hq hk x y;rw[e1]at hx;rw[e2]at hy;simp only[Rel]at hx hy;cases ng
 ·refine⟨.bool (decide q),?_,by rw[zEd]; simp only[Rel]⟩;unfold execOp;simp only[Bool.false_eq_true,if_false]at ho;simp only[ho];refine qQ ?_;rw[hx,hy];exact h1
 ·refine⟨.bool (decide ¬q),?_,by rw[zEY]; simp only[Rel]⟩;unfold execOp;simp only[if_true]at ho;simp only[ho];refine qQ ?_;rw[hx,hy];exact h2
open Classical in
theorem zLP {o:Oper}{ng:Bool}{t t':TypeId}{x y:Operand}{ks:List SK}(ho:o.op=.binOp (if ng then .neq else .eql) t x y t')(hk:zMI P t=some ks)(he:qI H L N env a.tmps){r:A}{p:Prop}
 (h:zO env σ (.eqs o.dst ng ks x y)=some (p,r)):zAl P H L w a o r:=by
 have hx:=qR he x;have hy:=qR he y;simp only[zO]at h;split at h<;>try (cases h; done)
 rename_i xs ys hxe hye;simp only[Option.map_eq_some_iff,Prod.mk.injEq]at h;obtain⟨q,hq,_,rfl⟩:=h;rw[hxe]at hx;rw[hye]at hy;simp only[Rel]at hx hy;obtain⟨us,hu,hu1,_⟩:=hx;obtain⟨vs,hv,hv1,_⟩:=hy;unfold zMI at hk;split at hk<;>try (cases hk; done)
 rename_i fs hfs;split at hk<;>try (cases hk; done)
 rename_i hb;simp only[Bool.or_eq_true,not_or,Bool.not_eq_true]at hb;have hfo:P.fieldsOf t=fs:=by simp[Program.fieldsOf,hfs]
 have hrun:=zFz (P:=P) (w:=w) 9998 ks fs.toList 0 xs ys q us vs [] [] hk hq hu1 hv1 rfl rfl;simp only[List.nil_append]at hrun;have hst:=run_equalIn_struct (P:=P) w 9999 t us.toArray vs.toArray (by rw[hfo]; exact hfs) hb.1;rw[hfo,hrun]at hst;cases ng
 ·refine⟨.bool (decide q),?_,by rw[zEd]; simp only[Rel]⟩;unfold execOp;simp only[Bool.false_eq_true,if_false]at ho;simp only[ho];refine qQ ?_;rw[hu,hv,Sem.run_bind,run_eqGuard_agg w _ t x y _ _ hb.2,Result.andThen_ok,run_eql_struct,hst];rfl
 ·refine⟨.bool (decide ¬q),?_,by rw[zEY]; simp only[Rel]⟩;unfold execOp;simp only[if_true]at ho;simp only[ho];refine qQ ?_;rw[hu,hv,Sem.run_bind,run_eqGuard_agg w _ t x y _ _ hb.2,Result.andThen_ok,run_neq_struct,hst];simp
theorem zG2:∀{k1 k2:List SK} {xs ys:List A} {p:Prop},yT (k1++k2) xs ys=some p→∃xs1 xs2 ys1 ys2 p1 p2,xs=xs1++xs2∧ys=ys1++ys2∧xs1.length=k1.length∧ys1.length=k1.length∧yT k1 xs1 ys1=some p1∧yT k2 xs2 ys2=some p2∧(p↔p1∧p2)
 | [],k2,xs,ys,p,h=>⟨[],xs,[],ys,True,p,rfl,rfl,rfl,rfl,rfl,h,by simp⟩
 | k::k1,k2,xs,ys,p,h=>by
  cases xs with
  | nil=>simp[yT]at h
  | cons x xs =>
  cases ys with
  | nil=>simp[yT]at h
  | cons y ys =>
  simp only[List.cons_append,yT]at h;split at h<;>try (cases h; done)
  rename_i a b ha hb;cases h;obtain⟨xs1,xs2,ys1,ys2,p1,p2,rfl,rfl,h1,h2,h3,h4,h5⟩:=zG2 hb;refine⟨x::xs1,xs2,y::ys1,ys2,a∧p1,p2,rfl,rfl,by simp[h1],by simp[h2],by simp[yT,ha,h3],h4,by rw[h5,and_assoc]⟩
open Classical in
theorem zE6 (d:Nat):∀(fs:List Field) (ks:List SK) (o:Nat) (xs ys:List A) (p:Prop) (us vs us0 vs0:List Value),skN P o fs=some ks→yT ks xs ys=some p →
 zX H L xs us→zX H L ys vs→us0.length=o→vs0.length=o→(Op.eqFields (d+2) (us0++us).toArray (vs0++vs).toArray fs).run P w=.ok (decide p) w
 | [],ks,o,xs,ys,p,us,vs,us0,vs0,hf,he,hx,hy,h1,h2=>by
  simp only[skN,Option.some.injEq]at hf;subst hf;unfold yT at he;split at he<;>try (cases he; done)
  ·cases he; simp[Op.eqFields]
  ·cases ‹([]:List SK)=_::_›
 | f::fs,ks,o,xs,ys,p,us,vs,us0,vs0,hf,he,hx,hy,h1,h2=>by
  simp only[skN]at hf;split at hf<;>try (cases hf; done)
  rename_i hof;obtain⟨hof,hnm⟩:=hof;split at hf
  ·rename_i k hk;simp only[Option.map_eq_some_iff]at hf;obtain⟨ks',hks,rfl⟩:=hf;cases xs with
   | nil=>simp[yT]at he
   | cons x xs' =>
   cases ys with
   | nil=>simp[yT]at he
   | cons y ys' =>
   simp only[yT]at he;split at he<;>try (cases he; done)
   rename_i p1 q1 hp1 hq1;cases he;obtain⟨u,us',rfl,hu,hus⟩:=qA hx;obtain⟨v,vs',rfl,hv,hvs⟩:=qA hy;obtain⟨u',v',rfl,rfl,_,_,hrun⟩:=zLH (w:=w) hp1 hk (d+1);simp only[Rel]at hu hv;subst hu;subst hv;have hpu:(part f.type (us0++u::us').toArray f.offset).run P w=.ok u w:=by
    unfold part;rw[Sem.run_bind,zEX hk,Result.andThen_ok];have:(us0++u::us')[f.offset]?=some u:=by rw[hof,←h1]; simp
    simp[this]
   have hpv:(part f.type (vs0++v::vs').toArray f.offset).run P w=.ok v w:=by
    unfold part;rw[Sem.run_bind,zEX hk,Result.andThen_ok];have:(vs0++v::vs')[f.offset]?=some v:=by rw[hof,←h2]; simp
    simp[this]
   have ih:=zE6 d fs ks' (o+1) xs' ys' q1 us' vs' (us0++[u]) (vs0++[v]) hks hq1 hus hvs (by simp[h1]) (by simp[h2]);simp only[List.append_assoc,List.singleton_append]at ih;simp only[Op.eqFields,hnm,ne_eq,not_false_eq_true,if_true,Sem.run_bind,hpu,hpv,Result.andThen_ok,hrun];by_cases hp:p1
   ·simp[hp,ih]
   ·simp[hp]
  ·split at hf<;>try (cases hf; done)
   rename_i gs hgs;split at hf<;>try (cases hf; done)
   rename_i hst;split at hf<;>try (cases hf; done)
   rename_i k1 j hk1 hj;split at hf<;>try (cases hf; done)
   rename_i hsz;simp only[Option.map_eq_some_iff]at hf;obtain⟨k2,hk2,rfl⟩:=hf;obtain⟨xs1,xs2,ys1,ys2,p1,p2,rfl,rfl,g1,g2,g3,g4,g5⟩:=zG2 he;obtain⟨us1,us2,rfl,hu1,hu2⟩:=hx.split;obtain⟨vs1,vs2,rfl,hv1,hv2⟩:=hy.split;have l1:us1.length=k1.length:=by rw[hu1.length,g1]
   have l2:vs1.length=k1.length:=by rw[hv1.length,g2]
   have hag:(isAgg f.type).run P w=.ok true w:=by rw[zDu hgs]; rfl
   have hpart:∀(z0 z1 z2:List Value),z0.length=o→z1.length=k1.length→(part f.type (z0++(z1++z2)).toArray f.offset).run P w=.ok (.agg z1.toArray) w:=by
    intro z0 z1 z2 e0 e1;unfold part;rw[Sem.run_bind,hag,Result.andThen_ok];simp only[if_true,Sem.run_bind,yE hj,Result.andThen_ok,hof,hsz];have:(z0++(z1++z2)).toArray.extract o (o+k1.length)=z1.toArray:=by apply Array.ext';simp[←e0,←e1]
    rw[this];rfl
   have hfo:P.fieldsOf f.type=gs:=by simp[Program.fieldsOf,hgs]
   have hin:=zFz (P:=P) (w:=w) d k1 gs.toList 0 xs1 ys1 p1 us1 vs1 [] [] hk1 g3 hu1 hv1 rfl rfl;simp only[List.nil_append]at hin;have hst2:=run_equalIn_struct (P:=P) w (d+1) f.type us1.toArray vs1.toArray (by rw[hfo]; exact hgs) (by simpa using hst);rw[hfo,hin]at hst2;have ih:=zE6 d fs k2 (o+k1.length) xs2 ys2 p2 us2 vs2 (us0++us1) (vs0++vs1) hk2 g4 hu2 hv2 (by simp[h1,l1]) (by simp[h2,l2]);simp only[List.append_assoc]at ih;simp only[Op.eqFields,hnm,ne_eq,not_false_eq_true,if_true,Sem.run_bind,hpart us0 us1 us2 h1 l1,hpart vs0 vs1 vs2 h2 l2,Result.andThen_ok,hst2];by_cases hp:p1
   ·simp[hp,ih,g5]
   ·simp[hp,g5]
open Classical in
theorem zLO {o:Oper}{ng:Bool}{t t':TypeId}{x y:Operand}{ks:List SK}(ho:o.op=.binOp (if ng then .neq else .eql) t x y t')(hk:zMS P t=some ks)(he:qI H L N env a.tmps){r:A}{p:Prop}
 (h:zO env σ (.eqs o.dst ng ks x y)=some (p,r)):zAl P H L w a o r:=by
 have hx:=qR he x;have hy:=qR he y;simp only[zO]at h;split at h<;>try (cases h; done)
 rename_i xs ys hxe hye;simp only[Option.map_eq_some_iff,Prod.mk.injEq]at h;obtain⟨q,hq,_,rfl⟩:=h;rw[hxe]at hx;rw[hye]at hy;simp only[Rel]at hx hy;obtain⟨us,hu,hu1,_⟩:=hx;obtain⟨vs,hv,hv1,_⟩:=hy;unfold zMS at hk;split at hk<;>try (cases hk; done)
 rename_i fs hfs;split at hk<;>try (cases hk; done)
 rename_i hb;simp only[Bool.or_eq_true,not_or,Bool.not_eq_true]at hb;have hfo:P.fieldsOf t=fs:=by simp[Program.fieldsOf,hfs]
 have hrun:=zE6 (P:=P) (w:=w) 9997 fs.toList ks 0 xs ys q us vs [] [] hk hq hu1 hv1 rfl rfl;simp only[List.nil_append]at hrun;have hst:=run_equalIn_struct (P:=P) w 9999 t us.toArray vs.toArray (by rw[hfo]; exact hfs) hb.1;rw[hfo,hrun]at hst;cases ng
 ·refine⟨.bool (decide q),?_,by rw[zEd]; simp only[Rel]⟩;unfold execOp;simp only[Bool.false_eq_true,if_false]at ho;simp only[ho];refine qQ ?_;rw[hu,hv,Sem.run_bind,run_eqGuard_agg w _ t x y _ _ hb.2,Result.andThen_ok,run_eql_struct,hst];rfl
 ·refine⟨.bool (decide ¬q),?_,by rw[zEY]; simp only[Rel]⟩;unfold execOp;simp only[if_true]at ho;simp only[ho];refine qQ ?_;rw[hu,hv,Sem.run_bind,run_eqGuard_agg w _ t x y _ _ hb.2,Result.andThen_ok,run_neq_struct,hst];simp
theorem zLS {o:Oper}{ng:Bool}{t t':TypeId}{x y:Operand}(ho:o.op=.binOp (if ng then .neq else .eql) t x y t')(hn:zRs P t y=true)(he:qI H L N env a.tmps){r:A}{p:Prop}
 (h:zO env σ (.isp o.dst ng x)=some (p,r)):zAl P H L w a o r:=by
 have hx:=qR he x;unfold zRs at hn;split at hn<;>try (cases hn; done)
 rename_i e hu;have fin:∀(ad:Option Addr),a.eval x=.pointer ad→r=.lit (.bool (ad.isNone != ng))→zAl P H L w a o r:=by
  rintro ad hv rfl;have key:(Op.equal t (.pointer ad) (.pointer none)).run P w=.ok ad.isNone w:=by
   unfold Op.equal Op.maxDepth;unfold Op.equalIn;cases ad with
   | none=>simp[run_underlying hu]
   | some ad=>simp[run_underlying hu]
  refine⟨.bool (ad.isNone != ng),?_,by simp only[Rel]⟩;unfold execOp;cases ng
  ·simp only[Bool.false_eq_true,if_false]at ho;simp only[ho,hv];refine qQ ?_;simp[Act.eval,eqGuard,binOp,key]
  ·simp only[if_true]at ho;simp only[ho,hv];refine qQ ?_;simp[Act.eval,eqGuard,binOp,key]
 simp only[zO]at h;split at h<;>try (cases h; done)
 ·rename_i hxe;cases h;rw[hxe]at hx;simp only[Rel]at hx;exact fin none hx (by cases ng<;>rfl)
 ·rename_i hxe;cases h;rw[hxe]at hx;simp only[Rel]at hx;obtain⟨b,o',us,hx,_⟩:=hx;exact fin (some ⟨b,o',none⟩) hx (by cases ng<;>rfl)
 ·rename_i hxe;cases h;rw[hxe]at hx;simp only[Rel]at hx;obtain⟨li,b,_,_,_,hx⟩:=hx;exact fin _ hx (by cases ng<;>rfl)
theorem zLR {o:Oper}{ng:Bool}{t t':TypeId}{x y:Operand}(ho:o.op=.binOp (if ng then .neq else .eql) t x y t')(hn:zK0 P t y=true)(he:qI H L N env a.tmps){r:A}{p:Prop}
 (h:zO env σ (.isn o.dst ng x)=some (p,r))(hp:p):zAl P H L w a o r:=by
 have hx:=qR he x;unfold zK0 at hn;split at hn<;>try (cases hn; done)
 rename_i e hu;have fin:∀(b:Bool),(∃(ad:Option Addr) (n c:Nat),a.eval x=.slice ad n c∧ad.isNone=b)→r=.lit (.bool (b != ng))→zAl P H L w a o r:=by
  rintro b ⟨ad,n,c,hv,hb⟩ rfl;have key:(Op.equal t (.slice ad n c) (.slice none 0 0)).run P w=.ok b w:=by
   subst hb;unfold Op.equal Op.maxDepth;unfold Op.equalIn;cases ad with
   | none=>simp[run_underlying hu]
   | some ad=>simp[run_underlying hu]
  refine⟨.bool (b != ng),?_,by simp only[Rel]⟩;unfold execOp;cases ng
  ·simp only[Bool.false_eq_true,if_false]at ho;simp only[ho,hv];refine qQ ?_;simp[Act.eval,eqGuard,binOp,key]
  ·simp only[if_true]at ho;simp only[ho,hv];refine qQ ?_;simp[Act.eval,eqGuard,binOp,key]
 simp only[zO]at h;split at h<;>try (cases h; done)
 ·rename_i hxe;cases h;rw[hxe]at hx;simp only[Rel]at hx;exact fin true ⟨_,_,_,hx,rfl⟩ (by cases ng<;>rfl)
 ·rename_i n cs hxe;cases h;rw[hxe]at hx;simp only[Rel]at hx;obtain⟨ad,cap,hv,_,_,h3⟩:=hx;rcases h3 with ⟨h3,_⟩ | ⟨b,off,us,rfl,_⟩
  ·exact(hp h3).elim
  ·exact fin false ⟨_,_,_,hv,rfl⟩ (by cases ng<;>rfl)
 ·rename_i n cs hxe;cases h;rw[hxe]at hx;simp only[Rel]at hx;obtain⟨ad,hv,_,h3⟩:=hx;rcases h3 with ⟨h3,_⟩ | ⟨b,off,us,rfl,_⟩
  ·exact(hp h3).elim
  ·exact fin false ⟨_,_,_,hv,rfl⟩ (by cases ng<;>rfl)
theorem zLT {o:Oper}{ng:Bool}{t t':TypeId}{x y:Operand}(ho:o.op=.binOp (if ng then .neq else .eql) t x y t')(hn:zK0 P t y=true){ad:Option Addr}{n cap:Nat}(hv:a.eval x=.slice ad n cap) :
 zAl P H L w a o (.lit (.bool (ad.isNone != ng))):=by
 unfold zK0 at hn;split at hn<;>try (cases hn; done)
 rename_i e hu;have key:(Op.equal t (.slice ad n cap) (.slice none 0 0)).run P w=.ok ad.isNone w:=by
  unfold Op.equal Op.maxDepth;unfold Op.equalIn;cases ad with
  | none=>simp[run_underlying hu]
  | some ad=>simp[run_underlying hu]
 refine⟨.bool (ad.isNone != ng),?_,by simp only[Rel]⟩;unfold execOp;cases ng
 ·simp only[Bool.false_eq_true,if_false]at ho;simp only[ho,hv];refine qQ ?_;simp[Act.eval,eqGuard,binOp,key]
 ·simp only[if_true]at ho;simp only[ho,hv];refine qQ ?_;simp[Act.eval,eqGuard,binOp,key]
theorem zXE (hs:RelSt H L σ w){x:A}{v:Value}(hx:Rel H L x v):(x=.nil→v=.slice none 0 0)∧(∀n cs,x=.sl n cs→∃ad cap,v=.slice ad n cap∧(n≠0→ad.isNone=false)) ∧
 ∀l n fz e sz cs,x=.row l n→σ[l]?=some (.row fz e sz n cs)→∃ad cap,v=.slice ad n cap∧(n≠0→ad.isNone=false):=by
 refine⟨fun e=>by subst e; simpa only[Rel] using hx,fun n cs e=>?_,fun l n fz e sz cs he hσ=>?_⟩
 ·subst e;simp only[Rel]at hx;obtain⟨ad,cap,hv,_,_,h3⟩:=hx;refine⟨ad,cap,hv,fun h0=>?_⟩;rcases h3 with ⟨h3,_⟩ | ⟨b,off,us,rfl,_⟩
  ·exact(h0 h3).elim
  ·rfl
 ·subst he;simp only[Rel]at hx;obtain⟨_,li,e1,e2,e3,hv⟩:=hx;have hob:=hs.obj l li _ e1 hσ;simp only[zW]at hob;have hv:=hv (by rw[hob.2.1]);cases hb:li.block with
  | none =>
   rw[hb]at hv;rcases hob.2.2.2 with ⟨_,h0⟩ | ⟨b,cur,hb',_⟩
   ·subst h0; exact⟨_,_,hv,fun h=>(h rfl).elim⟩
   ·rw[hb]at hb'; cases hb'
  | some b=>rw[hb]at hv; exact⟨_,_,hv,fun _=>rfl⟩
end
end Go.Abs
namespace Go.Abs
section
variable {P:Program}{H:Mem}{L:List LI} {σ : St}{w:World}{N:Nat}{env:Env}{a:Act}
theorem zNQ (off:Nat):∀(vs:List Value) (k:Nat) (cs:Array Value),off+k+vs.length≤cs.size →
 ((vs.zipIdx k).foldl (fun cs (p:Value×Nat)=>cs.setIfInBounds (off+p.2) p.1) cs).toList=cs.toList.take (off+k)++vs++cs.toList.drop (off+k+vs.length)
 | [],k,cs,_=>by simp
 | v::vs,k,cs,h=>by
  simp only[List.length_cons]at h;have ih:=zNQ off vs (k+1) (cs.setIfInBounds (off+k) v) (by simpa using by omega);rw[List.zipIdx_cons,List.foldl_cons,ih];simp only[Array.toList_setIfInBounds,List.length_cons];have hk:off+k<cs.toList.length:=by simpa using by omega
  rw[show off+(k+1)=off+k+1 from by omega,List.take_succ_eq_append_getElem (by simpa using hk),List.take_set_of_le (Nat.le_refl _),List.getElem_set_self,
   List.drop_set_of_lt (by omega)]
  simp only[List.append_assoc,List.singleton_append];rw[show off+k+1+vs.length=off+k+(vs.length+1) from by omega]
theorem zHt (he:qI H L N env a.tmps)(place:Nat→Option (Nat×Nat)):∀(parts:List (Nat×Operand)) (ps:List (Nat×Nat×Operand)) (zs:List A) (arr:Array Value) (cs:List A),
 zDl place parts=some ps→zAV zs (ps.map fun(o,s,x)=>(o,s,ev env x))=some cs→zX H L zs arr.toList→(∀u∈arr.toList,one u) →
 ∃arr':Array Value,Instr.fill place arr (parts.map fun(i,x)=>(i,a.eval x))=some arr'∧zX H L cs arr'.toList∧∀u∈arr'.toList,one u
 | [],ps,zs,arr,cs,hp,hf,hz,h1=>by simp only[zDl,List.mapM_nil,Option.pure_def,Option.some.injEq]at hp;subst hp;simp only[List.map_nil,zAV,Option.some.injEq]at hf;subst hf;exact⟨arr,rfl,hz,h1⟩
 | (i,x)::parts,ps,zs,arr,cs,hp,hf,hz,h1=>by
  simp only[zDl,List.mapM_cons,Option.pure_def,Option.bind_eq_bind,Option.bind_eq_some_iff,Option.map_eq_some_iff,Option.some.injEq]at hp;obtain⟨q,⟨⟨off,size⟩,hpl,rfl⟩,ps',hps,rfl⟩:=hp;simp only[List.map_cons,zAV]at hf;split at hf<;>try (cases hf; done)
  rename_i l hl;split at hf<;>try (cases hf; done)
  rename_i hc;obtain⟨hc1,hc2⟩:=hc;obtain⟨g1,g2⟩:=zFD (qR he x) hl;have hlen:=g1.length;have hzl:=hz.length;have hls:(a.eval x).cells.size=size:=by rw[←Array.length_toList,hlen,hc1]
  have hsz:off+(a.eval x).cells.size≤arr.size:=by rw[hls,←Array.length_toList,hzl]; exact hc2
  have hfold:(((a.eval x).cells.zipIdx.foldl (fun cs (p:Value×Nat)=>cs.setIfInBounds (off+p.2) p.1) arr)).toList=arr.toList.take off++(a.eval x).cells.toList++arr.toList.drop (off+size):=by have:=zNQ off (a.eval x).cells.toList 0 arr (by simpa using hsz);simp only[Nat.add_zero,Array.length_toList,hls]at this;rw[←this,←Array.foldl_toList,Array.toList_zipIdx]
  obtain⟨arr',k1,k2,k3⟩:=zHt he place parts ps' _ ((a.eval x).cells.zipIdx.foldl (fun cs (p:Value×Nat)=>cs.setIfInBounds (off+p.2) p.1) arr) cs hps hf
   (by rw[hfold]; exact((hz.take off).append g1).append (hz.drop _))
   (by
    rw[hfold];intro u hu;simp only[List.mem_append]at hu;rcases hu with (hu | hu) | hu
    ·exact h1 u (List.mem_of_mem_take hu)
    ·exact g2 u hu
    ·exact h1 u (List.mem_of_mem_drop hu))
  refine⟨arr',?_,k2,k3⟩;simp only[List.map_cons,Instr.fill,hpl];rw[if_neg (by simp only[Bool.or_eq_true,decide_eq_true_eq,not_or,Decidable.not_not,hls,true_and,Nat.not_lt,ne_eq]; rw[hls]at hsz; exact hsz)];exact k1
theorem zOn {fs:Array Field}{P:Program}(hall:fs.all (fun f=>(P.info? f.type).isSome)=true) :
 ∃ps:Array (Nat×Nat),(fs.mapM fun f=>(do pure (f.offset,←sizeOf f.type):Sem (Nat×Nat))).run P w=.ok ps w∧∀i:Nat,ps[i]?=zDM P fs.toList i:=by
 obtain⟨l⟩:=fs;have hall':∀f∈l,(P.info? f.type).isSome:=by simpa using hall
 have key:∀(l:List Field),(∀f∈l,(P.info? f.type).isSome)→∃ps:List (Nat×Nat),(l.mapM fun f=>(do pure (f.offset,←sizeOf f.type):Sem (Nat×Nat))).run P w=.ok ps w ∧
  ∀i:Nat,ps[i]?=zDM P l i:=by
  intro l;induction l with
  | nil=>intro _; exact⟨[],by simp,by simp[zDM]⟩
  | cons f l ih =>
   intro h;obtain⟨ps,h1,h2⟩:=ih (fun g hg=>h g (List.mem_cons_of_mem _ hg));obtain⟨j,hj⟩:=Option.isSome_iff_exists.1 (h f (List.mem_cons_self ..));refine⟨(f.offset,j.size)::ps,?_,?_⟩
   ·rw[List.mapM_cons];simp only[Sem.run_bind,yE hj,Result.andThen_ok,Sem.run_pure,h1]
   ·intro i;cases i with
    | zero=>simp[zDM,hj]
    | succ i=>simpa [zDM] using h2 i
 obtain⟨ps,h1,h2⟩:=key l hall';refine⟨ps.toArray,?_,fun i=>by simpa using h2 i⟩;rw[List.mapM_toArray];simp only[Sem.run_map,h1,Result.andThen_ok]
theorem zJf {o:Oper}{t:TypeId}{parts:Array (Nat×Operand)}{i:TypeInfo}{z:Value}{place:Nat→Option (Nat×Nat)}{ps:List (Nat×Nat×Operand)}(ho:o.op=.build t parts)
 (hi:P.info? t=some i)(hz:i.zero=some z)(hok:yY z.cells.toList=true)(hps:zDl place parts.toList=some ps)
 (hpl:(∃fs,P.underlying t=some (.struct fs)∧fs.all (fun f=>(P.info? f.type).isSome)=true∧place=zDM P fs.toList) ∨
  (∃n e j,P.underlying t=some (.array n e)∧P.info? e=some j∧place=fun i=>some (i*j.size,j.size)))
 (he:qI H L N env a.tmps){r:A}{p:Prop}(h:zO env σ (.build o.dst z.cells.toList ps)=some (p,r)):zAl P H L w a o r:=by
 simp only[zO,Option.map_eq_some_iff,Prod.mk.injEq]at h;obtain⟨cs,hcs,_,rfl⟩:=h;have hone:∀u∈z.cells.toList,one u:=fun u hu=>List.all_eq_true.1 hok u hu
 obtain⟨arr,h1,h2,h3⟩:=zHt he place parts.toList ps _ z.cells cs hps hcs (zAH _) hone;refine⟨.agg arr,?_,by simp only[Rel]; exact⟨arr.toList,by simp,h2,h3⟩⟩;unfold execOp;simp only[ho];refine qQ ?_;have hmap:(parts.map fun(i,x)=>(i,a.eval x)).toList=parts.toList.map fun(i,x)=>(i,a.eval x):=by simp
 unfold Instr.build;have hzr:(zeroValue t).run P w=.ok z w:=by simp[zeroValue,typeInfo,hi,hz]
 rcases hpl with ⟨fs,hu,hall,rfl⟩ | ⟨n,e,j,hu,hj,rfl⟩
 ·obtain⟨pls,hm1,hm2⟩:=zOn (w:=w) hall;have hfn:(fun i:Nat=>pls[i]?)=zDM P fs.toList:=funext hm2;simp only[Sem.run_bind,hzr,Result.andThen_ok,run_underlying hu,hm1,hmap];rw[hfn,h1];rfl
 ·simp only[Sem.run_bind,hzr,Result.andThen_ok,run_underlying hu,yE hj,hmap];rw[h1];rfl
end
end Go.Abs

/-
  Soundness of the operations that leave the state alone: comparison, building, slicing; and all in one.
  Soundness: building structs and arrays; all operations that leave the state alone, in one theorem.
  All operations that leave the state alone, in one theorem; how the state goes on when memory is made or written.
  How the state goes on when a box or a row is written, and when a row grows.
  append.
  append to nil and to a full slice; what every operation does; its soundness.
-/
import Derived.Test.YthglhccibdlccaaGreatDoorX1
import Derived.Laws.StructEq
import Derived.Laws.CopyRow
import Derived.Laws.Tables
import Derived.RangeFuncRecord
set_option linter.unusedVariables false
set_option maxHeartbeats 8000000
set_option maxRecDepth 100000
set_option linter.unusedSimpArgs false
namespace Go.Abs
section
variable {P:Program}{H:Mem}{L:List LI} {σ : St}{w:World}{N:Nat}{env:Env}{a:Act}
theorem zCJ (he:qJ H L N env a.tmps){d:Nat}{x:Operand}{l:Int}(h:qO env d (some x)=some l):∃k,a.eval x=.int k l:=by
 have hx:=qU he x;simp only[qO]at h;split at h<;>try (cases h; done)
 rename_i k j hxe;cases h;rw[hxe]at hx;simp only[Rel]at hx;exact⟨k,hx⟩
theorem zAr {k:IntKind}{i:Int}{y:Nat}{code:BoundsCode}(h0:0≤i)(h1:i≤y):(Instr.sliceBound (.int k i) y code).run P w=.ok i.toNat w:=by simp[Instr.sliceBound,asIntOf,h0,h1]
theorem zAV (he:qJ H L N env a.tmps){n cap:Nat}{lo hi:Option Operand}{l h:Int}(hl:qO env 0 lo=some l)(hh:qO env n hi=some h)
 (h0:0≤l)(h1:l≤h)(h2:h≤n)(hc:n≤cap):(Instr.sliceBounds true n cap (lo.map a.eval) (hi.map a.eval) none).run P w=.ok (l.toNat,h.toNat,cap) w:=by
 unfold Instr.sliceBounds;cases hi with
 | none =>
  simp only[qO,jA1]at hh;subst hh;cases lo with
  | none =>
   simp only[qO,jA1]at hl;subst hl;simp
  | some x =>
   obtain⟨k,hx⟩:=zCJ he hl;have h1':l≤((n:Nat):Int):=h1;simp[hx,zAr h0 h1']
 | some y =>
  obtain⟨k,hy⟩:=zCJ he hh;have h0':0≤h:=by omega
  have h2':h≤((cap:Nat):Int):=by omega
  cases lo with
  | none =>
   simp only[qO,jA1]at hl;subst hl;simp[hy,zAr h0' h2']
  | some x =>
   obtain⟨k',hx⟩:=zCJ he hl;have h1':l≤((h.toNat:Nat):Int):=by omega
   simp[hy,hx,zAr h0' h2',zAr h0 h1']
theorem zCE (he:qJ H L N env a.tmps){n cap:Nat}{lo:Option Operand}{hi mx:Operand}{l h m:Int}(hl:qO env 0 lo=some l)(hh:qO env n (some hi)=some h)
 (hm:qO env n (some mx)=some m)(h0:0≤l)(h1:l≤h)(h2:h≤n)(hmh:m=h)(hc:n≤cap) :
 (Instr.sliceBounds true n cap (lo.map a.eval) (some (a.eval hi)) (some (a.eval mx))).run P w=.ok (l.toNat,h.toNat,h.toNat) w:=by
 subst hmh;obtain⟨k,hy⟩:=zCJ he hh;obtain⟨k',hz⟩:=zCJ he hm;have h0':0≤m:=by omega
 have h2':m≤((cap:Nat):Int):=by omega
 have h3':m≤((m.toNat:Nat):Int):=by omega
 unfold Instr.sliceBounds;cases lo with
 | none =>
  simp only[qO,jA1]at hl;subst hl;simp[hy,hz,zAr h0' h2',zAr h0' h3']
 | some x =>
  obtain⟨k'',hx⟩:=zCJ he hl;have h1':l≤((m.toNat:Nat):Int):=by omega
  simp[hy,hz,hx,zAr h0' h2',zAr h0' h3',zAr h0 h1']
theorem zTV {o:Oper}{t e:TypeId}{x:Operand}{lo hi mx:Option Operand}{i:TypeInfo}(ho:o.op=.slice t x lo hi mx)
 (hu:P.underlying t=some (.slice e))(hi':P.info? e=some i)(he:qJ H L N env a.tmps){r:A}{p:Prop}
 (h:zP env σ (.slc o.dst x i.size lo hi mx)=some (p,r))(hp:p):zA2 P H L w a o r:=by
 have hx:=qU he x;have fin:∀ad n cap l h m,a.eval x=.slice ad n cap→(Instr.sliceBounds true n cap (lo.map a.eval) (hi.map a.eval) (mx.map a.eval)).run P w=.ok (l,h,m) w →
  Rel H L r (.slice (if m=l then ad else ad.map (·.add (l*i.size))) (h-l) (m-l))→zA2 P H L w a o r:=by
  intro ad n cap l h m hv hb hr;refine⟨_,?_,hr⟩;unfold execOp;simp only[ho];refine qS ?_;simp[Instr.sliceAt,Instr.slice,run_underlying hu,hv,hb,yO hi']
 have part2:∀(ad:Option Addr) (n cap:Nat) (cs:List A) (l h:Int),n≤cap→cap≤maxLen→(n=0∧cs=[]∨∃b o,∃us:List Value,ad=some ⟨b,o,none⟩∧zY H L cs us∧(∀u∈us,one u)∧At H b o us) →
  0≤l→l≤h→h≤n→Rel H L (.sl (h-l).toNat ((cs.drop (l.toNat*i.size)).take ((h-l).toNat*i.size))) (.slice (if cap=l.toNat then ad else ad.map (·.add (l.toNat*i.size))) (h.toNat-l.toNat) (cap-l.toNat)):=by
  intro ad n cap cs l h hc hm hcs h0 h1 h2;have e1:h.toNat-l.toNat=(h-l).toNat:=by omega
  simp only[Rel,e1];refine⟨_,_,rfl,by omega,by omega,?_⟩;by_cases hz:(h-l).toNat=0
  ·exact .inl ⟨hz,by simp[hz]⟩
  ·right;have hne:¬cap=l.toNat:=by omega
   rcases hcs with ⟨rfl,rfl⟩ | ⟨b,off,us,rfl,g1,g2,g3⟩
   ·omega
   ·refine⟨b,off+l.toNat*i.size,_,?_,(g1.drop _).take _,zBh g2,(g3.drop _).take _⟩;simp[hne,Addr.add_lit]
 have part3:∀(ad:Option Addr) (n cap:Nat) (cs:List A) (l h:Int),n≤cap→cap≤maxLen→(n=0∧cs=[]∨∃b o,∃us:List Value,ad=some ⟨b,o,none⟩∧zY H L cs us∧(∀u∈us,one u)∧At H b o us) →
  0≤l→l≤h→h≤n→Rel H L (.fsl (h-l).toNat ((cs.drop (l.toNat*i.size)).take ((h-l).toNat*i.size))) (.slice (if h.toNat=l.toNat then ad else ad.map (·.add (l.toNat*i.size))) (h.toNat-l.toNat) (h.toNat-l.toNat)):=by
  intro ad n cap cs l h hc hm hcs h0 h1 h2;have e1:h.toNat-l.toNat=(h-l).toNat:=by omega
  simp only[Rel,e1];refine⟨_,rfl,by omega,?_⟩;by_cases hz:(h-l).toNat=0
  ·exact .inl ⟨hz,by simp[hz]⟩
  ·right;have hne:¬h.toNat=l.toNat:=by omega
   rcases hcs with ⟨rfl,rfl⟩ | ⟨b,off,us,rfl,g1,g2,g3⟩
   ·omega
   ·refine⟨b,off+l.toNat*i.size,_,?_,(g1.drop _).take _,zBh g2,(g3.drop _).take _⟩;simp[hne,Addr.add_lit]
 cases mx with
 | none =>
  simp only[zP]at h;split at h<;>try (cases h; done)
  ·rename_i n cs hxe;split at h<;>try (cases h; done)
   rename_i l hh hl hhb;cases h;rw[hxe]at hx;simp only[Rel]at hx;obtain⟨ad,cap,hv,g1,g2,g3⟩:=hx;exact fin ad n cap _ _ _ hv (zAV he hl hhb hp.1 hp.2.1 hp.2.2 g1) (part2 ad n cap cs l hh g1 g2 g3 hp.1 hp.2.1 hp.2.2)
  ·rename_i n cs hxe;split at h<;>try (cases h; done)
   rename_i l hh hl hhb;cases h;rw[hxe]at hx;simp only[Rel]at hx;obtain⟨ad,hv,g2,g3⟩:=hx;exact fin ad n n _ _ _ hv (zAV he hl hhb hp.1 hp.2.1 hp.2.2 (jA _)) (part2 ad n n cs l hh (jA _) g2 g3 hp.1 hp.2.1 hp.2.2)
  ·rename_i hxe;split at h<;>try (cases h; done)
   rename_i l hh hl hhb;cases h;rw[hxe]at hx;simp only[Rel]at hx;obtain⟨rfl,rfl⟩:=hp;exact fin none 0 0 _ _ _ hx (zAV (n:=0) (cap:=0) he hl hhb (by omega) (by omega) (by simp) (by omega)) (by simp[Rel])
 | some mx =>
  cases hi with
  | none=>simp only[zP]at h; cases h
  | some hi =>
   simp only[zP]at h;split at h<;>try (cases h; done)
   ·rename_i n cs hxe;split at h<;>try (cases h; done)
    rename_i l hh m hl hhb hmb;cases h;rw[hxe]at hx;simp only[Rel]at hx;obtain⟨ad,cap,hv,g1,g2,g3⟩:=hx;exact fin ad n cap _ _ _ hv (zCE he hl hhb hmb hp.1.1 hp.1.2.1 hp.1.2.2 hp.2 g1) (part3 ad n cap cs l hh g1 g2 g3 hp.1.1 hp.1.2.1 hp.1.2.2)
   ·rename_i n cs hxe;split at h<;>try (cases h; done)
    rename_i l hh m hl hhb hmb;cases h;rw[hxe]at hx;simp only[Rel]at hx;obtain⟨ad,hv,g2,g3⟩:=hx;exact fin ad n n _ _ _ hv (zCE he hl hhb hmb hp.1.1 hp.1.2.1 hp.1.2.2 hp.2 (jA _)) (part3 ad n n cs l hh (jA _) g2 g3 hp.1.1 hp.1.2.1 hp.1.2.2)
   ·rename_i hxe;split at h<;>try (cases h; done)
    rename_i l hh m hl hhb hmb;cases h;rw[hxe]at hx;simp only[Rel]at hx;obtain⟨⟨rfl,rfl⟩,rfl⟩:=hp;exact fin none 0 0 _ _ _ hx (zCE (n:=0) (cap:=0) he hl hhb hmb (by omega) (by omega) (by simp) rfl (by omega)) (by simp[Rel])
theorem zRn {o:Oper}{t e:TypeId}{x:Operand}{lo hi:Option Operand}{i:TypeInfo}(ho:o.op=.slice t x lo hi none)
 (hu:P.underlying t=some (.slice e))(hi':P.info? e=some i)(he:qJ H L N env a.tmps)(hs:RelSt H L σ w){r:A}{p:Prop}
 (h:zP env σ (.rslc o.dst x i.size lo hi)=some (p,r))(hp:p):zA2 P H L w a o r:=by
 have hx:=qU he x;have fin:∀ad n cap l h m,a.eval x=.slice ad n cap→(Instr.sliceBounds true n cap (lo.map a.eval) (hi.map a.eval) none).run P w=.ok (l,h,m) w →
  Rel H L r (.slice (if m=l then ad else ad.map (·.add (l*i.size))) (h-l) (m-l))→zA2 P H L w a o r:=by
  intro ad n cap l h m hv hb hr;refine⟨_,?_,hr⟩;unfold execOp;simp only[ho];refine qS ?_;simp[Instr.sliceAt,Instr.slice,run_underlying hu,hv,hb,yO hi']
 simp only[zP]at h;split at h<;>try (cases h; done)
 ·rename_i l n hxe;split at h<;>try (cases h; done)
  rename_i fz e' sz m ds hds;split at h<;>try (cases h; done)
  rename_i hn;obtain⟨hn,rfl⟩:=hn;split at h<;>try (cases h; done)
  rename_i l' hh hl hhb;cases h;rw[hxe]at hx;simp only[Rel]at hx;obtain⟨_,li,e1,e2,e3,hv⟩:=hx;have hob:=hs.obj l li _ e1 hds;simp only[zW]at hob;obtain⟨_,hlen,_,hob⟩:=hob;have hv:=hv (by rw[hn,hlen]);obtain⟨p1,p2,p3⟩:=hp;rcases hob with ⟨hb,h0⟩ | ⟨b,cur,hb,_,k2,k3,_⟩
  ·rw[hb]at hv;have hn0:n=0:=by omega
   have hv':a.eval x=.slice none n 0:=by rw[hn0]; exact hv
   refine fin none n 0 _ _ _ hv' (zAV he hl hhb p1 p2 p3 (by omega)) ?_;have hkz:(hh-l').toNat=0:=by omega
   have e5:hh.toNat-l'.toNat=0:=by omega
   simp only[Rel,hkz,e5];refine⟨rfl,li,e1,e2,e3,fun _=>⟨jBo _,_,_,rfl,jBo _,by omega,.inl trivial⟩⟩
  ·rw[hb]at hv;refine fin _ n li.cap _ _ _ hv (zAV he hl hhb p1 p2 p3 (by omega)) ?_;have e5:hh.toNat-l'.toNat=(hh-l').toNat:=by omega
   simp only[Rel,e5];refine⟨rfl,li,e1,e2,e3,fun _=>⟨by omega,_,_,rfl,by omega,by omega,?_⟩⟩;by_cases hz:(hh-l').toNat=0
   ·exact .inl hz
   ·have hne:¬li.cap=l'.toNat:=by omega
    exact .inr ⟨b,hb,by simp[hne,Addr.add_lit]⟩
 ·rename_i l n off k' _ hxe;split at h<;>try (cases h; done)
  rename_i fz e' sz m ds hds;split at h<;>try (cases h; done)
  rename_i hn;obtain⟨hn,rfl⟩:=hn;split at h<;>try (cases h; done)
  rename_i l' hh hl hhb;cases h;rw[hxe]at hx;simp only[Rel]at hx;obtain⟨_,li,e1,e2,e3,hv⟩:=hx;have hob:=hs.obj l li _ e1 hds;simp only[zW]at hob;obtain⟨_,hlen,_,hob⟩:=hob;obtain⟨g0,ad,cap,hv,g1,g2,g3⟩:=hv (by rw[hn,hlen]);obtain⟨p1,p2,p3⟩:=hp;refine fin _ k' cap _ _ _ hv (zAV he hl hhb p1 p2 p3 g1) ?_;have e5:hh.toNat-l'.toNat=(hh-l').toNat:=by omega
  simp only[Rel,e5];refine⟨rfl,li,e1,e2,e3,fun _=>⟨by omega,_,_,rfl,by omega,by omega,?_⟩⟩;by_cases hz:(hh-l').toNat=0
  ·exact .inl hz
  ·have hne:¬cap=l'.toNat:=by omega
   rcases g3 with g3 | ⟨b,hb,rfl⟩
   ·omega
   ·exact .inr ⟨b,hb,by simp[hne,Addr.add_lit,jBe]⟩
open Classical in
theorem zE3 (p:Prop):zBd false p=.lit (.bool (decide p)):=by simp[zBd]
open Classical in
theorem zF0 (p:Prop):zBd true p=.lit (.bool (decide (¬p))):=by simp[zBd]
theorem zKF (a b:ByteArray):(a.toList==b.toList)=@decide (a=b) (Classical.propDecidable _):=by
 by_cases hab:a=b
 ·subst hab; simp
 ·have hne:¬a.toList=b.toList:=fun e=>hab (by
   rw[ByteArray.toList_eq,ByteArray.toList_eq]at e;cases a; cases b;simp only at e
   congr
   exact jC1 e)
  simp[hab,hne]
open Classical in
theorem zMT {k:SK}{x y:A}{p:Prop}(h:zBT k x y=some p){t:TypeId}(hk:zLS P t=some k)(d:Nat):∃u v,x=.lit u∧y=.lit v∧one u∧one v∧(Op.equalIn (d+1) t u v).run P w=.ok (decide p) w:=by
 unfold zBT at h;unfold zLS at hk;split at h<;>try (cases h; done)
 ·rename_i k a k' b;split at h<;>try (cases h; done)
  rename_i he;subst he;cases h;split at hk<;>try (cases hk; done)
  rename_i D hD;refine⟨_,_,rfl,rfl,rfl,rfl,?_⟩;rw[run_equalIn_int w d t k _ a b hD];by_cases hab:a=b<;>simp[hab]
 ·rename_i a b;cases h;split at hk<;>try (cases hk; done)
  rename_i hD;refine⟨_,_,rfl,rfl,rfl,rfl,?_⟩;rw[run_equalIn_bool' w d t a b hD];cases a<;>cases b<;>simp
 ·rename_i a b;cases h;split at hk<;>try (cases hk; done)
  rename_i hD;refine⟨_,_,rfl,rfl,rfl,rfl,?_⟩;rw[run_equalIn_string w d t a b hD,zKF]
open Classical in
theorem zTC {k:SK}{x y:A}{p:Prop}(h:zBT k x y=some p){t:TypeId}(hk:zLS P t=some k)(xo yo:Operand):∃u v,x=.lit u∧y=.lit v ∧
 (do eqGuard .eql t xo yo u v; binOp .eql t u v:Sem Value).run P w=.ok (.bool (decide p)) w∧(do eqGuard .neq t xo yo u v; binOp .neq t u v:Sem Value).run P w=.ok (.bool (decide ¬p)) w:=by
 unfold zBT at h;unfold zLS at hk;split at h<;>try (cases h; done)
 ·rename_i k a k' b;split at h<;>try (cases h; done)
  rename_i he;subst he;cases h;refine⟨_,_,rfl,rfl,?_,?_⟩
  ·rw[Sem.run_bind,zFW,Result.andThen_ok];by_cases hab:a=b<;>simp[binOp,Op.intCmp,hab]
  ·rw[Sem.run_bind,zFW,Result.andThen_ok];by_cases hab:a=b<;>simp[binOp,Op.intCmp,hab]
 ·rename_i a b;cases h;split at hk<;>try (cases hk; done)
  rename_i hD;refine⟨_,_,rfl,rfl,?_,?_⟩
  ·simp[eqGuard,binOp,Op.equal,Op.maxDepth,run_equalIn_bool' w 9999 t a b hD];cases a<;>cases b<;>simp
  ·simp[eqGuard,binOp,Op.equal,Op.maxDepth,run_equalIn_bool' w 9999 t a b hD];cases a<;>cases b<;>simp
 ·rename_i a b;cases h;refine⟨_,_,rfl,rfl,?_,?_⟩
  ·simp[eqGuard,binOp,Op.stringOp,zKF]
  ·simp[eqGuard,binOp,Op.stringOp,zKF]
theorem zFz {t:TypeId}{k:SK}(h:zLS P t=some k):(isAgg t).run P w=.ok false w:=by
 unfold zLS at h;split at h<;>try (cases h; done)
 all_goals (rename_i hD; rw[zDF hD]; rfl)
open Classical in
theorem zFV (d:Nat):∀(ks:List SK) (fs:List Field) (o:Nat) (xs ys:List A) (p:Prop) (us vs us0 vs0:List Value),zEL P o fs=some ks→zAf ks xs ys=some p →
 zY H L xs us→zY H L ys vs→us0.length=o→vs0.length=o→(Op.eqFields (d+1) (us0++us).toArray (vs0++vs).toArray fs).run P w=.ok (decide p) w
 | ks,[],o,xs,ys,p,us,vs,us0,vs0,hf,he,hx,hy,h1,h2=>by
  simp only[zEL,jA1]at hf;subst hf;unfold zAf at he;split at he<;>try (cases he; done)
  ·cases he; simp[Op.eqFields]
  ·cases ‹([]:List SK)=_::_›
 | ks,f::fs,o,xs,ys,p,us,vs,us0,vs0,hf,he,hx,hy,h1,h2=>by
  simp only[zEL]at hf;split at hf<;>try (cases hf; done)
  rename_i hof;obtain⟨hof,hnm⟩:=hof;split at hf<;>try (cases hf; done)
  rename_i k ks' hk hks;cases hf;cases xs with
  | nil=>simp[zAf]at he
  | cons x xs' =>
  cases ys with
  | nil=>simp[zAf]at he
  | cons y ys' =>
  simp only[zAf]at he;split at he<;>try (cases he; done)
  rename_i p1 q1 hp1 hq1;cases he;obtain⟨u,us',rfl,hu,hus⟩:=qB hx;obtain⟨v,vs',rfl,hv,hvs⟩:=qB hy;obtain⟨u',v',rfl,rfl,_,_,hrun⟩:=zMT (w:=w) hp1 hk d;simp only[Rel]at hu hv;subst hu;subst hv;have hpu:(part f.type (us0++u::us').toArray f.offset).run P w=.ok u w:=by
   unfold part;rw[Sem.run_bind,zFz hk,Result.andThen_ok];have:(us0++u::us')[f.offset]?=some u:=by rw[hof,←h1]; simp
   simp[this]
  have hpv:(part f.type (vs0++v::vs').toArray f.offset).run P w=.ok v w:=by
   unfold part;rw[Sem.run_bind,zFz hk,Result.andThen_ok];have:(vs0++v::vs')[f.offset]?=some v:=by rw[hof,←h2]; simp
   simp[this]
  have ih:=zFV d ks' fs (o+1) xs' ys' q1 us' vs' (us0++[u]) (vs0++[v]) hks hq1 hus hvs (by simp[h1]) (by simp[h2]);simp only[jAv,jCu]at ih;simp only[Op.eqFields,hnm,ne_eq,not_false_eq_true,if_true,Sem.run_bind,hpu,hpv,Result.andThen_ok,hrun];by_cases hp:p1
  ·simp[hp,ih]
  ·simp[hp]
open Classical in
theorem zNb {o:Oper}{ng:Bool}{t t':TypeId}{x y:Operand}{k:SK}(ho:o.op=.binOp (if ng then .neq else .eql) t x y t')(hk:zLS P t=some k)(he:qJ H L N env a.tmps){r:A}{p:Prop}
 (h:zP env σ (.eqv o.dst ng k x y)=some (p,r)):zA2 P H L w a o r:=by
 have hx:=qU he x;have hy:=qU he y;simp only[zP,jAe,jBb]at h;obtain⟨q,hq,_,rfl⟩:=h;obtain⟨u,v,e1,e2,h1,h2⟩:=zTC (w:=w) hq hk x y;rw[e1]at hx;rw[e2]at hy;simp only[Rel]at hx hy;cases ng
 ·refine⟨.bool (decide q),?_,by rw[zE3]; simp only[Rel]⟩;unfold execOp;simp only[jAc,if_false]at ho;simp only[ho];refine qS ?_;rw[hx,hy];exact h1
 ·refine⟨.bool (decide ¬q),?_,by rw[zF0]; simp only[Rel]⟩;unfold execOp;simp only[if_true]at ho;simp only[ho];refine qS ?_;rw[hx,hy];exact h2
open Classical in
theorem zNa {o:Oper}{ng:Bool}{t t':TypeId}{x y:Operand}{ks:List SK}(ho:o.op=.binOp (if ng then .neq else .eql) t x y t')(hk:zNZ P t=some ks)(he:qJ H L N env a.tmps){r:A}{p:Prop}
 (h:zP env σ (.eqs o.dst ng ks x y)=some (p,r)):zA2 P H L w a o r:=by
 have hx:=qU he x;have hy:=qU he y;simp only[zP]at h;split at h<;>try (cases h; done)
 rename_i xs ys hxe hye;simp only[jAe,jBb]at h;obtain⟨q,hq,_,rfl⟩:=h;rw[hxe]at hx;rw[hye]at hy;simp only[Rel]at hx hy;obtain⟨us,hu,hu1,_⟩:=hx;obtain⟨vs,hv,hv1,_⟩:=hy;unfold zNZ at hk;split at hk<;>try (cases hk; done)
 rename_i fs hfs;split at hk<;>try (cases hk; done)
 rename_i hb;simp only[jB7,not_or,jAu]at hb;have hfo:P.fieldsOf t=fs:=by simp[Program.fieldsOf,hfs]
 have hrun:=zFV (P:=P) (w:=w) 9998 ks fs.toList 0 xs ys q us vs [] [] hk hq hu1 hv1 rfl rfl;simp only[jC6]at hrun;have hst:=run_equalIn_struct (P:=P) w 9999 t us.toArray vs.toArray (by rw[hfo]; exact hfs) hb.1;rw[hfo,hrun]at hst;cases ng
 ·refine⟨.bool (decide q),?_,by rw[zE3]; simp only[Rel]⟩;unfold execOp;simp only[jAc,if_false]at ho;simp only[ho];refine qS ?_;rw[hu,hv,Sem.run_bind,run_eqGuard_agg w _ t x y _ _ hb.2,Result.andThen_ok,run_eql_struct,hst];rfl
 ·refine⟨.bool (decide ¬q),?_,by rw[zF0]; simp only[Rel]⟩;unfold execOp;simp only[if_true]at ho;simp only[ho];refine qS ?_;rw[hu,hv,Sem.run_bind,run_eqGuard_agg w _ t x y _ _ hb.2,Result.andThen_ok,run_neq_struct,hst];simp
theorem zHe:∀{k1 k2:List SK} {xs ys:List A} {p:Prop},zAf (k1++k2) xs ys=some p→∃xs1 xs2 ys1 ys2 p1 p2,xs=xs1++xs2∧ys=ys1++ys2∧xs1.length=k1.length∧ys1.length=k1.length∧zAf k1 xs1 ys1=some p1∧zAf k2 xs2 ys2=some p2∧(p↔p1∧p2)
 | [],k2,xs,ys,p,h=>⟨[],xs,[],ys,True,p,rfl,rfl,rfl,rfl,rfl,h,by simp⟩
 | k::k1,k2,xs,ys,p,h=>by
  cases xs with
  | nil=>simp[zAf]at h
  | cons x xs =>
  cases ys with
  | nil=>simp[zAf]at h
  | cons y ys =>
  simp only[jBi,zAf]at h;split at h<;>try (cases h; done)
  rename_i a b ha hb;cases h;obtain⟨xs1,xs2,ys1,ys2,p1,p2,rfl,rfl,h1,h2,h3,h4,h5⟩:=zHe hb;refine⟨x::xs1,xs2,y::ys1,ys2,a∧p1,p2,rfl,rfl,by simp[h1],by simp[h2],by simp[zAf,ha,h3],h4,by rw[h5,and_assoc]⟩
open Classical in
theorem zEX (d:Nat):∀(fs:List Field) (ks:List SK) (o:Nat) (xs ys:List A) (p:Prop) (us vs us0 vs0:List Value),skN P o fs=some ks→zAf ks xs ys=some p →
 zY H L xs us→zY H L ys vs→us0.length=o→vs0.length=o→(Op.eqFields (d+2) (us0++us).toArray (vs0++vs).toArray fs).run P w=.ok (decide p) w
 | [],ks,o,xs,ys,p,us,vs,us0,vs0,hf,he,hx,hy,h1,h2=>by
  simp only[skN,jA1]at hf;subst hf;unfold zAf at he;split at he<;>try (cases he; done)
  ·cases he; simp[Op.eqFields]
  ·cases ‹([]:List SK)=_::_›
 | f::fs,ks,o,xs,ys,p,us,vs,us0,vs0,hf,he,hx,hy,h1,h2=>by
  simp only[skN]at hf;split at hf<;>try (cases hf; done)
  rename_i hof;obtain⟨hof,hnm⟩:=hof;split at hf
  ·rename_i k hk;simp only[jAe]at hf;obtain⟨ks',hks,rfl⟩:=hf;cases xs with
   | nil=>simp[zAf]at he
   | cons x xs' =>
   cases ys with
   | nil=>simp[zAf]at he
   | cons y ys' =>
   simp only[zAf]at he;split at he<;>try (cases he; done)
   rename_i p1 q1 hp1 hq1;cases he;obtain⟨u,us',rfl,hu,hus⟩:=qB hx;obtain⟨v,vs',rfl,hv,hvs⟩:=qB hy;obtain⟨u',v',rfl,rfl,_,_,hrun⟩:=zMT (w:=w) hp1 hk (d+1);simp only[Rel]at hu hv;subst hu;subst hv;have hpu:(part f.type (us0++u::us').toArray f.offset).run P w=.ok u w:=by
    unfold part;rw[Sem.run_bind,zFz hk,Result.andThen_ok];have:(us0++u::us')[f.offset]?=some u:=by rw[hof,←h1]; simp
    simp[this]
   have hpv:(part f.type (vs0++v::vs').toArray f.offset).run P w=.ok v w:=by
    unfold part;rw[Sem.run_bind,zFz hk,Result.andThen_ok];have:(vs0++v::vs')[f.offset]?=some v:=by rw[hof,←h2]; simp
    simp[this]
   have ih:=zEX d fs ks' (o+1) xs' ys' q1 us' vs' (us0++[u]) (vs0++[v]) hks hq1 hus hvs (by simp[h1]) (by simp[h2]);simp only[jAv,jCu]at ih;simp only[Op.eqFields,hnm,ne_eq,not_false_eq_true,if_true,Sem.run_bind,hpu,hpv,Result.andThen_ok,hrun];by_cases hp:p1
   ·simp[hp,ih]
   ·simp[hp]
  ·split at hf<;>try (cases hf; done)
   rename_i gs hgs;split at hf<;>try (cases hf; done)
   rename_i hst;split at hf<;>try (cases hf; done)
   rename_i k1 j hk1 hj;split at hf<;>try (cases hf; done)
   rename_i hsz;simp only[jAe]at hf;obtain⟨k2,hk2,rfl⟩:=hf;obtain⟨xs1,xs2,ys1,ys2,p1,p2,rfl,rfl,g1,g2,g3,g4,g5⟩:=zHe he;obtain⟨us1,us2,rfl,hu1,hu2⟩:=hx.split;obtain⟨vs1,vs2,rfl,hv1,hv2⟩:=hy.split;have l1:us1.length=k1.length:=by rw[hu1.length,g1]
   have l2:vs1.length=k1.length:=by rw[hv1.length,g2]
   have hag:(isAgg f.type).run P w=.ok true w:=by rw[zDF hgs]; rfl
   have hpart:∀(z0 z1 z2:List Value),z0.length=o→z1.length=k1.length→(part f.type (z0++(z1++z2)).toArray f.offset).run P w=.ok (.agg z1.toArray) w:=by
    intro z0 z1 z2 e0 e1;unfold part;rw[Sem.run_bind,hag,Result.andThen_ok];simp only[if_true,Sem.run_bind,yO hj,Result.andThen_ok,hof,hsz];have:(z0++(z1++z2)).toArray.extract o (o+k1.length)=z1.toArray:=by apply jC1;simp[←e0,←e1]
    rw[this];rfl
   have hfo:P.fieldsOf f.type=gs:=by simp[Program.fieldsOf,hgs]
   have hin:=zFV (P:=P) (w:=w) d k1 gs.toList 0 xs1 ys1 p1 us1 vs1 [] [] hk1 g3 hu1 hv1 rfl rfl;simp only[jC6]at hin;have hst2:=run_equalIn_struct (P:=P) w (d+1) f.type us1.toArray vs1.toArray (by rw[hfo]; exact hgs) (by simpa using hst);rw[hfo,hin]at hst2;have ih:=zEX d fs k2 (o+k1.length) xs2 ys2 p2 us2 vs2 (us0++us1) (vs0++vs1) hk2 g4 hu2 hv2 (by simp[h1,l1]) (by simp[h2,l2]);simp only[jAv]at ih;simp only[Op.eqFields,hnm,ne_eq,not_false_eq_true,if_true,Sem.run_bind,hpart us0 us1 us2 h1 l1,hpart vs0 vs1 vs2 h2 l2,Result.andThen_ok,hst2];by_cases hp:p1
   ·simp[hp,ih,g5]
   ·simp[hp,g5]
open Classical in
theorem zMZ {o:Oper}{ng:Bool}{t t':TypeId}{x y:Operand}{ks:List SK}(ho:o.op=.binOp (if ng then .neq else .eql) t x y t')(hk:zOk P t=some ks)(he:qJ H L N env a.tmps){r:A}{p:Prop}
 (h:zP env σ (.eqs o.dst ng ks x y)=some (p,r)):zA2 P H L w a o r:=by
 have hx:=qU he x;have hy:=qU he y;simp only[zP]at h;split at h<;>try (cases h; done)
 rename_i xs ys hxe hye;simp only[jAe,jBb]at h;obtain⟨q,hq,_,rfl⟩:=h;rw[hxe]at hx;rw[hye]at hy;simp only[Rel]at hx hy;obtain⟨us,hu,hu1,_⟩:=hx;obtain⟨vs,hv,hv1,_⟩:=hy;unfold zOk at hk;split at hk<;>try (cases hk; done)
 rename_i fs hfs;split at hk<;>try (cases hk; done)
 rename_i hb;simp only[jB7,not_or,jAu]at hb;have hfo:P.fieldsOf t=fs:=by simp[Program.fieldsOf,hfs]
 have hrun:=zEX (P:=P) (w:=w) 9997 fs.toList ks 0 xs ys q us vs [] [] hk hq hu1 hv1 rfl rfl;simp only[jC6]at hrun;have hst:=run_equalIn_struct (P:=P) w 9999 t us.toArray vs.toArray (by rw[hfo]; exact hfs) hb.1;rw[hfo,hrun]at hst;cases ng
 ·refine⟨.bool (decide q),?_,by rw[zE3]; simp only[Rel]⟩;unfold execOp;simp only[jAc,if_false]at ho;simp only[ho];refine qS ?_;rw[hu,hv,Sem.run_bind,run_eqGuard_agg w _ t x y _ _ hb.2,Result.andThen_ok,run_eql_struct,hst];rfl
 ·refine⟨.bool (decide ¬q),?_,by rw[zF0]; simp only[Rel]⟩;unfold execOp;simp only[if_true]at ho;simp only[ho];refine qS ?_;rw[hu,hv,Sem.run_bind,run_eqGuard_agg w _ t x y _ _ hb.2,Result.andThen_ok,run_neq_struct,hst];simp
theorem zNd {o:Oper}{ng:Bool}{t t':TypeId}{x y:Operand}(ho:o.op=.binOp (if ng then .neq else .eql) t x y t')(hn:zSP P t y=true)(he:qJ H L N env a.tmps){r:A}{p:Prop}
 (h:zP env σ (.isp o.dst ng x)=some (p,r)):zA2 P H L w a o r:=by
 have hx:=qU he x;unfold zSP at hn;split at hn<;>try (cases hn; done)
 rename_i e hu;have fin:∀(ad:Option Addr),a.eval x=.pointer ad→r=.lit (.bool (ad.isNone != ng))→zA2 P H L w a o r:=by
  rintro ad hv rfl;have key:(Op.equal t (.pointer ad) (.pointer none)).run P w=.ok ad.isNone w:=by
   unfold Op.equal Op.maxDepth;unfold Op.equalIn;cases ad with
   | none=>simp[run_underlying hu]
   | some ad=>simp[run_underlying hu]
  refine⟨.bool (ad.isNone != ng),?_,by simp only[Rel]⟩;unfold execOp;cases ng
  ·simp only[jAc,if_false]at ho;simp only[ho,hv];refine qS ?_;simp[Act.eval,eqGuard,binOp,key]
  ·simp only[if_true]at ho;simp only[ho,hv];refine qS ?_;simp[Act.eval,eqGuard,binOp,key]
 simp only[zP]at h;split at h<;>try (cases h; done)
 ·rename_i hxe;cases h;rw[hxe]at hx;simp only[Rel]at hx;exact fin none hx (by cases ng<;>rfl)
 ·rename_i hxe;cases h;rw[hxe]at hx;simp only[Rel]at hx;obtain⟨b,o',us,hx,_⟩:=hx;exact fin (some ⟨b,o',none⟩) hx (by cases ng<;>rfl)
 ·rename_i hxe;cases h;rw[hxe]at hx;simp only[Rel]at hx;obtain⟨li,b,_,_,_,hx⟩:=hx;exact fin _ hx (by cases ng<;>rfl)
theorem zNc {o:Oper}{ng:Bool}{t t':TypeId}{x y:Operand}(ho:o.op=.binOp (if ng then .neq else .eql) t x y t')(hn:zLw P t y=true)(he:qJ H L N env a.tmps){r:A}{p:Prop}
 (h:zP env σ (.isn o.dst ng x)=some (p,r))(hp:p):zA2 P H L w a o r:=by
 have hx:=qU he x;unfold zLw at hn;split at hn<;>try (cases hn; done)
 rename_i e hu;have fin:∀(b:Bool),(∃(ad:Option Addr) (n c:Nat),a.eval x=.slice ad n c∧ad.isNone=b)→r=.lit (.bool (b != ng))→zA2 P H L w a o r:=by
  rintro b ⟨ad,n,c,hv,hb⟩ rfl;have key:(Op.equal t (.slice ad n c) (.slice none 0 0)).run P w=.ok b w:=by
   subst hb;unfold Op.equal Op.maxDepth;unfold Op.equalIn;cases ad with
   | none=>simp[run_underlying hu]
   | some ad=>simp[run_underlying hu]
  refine⟨.bool (b != ng),?_,by simp only[Rel]⟩;unfold execOp;cases ng
  ·simp only[jAc,if_false]at ho;simp only[ho,hv];refine qS ?_;simp[Act.eval,eqGuard,binOp,key]
  ·simp only[if_true]at ho;simp only[ho,hv];refine qS ?_;simp[Act.eval,eqGuard,binOp,key]
 simp only[zP]at h;split at h<;>try (cases h; done)
 ·rename_i hxe;cases h;rw[hxe]at hx;simp only[Rel]at hx;exact fin true ⟨_,_,_,hx,rfl⟩ (by cases ng<;>rfl)
 ·rename_i n cs hxe;cases h;rw[hxe]at hx;simp only[Rel]at hx;obtain⟨ad,cap,hv,_,_,h3⟩:=hx;rcases h3 with ⟨h3,_⟩ | ⟨b,off,us,rfl,_⟩
  ·exact(hp h3).elim
  ·exact fin false ⟨_,_,_,hv,rfl⟩ (by cases ng<;>rfl)
 ·rename_i n cs hxe;cases h;rw[hxe]at hx;simp only[Rel]at hx;obtain⟨ad,hv,_,h3⟩:=hx;rcases h3 with ⟨h3,_⟩ | ⟨b,off,us,rfl,_⟩
  ·exact(hp h3).elim
  ·exact fin false ⟨_,_,_,hv,rfl⟩ (by cases ng<;>rfl)
theorem zNe {o:Oper}{ng:Bool}{t t':TypeId}{x y:Operand}(ho:o.op=.binOp (if ng then .neq else .eql) t x y t')(hn:zLw P t y=true){ad:Option Addr}{n cap:Nat}(hv:a.eval x=.slice ad n cap) :
 zA2 P H L w a o (.lit (.bool (ad.isNone != ng))):=by
 unfold zLw at hn;split at hn<;>try (cases hn; done)
 rename_i e hu;have key:(Op.equal t (.slice ad n cap) (.slice none 0 0)).run P w=.ok ad.isNone w:=by
  unfold Op.equal Op.maxDepth;unfold Op.equalIn;cases ad with
  | none=>simp[run_underlying hu]
  | some ad=>simp[run_underlying hu]
 refine⟨.bool (ad.isNone != ng),?_,by simp only[Rel]⟩;unfold execOp;cases ng
 ·simp only[jAc,if_false]at ho;simp only[ho,hv];refine qS ?_;simp[Act.eval,eqGuard,binOp,key]
 ·simp only[if_true]at ho;simp only[ho,hv];refine qS ?_;simp[Act.eval,eqGuard,binOp,key]
theorem zZw (hs:RelSt H L σ w){x:A}{v:Value}(hx:Rel H L x v):(x=.nil→v=.slice none 0 0)∧(∀n cs,x=.sl n cs→∃ad cap,v=.slice ad n cap∧(n≠0→ad.isNone=false)) ∧
 ∀l n fz e sz cs,x=.row l n→σ[l]?=some (.row fz e sz n cs)→∃ad cap,v=.slice ad n cap∧(n≠0→ad.isNone=false):=by
 refine⟨fun e=>by subst e; simpa only[Rel] using hx,fun n cs e=>?_,fun l n fz e sz cs he hσ=>?_⟩
 ·subst e;simp only[Rel]at hx;obtain⟨ad,cap,hv,_,_,h3⟩:=hx;refine⟨ad,cap,hv,fun h0=>?_⟩;rcases h3 with ⟨h3,_⟩ | ⟨b,off,us,rfl,_⟩
  ·exact(h0 h3).elim
  ·rfl
 ·subst he;simp only[Rel]at hx;obtain⟨_,li,e1,e2,e3,hv⟩:=hx;have hob:=hs.obj l li _ e1 hσ;simp only[zW]at hob;have hv:=hv (by rw[hob.2.1]);cases hb:li.block with
  | none =>
   rw[hb]at hv;rcases hob.2.2.2 with ⟨_,h0⟩ | ⟨b,cur,hb',_⟩
   ·subst h0; exact⟨_,_,hv,fun h=>(h rfl).elim⟩
   ·rw[hb]at hb'; cases hb'
  | some b=>rw[hb]at hv; exact⟨_,_,hv,fun _=>rfl⟩
end
end Go.Abs
namespace Go.Abs
section
variable {P:Program}{H:Mem}{L:List LI} {σ : St}{w:World}{N:Nat}{env:Env}{a:Act}
theorem zPg (off:Nat):∀(vs:List Value) (k:Nat) (cs:Array Value),off+k+vs.length≤cs.size →
 ((vs.zipIdx k).foldl (fun cs (p:Value×Nat)=>cs.setIfInBounds (off+p.2) p.1) cs).toList=cs.toList.take (off+k)++vs++cs.toList.drop (off+k+vs.length)
 | [],k,cs,_=>by simp
 | v::vs,k,cs,h=>by
  simp only[jAd]at h;have ih:=zPg off vs (k+1) (cs.setIfInBounds (off+k) v) (by simpa using by omega);rw[List.zipIdx_cons,jBh,ih];simp only[jDp,jAd];have hk:off+k<cs.toList.length:=by simpa using by omega
  rw[show off+(k+1)=off+k+1 from by omega,jA9 (by simpa using hk),List.take_set_of_le (jA _),jDz,
   List.drop_set_of_lt (by omega)]
  simp only[jAv,jCu];rw[show off+k+1+vs.length=off+k+(vs.length+1) from by omega]
theorem zHX (he:qJ H L N env a.tmps)(place:Nat→Option (Nat×Nat)):∀(parts:List (Nat×Operand)) (ps:List (Nat×Nat×Operand)) (zs:List A) (arr:Array Value) (cs:List A),
 zD6 place parts=some ps→zBp zs (ps.map fun(o,s,x)=>(o,s,ev env x))=some cs→zY H L zs arr.toList→(∀u∈arr.toList,one u) →
 ∃arr':Array Value,Instr.fill place arr (parts.map fun(i,x)=>(i,a.eval x))=some arr'∧zY H L cs arr'.toList∧∀u∈arr'.toList,one u
 | [],ps,zs,arr,cs,hp,hf,hz,h1=>by simp only[zD6,List.mapM_nil,jDq,jA1]at hp;subst hp;simp only[jBf,zBp,jA1]at hf;subst hf;exact⟨arr,rfl,hz,h1⟩
 | (i,x)::parts,ps,zs,arr,cs,hp,hf,hz,h1=>by
  simp only[zD6,jDe,jDq,jAb,jA7,jAe,jA1]at hp;obtain⟨q,⟨⟨off,size⟩,hpl,rfl⟩,ps',hps,rfl⟩:=hp;simp only[jAj,zBp]at hf;split at hf<;>try (cases hf; done)
  rename_i l hl;split at hf<;>try (cases hf; done)
  rename_i hc;obtain⟨hc1,hc2⟩:=hc;obtain⟨g1,g2⟩:=zGk (qU he x) hl;have hlen:=g1.length;have hzl:=hz.length;have hls:(a.eval x).cells.size=size:=by rw[←jAy,hlen,hc1]
  have hsz:off+(a.eval x).cells.size≤arr.size:=by rw[hls,←jAy,hzl]; exact hc2
  have hfold:(((a.eval x).cells.zipIdx.foldl (fun cs (p:Value×Nat)=>cs.setIfInBounds (off+p.2) p.1) arr)).toList=arr.toList.take off++(a.eval x).cells.toList++arr.toList.drop (off+size):=by have:=zPg off (a.eval x).cells.toList 0 arr (by simpa using hsz);simp only[jD5,jAy,hls]at this;rw[←this,←Array.foldl_toList,Array.toList_zipIdx]
  obtain⟨arr',k1,k2,k3⟩:=zHX he place parts ps' _ ((a.eval x).cells.zipIdx.foldl (fun cs (p:Value×Nat)=>cs.setIfInBounds (off+p.2) p.1) arr) cs hps hf
   (by rw[hfold]; exact((hz.take off).append g1).append (hz.drop _))
   (by
    rw[hfold];intro u hu;simp only[jA8]at hu;rcases hu with (hu | hu) | hu
    ·exact h1 u (jBa hu)
    ·exact g2 u hu
    ·exact h1 u (jBq hu))
  refine⟨arr',?_,k2,k3⟩;simp only[jAj,Instr.fill,hpl];rw[if_neg (by simp only[jB7,decide_eq_true_eq,not_or,Decidable.not_not,hls,true_and,Nat.not_lt,ne_eq]; rw[hls]at hsz; exact hsz)];exact k1
theorem zP6 {fs:Array Field}{P:Program}(hall:fs.all (fun f=>(P.info? f.type).isSome)=true) :
 ∃ps:Array (Nat×Nat),(fs.mapM fun f=>(do pure (f.offset,←sizeOf f.type):Sem (Nat×Nat))).run P w=.ok ps w∧∀i:Nat,ps[i]?=zEm P fs.toList i:=by
 obtain⟨l⟩:=fs;have hall':∀f∈l,(P.info? f.type).isSome:=by simpa using hall
 have key:∀(l:List Field),(∀f∈l,(P.info? f.type).isSome)→∃ps:List (Nat×Nat),(l.mapM fun f=>(do pure (f.offset,←sizeOf f.type):Sem (Nat×Nat))).run P w=.ok ps w ∧
  ∀i:Nat,ps[i]?=zEm P l i:=by
  intro l;induction l with
  | nil=>intro _; exact⟨[],by simp,by simp[zEm]⟩
  | cons f l ih =>
   intro h;obtain⟨ps,h1,h2⟩:=ih (fun g hg=>h g (jAm _ hg));obtain⟨j,hj⟩:=Option.isSome_iff_exists.1 (h f (jAn ..));refine⟨(f.offset,j.size)::ps,?_,?_⟩
   ·rw[jDe];simp only[Sem.run_bind,yO hj,Result.andThen_ok,Sem.run_pure,h1]
   ·intro i;cases i with
    | zero=>simp[zEm,hj]
    | succ i=>simpa [zEm] using h2 i
 obtain⟨ps,h1,h2⟩:=key l hall';refine⟨ps.toArray,?_,fun i=>by simpa using h2 i⟩;rw[List.mapM_toArray];simp only[Sem.run_map,h1,Result.andThen_ok]
theorem zJP {o:Oper}{t:TypeId}{parts:Array (Nat×Operand)}{i:TypeInfo}{z:Value}{place:Nat→Option (Nat×Nat)}{ps:List (Nat×Nat×Operand)}(ho:o.op=.build t parts)
 (hi:P.info? t=some i)(hz:i.zero=some z)(hok:zAo z.cells.toList=true)(hps:zD6 place parts.toList=some ps)
 (hpl:(∃fs,P.underlying t=some (.struct fs)∧fs.all (fun f=>(P.info? f.type).isSome)=true∧place=zEm P fs.toList) ∨
  (∃n e j,P.underlying t=some (.array n e)∧P.info? e=some j∧place=fun i=>some (i*j.size,j.size)))
 (he:qJ H L N env a.tmps){r:A}{p:Prop}(h:zP env σ (.build o.dst z.cells.toList ps)=some (p,r)):zA2 P H L w a o r:=by
 simp only[zP,jAe,jBb]at h;obtain⟨cs,hcs,_,rfl⟩:=h;have hone:∀u∈z.cells.toList,one u:=fun u hu=>jB.1 hok u hu
 obtain⟨arr,h1,h2,h3⟩:=zHX he place parts.toList ps _ z.cells cs hps hcs (zBb _) hone;refine⟨.agg arr,?_,by simp only[Rel]; exact⟨arr.toList,by simp,h2,h3⟩⟩;unfold execOp;simp only[ho];refine qS ?_;have hmap:(parts.map fun(i,x)=>(i,a.eval x)).toList=parts.toList.map fun(i,x)=>(i,a.eval x):=by simp
 unfold Instr.build;have hzr:(zeroValue t).run P w=.ok z w:=by simp[zeroValue,typeInfo,hi,hz]
 rcases hpl with ⟨fs,hu,hall,rfl⟩ | ⟨n,e,j,hu,hj,rfl⟩
 ·obtain⟨pls,hm1,hm2⟩:=zP6 (w:=w) hall;have hfn:(fun i:Nat=>pls[i]?)=zEm P fs.toList:=funext hm2;simp only[Sem.run_bind,hzr,Result.andThen_ok,run_underlying hu,hm1,hmap];rw[hfn,h1];rfl
 ·simp only[Sem.run_bind,hzr,Result.andThen_ok,run_underlying hu,yO hj,hmap];rw[h1];rfl
end
end Go.Abs
namespace Go.Abs
section
variable {P:Program}{H:Mem}{L:List LI} {σ : St}{w:World}{N:Nat}{env:Env}{a:Act}
theorem zR6 {o:Oper}{k:KOp}{p:Prop}{r:A}(hc:zA0 P o=some k)(h:zP env σ k=some (p,r))(hp:p)(he:qJ H L N env a.tmps)(hs:RelSt H L σ w) :
 zA2 P H L w a o r:=by
 unfold zA0 at hc;split at hc
 case h_1 x heq=>cases hc; cases h; exact zNf (.inl heq) he
 case h_2 x heq=>cases hc; cases h; exact zNf (.inr heq) he
 case h_3 c x y heq =>
  cases hc;simp only[zP]at h;split at h<;>try (cases h; done)
  rename_i t hce;cases h;exact zRm heq he hce
 case h_4 e heq =>
  simp only[jAb,jA7]at hc;obtain⟨i,_,z,_,hc⟩:=hc;split at hc
  ·cases hc; simp[zP]at h
  ·cases hc
 case h_5 e x heq=>cases hc; simp[zP]at h
 case h_6 t x heq =>
  simp only[jAb,jA7,jA1]at hc;obtain⟨u,hu,i,hi,rfl⟩:=hc;simp only[zP,jAe,jBb]at h;obtain⟨r',hr,_,rfl⟩:=h;exact zWI heq hu hi he hs hr
 case h_7 t x y heq =>
  simp only[jAb,jA7,jA1]at hc;obtain⟨i,hi,rfl⟩:=hc;simp[zP]at h
 case h_8 s x f heq =>
  split at hc<;>try (cases hc; done)
  rename_i fs hfs;simp only[jAb,jA7]at hc;obtain⟨g,hg,i,hi,hc⟩:=hc;split at hc<;>try (cases hc; done)
  rename_i h0;cases hc;exact zRj heq hfs hg hi h0 he hs h
 case h_9 t x i heq =>
  split at hc<;>try (cases hc; done)
  ·rename_i e hu;simp only[jAb,jA7,jA1]at hc;obtain⟨ti,hi,rfl⟩:=hc;exact zTQ heq hu hi he hs h hp
  ·rename_i n e hu;simp only[jAb,jA7,jA1]at hc;obtain⟨ti,hi,rfl⟩:=hc;exact zOa heq hu hi he h hp
 case h_10 t x f heq =>
  split at hc<;>try (cases hc; done)
  rename_i fs hfs;simp only[jAb,jA7,jA1]at hc;obtain⟨g,hg,u,hu,i,hi,rfl⟩:=hc;exact zTP heq hfs hg hu hi he h
 case h_11 t x i heq =>
  split at hc<;>try (cases hc; done)
  rename_i n e hut;simp only[jAb,jA7,jA1]at hc;obtain⟨u,hu,j,hj,rfl⟩:=hc;exact zWH heq hut hu hj he h hp
 case h_12 op t x y t' heq =>
  split at hc<;>try (cases hc; done)
  all_goals try (cases hc; exact zTM heq he h hp)
  ·split at hc
   ·rename_i k hk;cases hc;exact zNb (ng:=false) heq hk he h
   ·split at hc
    ·rename_i hn;cases hc;exact zNc (ng:=false) heq hn he h hp
    ·rcases zG7 hc with ⟨hn,rfl⟩ | ⟨ks,hk,rfl⟩
     ·exact zNd (ng:=false) heq hn he h
     ·rcases hk with hk | hk
      ·exact zNa (ng:=false) heq hk he h
      ·exact zMZ (ng:=false) heq hk he h
  ·split at hc
   ·rename_i k hk;cases hc;exact zNb (ng:=true) heq hk he h
   ·split at hc
    ·rename_i hn;cases hc;exact zNc (ng:=true) heq hn he h hp
    ·rcases zG7 hc with ⟨hn,rfl⟩ | ⟨ks,hk,rfl⟩
     ·exact zNd (ng:=true) heq hn he h
     ·rcases hk with hk | hk
      ·exact zNa (ng:=true) heq hk he h
      ·exact zMZ (ng:=true) heq hk he h
 case h_13 op t x heq =>
  split at hc<;>try (cases hc; done)
  ·cases hc; exact zTT heq he h
  ·cases hc; exact zTU heq he h
 case h_14 t i heq=>cases hc; exact zTO heq he h
 case h_15 f first cap heq=>cases hc; cases h; exact zTN heq he
 case h_16 t x lo hi mx heq =>
  split at hc<;>try (cases hc; done)
  rename_i e hu;simp only[jAb,jA7,jA1]at hc;obtain⟨i,hi,rfl⟩:=hc;exact zTV heq hu hi he h hp
 case h_17 t parts heq =>
  split at hc<;>try (cases hc; done)
  ·rename_i fs hu;simp only[jAb,jA7]at hc;obtain⟨i,hi,z,hz,hc⟩:=hc;split at hc<;>try (cases hc; done)
   rename_i hb;simp only[jA6]at hb;simp only[jA7,jA1]at hc;obtain⟨ps,hps,rfl⟩:=hc;exact zJP heq hi hz hb.1 hps (.inl ⟨fs,hu,hb.2,rfl⟩) he h
  ·rename_i n e hu;simp only[jAb,jA7]at hc;obtain⟨i,hi,z,hz,j,hj,hc⟩:=hc;split at hc<;>try (cases hc; done)
   rename_i hb;simp only[jA7,jA1]at hc;obtain⟨ps,hps,rfl⟩:=hc;exact zJP heq hi hz hb hps (.inr ⟨n,e,j,hu,hj,rfl⟩) he h
 case h_18 t len parts heq =>
  split at hc<;>try (cases hc; done)
  simp only[jAb,jA7]at hc;obtain⟨j,hj,z,hz,hc⟩:=hc;split at hc<;>try (cases hc; done)
  simp only[jA7,jA1]at hc;obtain⟨ps,hps,rfl⟩:=hc;simp[zP]at h
 case h_19 c heq =>
  split at hc
  ·split at hc
   ·split at hc
    ·cases hc; simp[zP]at h
    ·cases hc
   ·cases hc; simp[zP]at h
   ·cases hc
  ·rename_i hcal;split at hc<;>try (cases hc; done)
   rename_i x t ha ht;split at hc<;>try (cases hc; done)
   ·rename_i e hu;cases hc;exact zTR heq hcal ha ht hu he hs h
   ·rename_i hu;cases hc;exact zRk heq hcal ha ht hu he h
  ·split at hc<;>try (cases hc; done)
   simp only[jAe]at hc;obtain⟨nk,_,rfl⟩:=hc;simp[zP]at h
  ·split at hc<;>try (cases hc; done)
   split at hc<;>try (cases hc; done)
   simp only[jAb,jA7]at hc;obtain⟨j,hj,z,hz,hc⟩:=hc;split at hc<;>try (cases hc; done)
   cases hc;simp[zP]at h
  ·rename_i hcal; cases hc; exact zPj (mx:=true) heq hcal he h
  ·rename_i hcal; cases hc; exact zPj (mx:=false) heq hcal he h
  ·split at hc<;>try (cases hc; done)
   split at hc<;>try (cases hc; done)
   split at hc<;>try (cases hc; done)
   simp only[jAb,jA7]at hc;obtain⟨j,hj,z,hz,hc⟩:=hc;split at hc<;>try (cases hc; done)
   cases hc;simp[zP]at h
  ·cases hc
 case h_20 x heq=>cases hc; exact zRl heq he h
 case h_21 t heq =>
  simp only[jAe]at hc;obtain⟨nk,_,rfl⟩:=hc;simp[zP]at h
 case h_22 t x k ok heq =>
  split at hc<;>try (cases hc; done)
  simp only[jAb,jA7,jA1]at hc;obtain⟨nk,_,j,_,z,_,rfl⟩:=hc;simp[zP]at h
 case h_23 t m k v heq =>
  simp only[jAe]at hc;obtain⟨nk,_,rfl⟩:=hc;simp[zP]at h
 case h_24 t x heq =>
  split at hc<;>try (cases hc; done)
  cases hc;simp[zP]at h
 case h_25 x heq=>cases hc; simp[zP]at h
 case h_26 x heq=>cases hc; simp[zP]at h
 case h_27 t x heq =>
  split at hc<;>try (cases hc; done)
  rename_i u hu;split at hc<;>try (cases hc; done)
  rename_i hn;cases hc;exact zTS heq hu hn he h
 case h_28=>cases hc; simp[zP]at h
 case h_29 t x y heq =>
  split at hc<;>try (cases hc; done)
  simp only[jAb,jA7]at hc;obtain⟨j,hj,z,hz,hc⟩:=hc;split at hc<;>try (cases hc; done)
  cases hc;simp[zP]at h
 case h_30 s d x heq =>
  split at hc<;>try (cases hc; done)
  ·split at hc<;>try (cases hc; done)
   cases hc;simp[zP]at h
  ·split at hc<;>try (cases hc; done)
   split at hc<;>try (cases hc; done)
   cases hc;simp[zP]at h
 case h_31=>cases hc
structure Nxt (H:Mem)(L:List LI)(w:World)(H':Mem)(L':List LI) (σ':St)(w':World):Prop where
 st:RelSt H' L' σ' w'
 step:Step (zPR L) w H w' H'
 lle:LLe L L'
 own:∀b,zPR L' b→zPR L b∨w.heap.size≤b
theorem Nxt.refl (hs:RelSt H L σ w):Nxt H L w H L σ w:=⟨hs,Step.refl _ _ _,LLe.refl _,fun _ h=>.inl h⟩
theorem Nxt.trans {H' H'':Mem}{L' L'':List LI} {σ' σ'':St}{w' w'':World}(h:Nxt H L w H' L' σ' w')(k:Nxt H' L' w' H'' L'' σ'' w''):Nxt H L w H'' L'' σ'' w'' :=
 ⟨k.st,h.step.trans k.step h.own,h.lle.trans k.lle,fun b hb=>(k.own b hb).elim (h.own b) fun hb=>.inr (jBp h.step.size hb)⟩
theorem Inv.next {O:Nat→Prop}{w0:World}{H0:Mem}{H':Mem}{L':List LI} {σ':St}{w':World}(h:Inv O w0 H0 H L σ w)(k:Nxt H L w H' L' σ' w'):Inv O w0 H0 H' L' σ' w' :=
 ⟨k.st,h.step.trans k.step h.own,fun b hb=>(k.own b hb).elim (h.own b) fun hb=>.inr (jBp h.step.size hb)⟩
theorem zW.carry {H':Mem}{L':List LI}{w':World}{li:LI}{o:AObj}(h:zW H L w li o)(hw:∀b,li.block=some b→w'.heap[b]?=w.heap[b]?)(hh:HLe H H')(hl:LLe L L')
 (hb:∀b,li.block=some b→∀o,H' b o=H b o):zW H' L' w' li o:=by
 cases o with
 | dead=>trivial
 | box cs =>
  simp only[zW]at h⊢;obtain⟨h0,b,vs,e,h1,h2,h3,h4,h5⟩:=h;exact⟨h0,b,vs,e,h1,by rw[hw b h1]; exact h2,zY.mono hh hl _ h3,h4,fun o=>by rw[hb b h1]; exact h5 o⟩
 | row fz e sz n cs =>
  simp only[zW]at h⊢;obtain⟨h0,h1,h2,h3⟩:=h;refine⟨h0,h1,h2,?_⟩;rcases h3 with h3 | ⟨b,cur,g1,g2,g3,g4,g5,g6,g7,g8⟩
  ·exact .inl h3
  ·refine .inr ⟨b,cur,g1,by rw[hw b g1]; exact g2,g3,g4,g5,zY.mono hh hl _ g6,g7,?_⟩;cases fz with
   | false=>exact fun o=>by rw[hb b g1]; exact g8 o
   | true=>exact⟨g8.1.mono hh,fun o ho=>by rw[hb b g1]; exact g8.2 o ho⟩
 | lp b r M es =>
  simp only[zW]at h⊢;obtain⟨h0,h1,tmps,h2,h3,h4⟩:=h;exact⟨h0,h1,tmps,by rw[hw b h1]; exact h2,h3,h4.mono hh hl⟩
 | mp fresh nk es =>
  simp only[zW]at h⊢;obtain⟨h0,b,ents,ck,h1,h2,h3,h4⟩:=h;exact⟨h0,b,ents,ck,h1,by rw[hw b h1]; exact h2,h3.mono hh hl,h4⟩
 | it m n met =>
  simp only[zW]at h⊢;obtain⟨h0,b,mb,lm,h1,h2,h3,h4,h5⟩:=h;obtain⟨lm',e',hlm⟩:=hl _ _ h2;rcases hlm with rfl | ⟨hr,_⟩ | ⟨hr,_⟩
  ·exact⟨h0,b,mb,_,h1,e',h3,h4,by rw[hw b h1]; exact h5⟩
  ·rw[h4]at hr; cases hr
  ·rw[h3]at hr; cases hr
 | rsv=>exact h
theorem zWd {w w':World}{b:Nat}(hkeep:∀k,k≠b→w'.heap[k]?=w.heap[k]?)(hb:∀d,w.heap[b]?≠some (.deferred d))(k:Nat)(d:Option (List Deferred))(h:w.heap[k]?=some (.deferred d)):w'.heap[k]?=some (.deferred d):=by
 by_cases hk:k=b
 ·subst hk; exact(hb d h).elim
 ·rw[hkeep k hk]; exact h
theorem zEg {w w':World}(hkeep:∀k,k<w.heap.size→w'.heap[k]?=w.heap[k]?)(k:Nat)(d:Option (List Deferred))(h:w.heap[k]?=some (.deferred d)):w'.heap[k]?=some (.deferred d):=by rw[hkeep k (jD2.1 h).1]; exact h
theorem RelSt.heap_eq {w':World}(h:RelSt H L σ w)(hw:w'.heap=w.heap):RelSt H L σ w':=by
 have hc:∀a,w'.cell? a=w.cell? a:=fun a=>by simp[World.cell?,hw]
 exact⟨fun b o v hv=>by rw[hc]; exact h.pers b o v hv,h.len,fun i l o h1 h2=>(h.obj i l o h1 h2).carry (fun b _=>by rw[hw]) (HLe.refl _) (LLe.refl _) (fun _ _ _=>rfl),h.inj,
  fun i l b h1 h2=>by rw[hw]; exact h.lt i l b h1 h2⟩
theorem RelSt.h_lt (h:RelSt H L σ w){b o:Nat}{v:Value}(hv:H b o=some v):b<w.heap.size:=World.block_lt_of_cell? w _ (h.pers b o v hv)
def zOb (H:Mem)(B:Nat)(us:List Value):Mem:=⟨fun b o=>match H b o with
 | some v=>some v
 | none=>if b=B then us[o]? else none,fun b o v h=>by simp only[H.2 b o v h]⟩
theorem zFc {H:Mem}{B:Nat}{us:List Value}(h:∀o v,H B o=some v→us[o]?=some v)(b o:Nat):zOb H B us b o=if b=B then us[o]? else H b o:=by
 simp only[zOb];cases hh:H b o with
 | some v =>
  simp only;split
  ·rename_i e; subst e; rw[h o v hh]
  ·rfl
 | none=>rfl
theorem RelSt.fresh (hs:RelSt H L σ w)(us:List Value):∀o v,H w.heap.size o=some v→us[o]?=some v:=fun o v hv=>by have:=hs.h_lt hv;omega
theorem zPN (hs:RelSt H L σ w)(us:List Value)(e:TypeId):Nxt H L w (zOb H w.heap.size us) L σ (w.alloc (.cells us.toArray e))∧At (zOb H w.heap.size us) w.heap.size 0 us:=by
 have hA:=zFc (hs.fresh us);have hle:HLe H (zOb H w.heap.size us):=fun b o v hv=>by have:=hs.h_lt hv;simp only[hA];rw[if_neg (by omega)];exact hv
 refine⟨⟨⟨fun b o v hv=>?_,hs.len,fun i l o h1 h2=>?_,hs.inj,fun i l b h1 h2=>?_⟩,⟨rfl,rfl,rfl,by simp,fun k hk _=>heap_alloc_old w _ (h:=hk),hle,fun b o v hv=>?_,jA _,zEg (heap_alloc_old w _)⟩,LLe.refl _,fun b hb=>.inl hb⟩,?_⟩
 ·simp only[hA]at hv;split at hv
  ·rename_i hb;subst hb;rw[World.cell?_alloc_new]
   simpa using hv
  ·rw[World.cell?_alloc_lt _ _ _ (hs.h_lt hv)];exact hs.pers b o v hv
 ·refine(hs.obj i l o h1 h2).carry (fun b hb=>heap_alloc_old w _ (h:=hs.lt i l b h1 hb)) hle (LLe.refl _) (fun b hb o'=>?_);have:=hs.lt i l b h1 hb;simp only[hA];rw[if_neg (by omega)]
 ·have:=hs.lt i l b h1 h2;simp;omega
 ·simp only[hA]at hv;split at hv
  ·rename_i hb; exact .inr (.inr (by omega))
  ·exact .inl hv
 ·intro i u hu;simp[hA,hu]
theorem zZF (hs:RelSt H L σ w){cs:List A}{us:List Value}(e:TypeId)(hr:zY H L cs us)(h1:∀u∈us,one u) :
 Nxt H L w H (L++[⟨some w.heap.size,0,0,false⟩]) (σ++[.box cs]) (w.alloc (.cells us.toArray e)):=by
 have hll:=LLe.append L [⟨some w.heap.size,0,0,false⟩];have hget:∀{i:Nat} {l:LI},(L++[⟨some w.heap.size,0,0,false⟩])[i]?=some l→L[i]?=some l∨(i=L.length∧l=⟨some w.heap.size,0,0,false⟩):=by
  intro i l h;rcases jB2 i L.length with hi | hi
  ·rw[jAo hi]at h; exact .inl h
  ·rw[jBg hi]at h;have h0:i-L.length=0:=by
    rcases Nat.eq_zero_or_pos (i-L.length)with h0 | h0
    ·exact h0
    ·rw[jBj (by simp; omega)]at h; cases h
   rw[h0]at h;simp only[jAx,jA1]at h;exact .inr ⟨by omega,h.symm⟩
 refine⟨⟨fun b o v hv=>?_,by simp[hs.len],fun i l o hL hσ=>?_,fun i j l l' b hi hj hb hb'=>?_,fun i l b hL hb=>?_⟩,⟨rfl,rfl,rfl,by simp,fun k hk _=>heap_alloc_old w _ (h:=hk),HLe.refl _,fun b o v hv=>.inl hv,jA _,zEg (heap_alloc_old w _)⟩,hll,fun b ⟨i,l,hL,hb⟩=>?_⟩
 ·rw[World.cell?_alloc_lt _ _ _ (hs.h_lt hv)];exact hs.pers b o v hv
 ·rcases hget hL with hL' | ⟨rfl,rfl⟩
  ·have hi:i<L.length:=(jA4.1 hL').1;rw[jAo (by rw[←hs.len]; exact hi)]at hσ;exact(hs.obj i l o hL' hσ).carry (fun b hb=>heap_alloc_old w _ (h:=hs.lt i l b hL' hb)) (HLe.refl _) hll (fun _ _ _=>rfl)
  ·rw[jBg (by rw[hs.len]; exact jA _)]at hσ;simp only[hs.len,jBx,jAx,jA1]at hσ;subst hσ;simp only[zW];refine⟨trivial,w.heap.size,us,e,rfl,heap_alloc_new w _,zY.mono (HLe.refl _) hll _ hr,h1,fun o=>?_⟩;cases hH:H w.heap.size o with
   | none=>rfl
   | some v=>have:=hs.h_lt hH; omega
 ·rcases hget hi with hi' | ⟨rfl,rfl⟩
  ·rcases hget hj with hj' | ⟨rfl,rfl⟩
   ·exact hs.inj i j l l' b hi' hj' hb hb'
   ·have:=hs.lt i l b hi' hb;simp only[jA1]at hb';omega
  ·rcases hget hj with hj' | ⟨rfl,rfl⟩
   ·have:=hs.lt j l' b hj' hb';simp only[jA1]at hb;omega
   ·rfl
 ·rcases hget hL with hL' | ⟨rfl,rfl⟩
  ·have:=hs.lt i l b hL' hb;simp;omega
  ·simp only[jA1]at hb;simp;omega
 ·rcases hget hL with hL' | ⟨rfl,rfl⟩
  ·exact .inl ⟨i,l,hL',hb⟩
  ·simp only[jA1]at hb;exact .inr (by omega)
end
end Go.Abs
namespace Go.Abs
section
variable {P:Program}{H:Mem}{L:List LI} {σ : St}{w:World}{N:Nat}{env:Env}{a:Act}
theorem zGJ (hs:RelSt H L σ w){l:Nat}{li:LI}{b:Nat}{o:AObj}{H':Mem}{w':World}(hl:L[l]?=some li)(hb:li.block=some b)
 (hos:w'.os=w.os)(htape:w'.tape=w.tape)(hout:w'.output=w.output)(hdr:w'.drawn=w.drawn)(hnd:∀d,w.heap[b]?≠some (.deferred d))(hsz:w'.heap.size=w.heap.size)(hkeep:∀k,k≠b→w'.heap[k]?=w.heap[k]?)
 (hle:HLe H H')(hnew:∀b' o' v,H' b' o'=some v→H b' o'=some v∨b'=b)(hpers:∀o' v,H' b o'=some v→w'.cell? ⟨b,o',none⟩=some v)
 (ho:zW H' L w' li o):Nxt H L w H' L (σ.set l o) w':=by
 have hne:∀(i:Nat) l' b',L[i]?=some l'→l'.block=some b'→i≠l→b'≠b:=fun i l' b' h1 h2 hi e=>hi (hs.inj i l l' li b' h1 hl h2 (by rw[hb,e]))
 refine⟨⟨fun b' o' v hv=>?_,by simp[hs.len],fun i l' o' hL hσ=>?_,hs.inj,fun i l' b' h1 h2=>by rw[hsz]; exact hs.lt i l' b' h1 h2⟩,
  ⟨hos,htape,hout,by rw[hsz]; exact jA _,fun k _ hk=>hkeep k (fun e=>hk ⟨l,li,hl,by rw[hb,e]⟩),hle,fun b' o' v hv=>?_,by rw[hdr]; exact jA _,zWd hkeep hnd⟩,LLe.refl _,fun _ h=>.inl h⟩
 ·by_cases hbb:b'=b
  ·subst hbb; exact hpers o' v hv
  ·rcases hnew b' o' v hv with h1 | h1
   ·have:=hs.pers b' o' v h1;simp only[World.cell?]at this ⊢;rw[hkeep b' hbb];exact this
   ·exact(hbb h1).elim
 ·by_cases hi:i=l
  ·subst hi;rw[hl]at hL;cases hL;rw[jAq (by rw[←hs.len]; exact(jA4.1 hl).1)]at hσ;cases hσ;exact ho
  ·rw[jAf (Ne.symm hi)]at hσ;refine(hs.obj i l' o' hL hσ).carry (fun b' hb'=>hkeep b' (hne i l' b' hL hb' hi)) hle (LLe.refl _) (fun b' hb' o''=>?_);have hbne:=hne i l' b' hL hb' hi;cases h1:H b' o'' with
   | some v=>exact hle _ _ _ h1
   | none =>
    cases h2:H' b' o'' with
    | none=>rfl
    | some v =>
     rcases hnew b' o'' v h2 with h3 | h3
     ·rw[h1]at h3; cases h3
     ·exact(hbne h3).elim
 ·rcases hnew b' o' v hv with h1 | h1
  ·exact .inl h1
  ·exact .inr (.inl ⟨l,li,hl,by rw[hb,h1]⟩)
def stA (σ : St)(cs:List A):A→Option St
 | .ptr l off=>match σ[l]? with
  | some (.box ds)=>if off+cs.length≤ds.length then some (σ.set l (.box (ds.take off++cs++ds.drop (off+cs.length)))) else none
  | _=>none
 | .rwp l m off=>match σ[l]? with
  | some (.row false e sz k ds)=>if m=k∧off+cs.length≤ds.length then some (σ.set l (.row false e sz k (ds.take off++cs++ds.drop (off+cs.length)))) else none
  | _=>none
 | _=>none
theorem zQh {t:TypeId}{i:TypeInfo}{x:Value}{b off:Nat}{e:TypeId}{cur:Array Value}(hi:P.info? t=some i)(hsz:x.cells.size=i.size)(h1:∀u∈x.cells.toList,one u)
 (hh:w.heap[b]?=some (.cells cur e (0,0)))(hfit:off+x.cells.size≤cur.size) :
 (Instr.storeAt t (.pointer (some ⟨b,off,none⟩)) x).run P w=.ok () (w.setRow b (cur.toList.take off++x.cells.toList++cur.toList.drop (off+x.cells.size)).toArray):=by
 have hst:=run_storeCells_at P b off e x.cells.toList 0 cur w hh (by simpa using hfit) h1;simp only[jD5,jAy]at hst;simp[Instr.storeAt,Instr.sureAddr,storeVar,yO hi,hsz,hst]
theorem zXI {o:Oper}{t:TypeId}{x v:Operand}{i:TypeInfo}{cs:List A} {σ':St}(ho:o.op=.store t x v)(hi:P.info? t=some i)(he:qJ H L N env a.tmps)(hs:RelSt H L σ w)
 (hc:cellsOf (ev env v)=some cs)(hn:cs.length=i.size)(hst:stA σ cs (ev env x)=some σ') :
 ∃w',(execOp a.eval o).run P w=.ok .skip w'∧Nxt H L w H L σ' w':=by
 obtain⟨g1,g2⟩:=zGk (qU he v) hc;have hlen:=g1.length;have hx:=qU he x;have hsz:(a.eval v).cells.size=i.size:=by rw[←jAy,hlen,hn]
 have fin:∀b off e cur,a.eval x=.pointer (some ⟨b,off,none⟩)→w.heap[b]?=some (.cells cur e (0,0))→off+(a.eval v).cells.size≤cur.size →
  (execOp a.eval o).run P w=.ok .skip (w.setRow b (cur.toList.take off++(a.eval v).cells.toList++cur.toList.drop (off+(a.eval v).cells.size)).toArray):=by
  intro b off e cur hv hh hfit;unfold execOp;simp only[ho,hv,Sem.run_bind,zQh hi hsz g2 hh hfit,Result.andThen_ok,Sem.run_pure]
 unfold stA at hst;split at hst<;>try (cases hst; done)
 ·rename_i l off hxe;split at hst<;>try (cases hst; done)
  rename_i ds hds;split at hst<;>try (cases hst; done)
  rename_i hfit;cases hst;rw[hxe]at hx;simp only[Rel]at hx;obtain⟨li,b,e1,e2,e3,hv⟩:=hx;have hob:=hs.obj l li _ e1 hds;simp only[zW]at hob;obtain⟨_,b',vs,e,hb',hh,hr,h1,hH⟩:=hob;rw[e2]at hb';cases hb';have hvl:=hr.length;refine⟨_,fin b off e _ hv hh (by simp only[jCa]; omega),?_⟩;refine zGJ hs e1 e2 rfl rfl rfl rfl (fun d=>by rw[hh]; simp) (by simp) (fun k hk=>setRow_other w b k _ hk) (HLe.refl _) (fun _ _ _ h=>.inl h) (fun o' v hv=>by rw[hH]at hv; cases hv) ?_;simp only[zW];refine⟨e3,b,_,e,e2,setRow_heap w b _ _ e _ hh,?_,?_,hH⟩
  ·rw[hsz,←hn];exact((hr.take off).append g1).append (hr.drop _)
  ·intro u hu;simp only[jA8]at hu;rcases hu with (hu | hu) | hu
   ·exact h1 u (jBa hu)
   ·exact g2 u hu
   ·exact h1 u (jBq hu)
 ·rename_i l m off hxe;split at hst<;>try (cases hst; done)
  rename_i e sz k ds hds;split at hst<;>try (cases hst; done)
  rename_i hfit;obtain⟨rfl,hfit⟩:=hfit;cases hst;rw[hxe]at hx;simp only[Rel]at hx;obtain⟨_,li,e1,e2,e3,hv⟩:=hx;have hob:=hs.obj l li _ e1 hds;simp only[zW]at hob;obtain⟨_,hln,hcl,hob⟩:=hob;obtain⟨b,hb,hv⟩:=hv hln.symm;rcases hob with ⟨h0,_⟩ | ⟨b',cur,hb',hh,k1,k2,k3,k4,k5,k6⟩
  ·rw[hb]at h0; cases h0
  ·rw[hb]at hb';cases hb';have hmc:m*sz≤cur.size:=by rw[k3]; exact jBl _ k1
   have hcs:off+(a.eval v).cells.size≤cur.size:=by rw[hsz,←hn]; omega
   refine⟨_,fin b off e _ hv hh hcs,?_⟩;refine zGJ hs e1 hb rfl rfl rfl rfl (fun d=>by rw[hh]; simp) (by simp) (fun k hk=>setRow_other w b k _ hk) (HLe.refl _) (fun _ _ _ h=>.inl h) (fun o' v hv=>by rw[k6]at hv; cases hv) ?_;have htake:(cur.toList.take off++(a.eval v).cells.toList++cur.toList.drop (off+(a.eval v).cells.size)).take (m*sz) =
    (cur.toList.take (m*sz)).take off++(a.eval v).cells.toList++(cur.toList.take (m*sz)).drop (off+(a.eval v).cells.size):=by
    have hl1:(cur.toList.take off++(a.eval v).cells.toList).length=off+(a.eval v).cells.size:=by simp; omega
    have hle2:off+(a.eval v).cells.size≤m*sz:=by rw[hsz,←hn,←hcl]; exact hfit
    rw[List.take_append,hl1,jAk (by rw[hl1]; exact hle2),List.take_take,jB9 (by omega),List.drop_take]
   simp only[zW];refine⟨e2,hln,by simp; omega,.inr ⟨b,_,hb,setRow_heap w b _ _ e _ hh,k1,k2,by simp; omega,?_,?_,k6⟩⟩
   ·rw[htake,hsz,←hn];exact((k4.take off).append g1).append (k4.drop _)
   ·rw[htake];intro u hu;simp only[jA8]at hu;rcases hu with (hu | hu) | hu
    ·exact k5 u (jBa hu)
    ·exact g2 u hu
    ·exact k5 u (jBq hu)
end
end Go.Abs
namespace Go.Abs
section
variable {P:Program}{H:Mem}{L:List LI} {σ : St}{w:World}{N:Nat}{env:Env}{a:Act}
theorem zKs {l:Nat}{li li':LI}(hl:L[l]?=some li)(h1:li.isRow=true)(h2:li'.isRow=true)(h3:li.len<li'.len):LLe L (L.set l li'):=by
 intro i x hx;by_cases hi:i=l
 ·subst hi;rw[hl]at hx;cases hx;exact⟨li',by rw[jAq (jA4.1 hl).1],.inr (.inl ⟨h1,h2,h3⟩)⟩
 ·exact⟨x,by rw[jAf (Ne.symm hi)]; exact hx,.inl rfl⟩
theorem zOp (hs:RelSt H L σ w){l:Nat}{li li':LI}{b:Nat}{o:AObj}{H':Mem}{w':World}(hl:L[l]?=some li)(h1:li.isRow=true)(h2:li'.isRow=true)(h3:li.len<li'.len)
 (hb:li'.block=some b)(hold:li.block=some b∨w.heap.size≤b)(hlt:b<w'.heap.size)
 (hos:w'.os=w.os)(htape:w'.tape=w.tape)(hout:w'.output=w.output)(hdr:w.drawn≤w'.drawn)(hnd:∀d,w.heap[b]?≠some (.deferred d))(hsz:w.heap.size≤w'.heap.size)(hkeep:∀k,k<w.heap.size→k≠b→w'.heap[k]?=w.heap[k]?)
 (hle:HLe H H')(hnew:∀b' o' v,H' b' o'=some v→H b' o'=some v∨b'=b)(hpers:∀o' v,H' b o'=some v→w'.cell? ⟨b,o',none⟩=some v)
 (ho:zW H' (L.set l li') w' li' o):Nxt H L w H' (L.set l li') (σ.set l o) w':=by
 have hll:=zKs (li':=li') hl h1 h2 h3;have hll1:l<L.length:=(jA4.1 hl).1;have hget:∀{i:Nat} {x:LI},(L.set l li')[i]?=some x→(i=l∧x=li')∨(i≠l∧L[i]?=some x):=by
  intro i x hx;by_cases hi:i=l
  ·subst hi;rw[jAq hll1]at hx;cases hx;exact .inl ⟨rfl,rfl⟩
  ·rw[jAf (Ne.symm hi)]at hx;exact .inr ⟨hi,hx⟩
 have hne:∀(i:Nat) l' b',L[i]?=some l'→l'.block=some b'→i≠l→b'≠b:=fun i l' b' g1 g2 hi e=>by
  rcases hold with h | h
  ·exact hi (hs.inj i l l' li b' g1 hl g2 (by rw[h,e]))
  ·have:=hs.lt i l' b' g1 g2; omega
 refine⟨⟨fun b' o' v hv=>?_,by simp[hs.len],fun i l' o' hL hσ=>?_,fun i j x y b' hi hj hx hy=>?_,fun i x b' hi hx=>?_⟩,
  ⟨hos,htape,hout,hsz,fun k hk hn=>hkeep k hk (fun e=>?_),hle,fun b' o' v hv=>?_,hdr,fun k d hk=>by
   have hks:=(jD2.1 hk).1;by_cases hkb:k=b
   ·subst hkb; exact(hnd d hk).elim
   ·rw[hkeep k hks hkb]; exact hk⟩,hll,fun b' ⟨i,x,hi,hx⟩=>?_⟩
 ·by_cases hbb:b'=b
  ·subst hbb; exact hpers o' v hv
  ·rcases hnew b' o' v hv with g | g
   ·have hc:=hs.pers b' o' v g;have hlt':=hs.h_lt g;simp only[World.cell?]at hc ⊢;rw[hkeep b' hlt' hbb];exact hc
   ·exact(hbb g).elim
 ·rcases hget hL with ⟨rfl,rfl⟩ | ⟨hi,hL'⟩
  ·rw[jAq (by rw[←hs.len]; exact hll1)]at hσ;cases hσ;exact ho
  ·rw[jAf (Ne.symm hi)]at hσ;refine(hs.obj i l' o' hL' hσ).carry (fun b' hb'=>hkeep b' (hs.lt i l' b' hL' hb') (hne i l' b' hL' hb' hi)) hle hll (fun b' hb' o''=>?_);have hbne:=hne i l' b' hL' hb' hi;cases g1:H b' o'' with
   | some v=>exact hle _ _ _ g1
   | none =>
    cases g2:H' b' o'' with
    | none=>rfl
    | some v =>
     rcases hnew b' o'' v g2 with g3 | g3
     ·rw[g1]at g3; cases g3
     ·exact(hbne g3).elim
 ·rcases hget hi with ⟨rfl,rfl⟩ | ⟨hi',hi''⟩
  ·rcases hget hj with ⟨rfl,rfl⟩ | ⟨hj',hj''⟩
   ·rfl
   ·rw[hb]at hx; cases hx; exact(hne j y b hj'' hy hj' rfl).elim
  ·rcases hget hj with ⟨rfl,rfl⟩ | ⟨hj',hj''⟩
   ·rw[hb]at hy; cases hy; exact(hne i x b hi'' hx hi' rfl).elim
   ·exact hs.inj i j x y b' hi'' hj'' hx hy
 ·rcases hget hi with ⟨rfl,rfl⟩ | ⟨hi',hi''⟩
  ·rw[hb]at hx; cases hx; exact hlt
  ·exact jBv (hs.lt i x b' hi'' hx) hsz
 ·subst e;rcases hold with h | h
  ·exact hn ⟨l,li,hl,h⟩
  ·omega
 ·rcases hnew b' o' v hv with g | g
  ·exact .inl g
  ·subst g;rcases hold with h | h
   ·exact .inr (.inl ⟨l,li,hl,h⟩)
   ·exact .inr (.inr h)
 ·rcases hget hi with ⟨rfl,rfl⟩ | ⟨hi',hi''⟩
  ·rw[hb]at hx;cases hx;rcases hold with h | h
   ·exact .inl ⟨_,li,hl,h⟩
   ·exact .inr h
  ·exact .inl ⟨i,x,hi'',hx⟩
def zCn (σ : St)(sz:Nat):A→Option (Nat×List A)
 | .nil=>some (0,[])
 | .sl m cs=>some (m,cs)
 | .fsl m cs=>some (m,cs)
 | .row l n=>match σ[l]? with
  | some (.row _ _ s m cs)=>if n=m∧s=sz then some (m,cs) else none
  | _=>none
 | _=>none
theorem zIN (hs:RelSt H L σ w){x:A}{v:Value}{sz m:Nat}{cs:List A}(hx:Rel H L x v)(h:zCn σ sz x=some (m,cs))(hlen:cs.length=m*sz)(hsz:0<sz) :
 ∃ad cap,v=.slice ad m cap∧(m=0∨∃b o,∃us:List Value,ad=some ⟨b,o,none⟩∧zY H L cs us∧us.length=m*sz∧(∀u∈us,one u)∧∀j u,us[j]?=some u→w.cell? ((⟨b,o,none⟩:Addr).add j)=some u):=by
 cases x<;>simp only[zCn]at h<;>try (cases h; done)
 case nil =>
  cases h;simp only[Rel]at hx;exact⟨_,_,hx,.inl rfl⟩
 case sl n ds =>
  cases h;simp only[Rel]at hx;obtain⟨ad,cap,hv,_,_,h3⟩:=hx;refine⟨ad,cap,hv,?_⟩;rcases h3 with ⟨h3,_⟩ | ⟨b,o,us,rfl,g1,g2,g3⟩
  ·exact .inl h3
  ·exact .inr ⟨b,o,us,rfl,g1,by rw[g1.length,hlen],g2,fun j u hu=>by rw[Addr.add_lit]; exact hs.pers _ _ _ (g3 j u hu)⟩
 case fsl n ds =>
  cases h;simp only[Rel]at hx;obtain⟨ad,hv,_,h3⟩:=hx;refine⟨ad,_,hv,?_⟩;rcases h3 with ⟨h3,_⟩ | ⟨b,o,us,rfl,g1,g2,g3⟩
  ·exact .inl h3
  ·exact .inr ⟨b,o,us,rfl,g1,by rw[g1.length,hlen],g2,fun j u hu=>by rw[Addr.add_lit]; exact hs.pers _ _ _ (g3 j u hu)⟩
 case row l n =>
  split at h<;>try (cases h; done)
  rename_i fz e s k ds hds;split at h<;>try (cases h; done)
  rename_i hn;obtain⟨rfl,rfl⟩:=hn;cases h;simp only[Rel]at hx;obtain⟨_,li,e1,e2,e3,hv⟩:=hx;have hob:=hs.obj l li _ e1 hds;simp only[zW]at hob;obtain⟨_,hln,hcl,hob⟩:=hob;have hv:=hv hln.symm;rcases hob with ⟨h0,h00⟩ | ⟨b,cur,hb,hh,k1,k2,k3,k4,k5,_⟩
  ·rw[h0]at hv;exact⟨none,0,by rw[hv,h00],.inl h00⟩
  ·rw[hb]at hv;refine⟨_,_,hv,.inr ⟨b,0,_,rfl,k4,?_,k5,fun j u hu=>?_⟩⟩
   ·simp only[jAt,jAy];rw[k3];exact jB9 (jBl _ k1)
   ·rw[Addr.add_lit,cell_of_row w b _ cur e (0,0) hh];rw[jB3]at hu;split at hu
    ·simpa using hu
    ·cases hu
theorem zDm {t ty e:TypeId}{i:TypeInfo}(ht:P.underlying t=some (.slice e))(hi:P.info? e=some i)(base:Option Addr)(n cap:Nat)(hc:n≤cap)(ad:Option Addr)(c:Nat) :
 (Builtin.append_ #[t,t] ty #[.slice base n cap,.slice ad 0 c]).run P w=.ok (.slice base n cap) w:=by
 have hf:(Builtin.firstCells i.size 0 (.slice ad 0 c)).run P w=.ok #[] w:=by
  cases ad with
  | none=>simp[Builtin.firstCells]
  | some a=>exact run_firstCells_some (P:=P) w i.size 0 a 0 c [] (by simp) (by simp)
 cases base<;>simp[Builtin.append_,run_underlying ht,sizeOf,typeInfo,hi,Builtin.lenOf,hc,hf,storeCells]
def zGU (H:Mem)(fz:Bool)(b:Nat)(us:List Value):Mem:=if fz then zOb H b us else H
theorem zSl {t ty e:TypeId}{i:TypeInfo}{z:Value}(ht:P.underlying t=some (.slice e))(hi:P.info? e=some i)(hz:i.zero=some z)(hzc:zAo z.cells.toList=true)(hzs:z.cells.size=i.size)(hsz:0<i.size)
 (hs:RelSt H L σ w){l n:Nat}{fz:Bool}{cs:List A}{s y:Value}(hσ : σ[l]?=some (.row fz e i.size n cs))(hx:Rel H L (.row l n) s)
 {ya:A}{m:Nat}{ys:List A}(hy:Rel H L ya y)(hye:zCn σ i.size ya=some (m,ys))(hyl:ys.length=m*i.size)
 (hm:n+m≤maxLen)(hby:(n+m)*i.bytes≤140737488355328) :
 ∃v' w' H' L',(Builtin.append_ #[t,t] ty #[s,y]).run P w=.ok v' w'∧Nxt H L w H' L' (σ.set l (.row fz e i.size (n+m) (cs++ys))) w'∧HLe H H'∧Rel H' L' (.row l (n+m)) v':=by
 obtain⟨ad,c,rfl,hels⟩:=zIN hs hy hye hyl hsz;have hx0:=hx;simp only[Rel]at hx;obtain⟨hs1,li,e1,e2,e3,hv⟩:=hx;have hob:=hs.obj l li _ e1 hσ;have hob0:=hob;simp only[zW]at hob;obtain⟨_,hln,hcl,hob⟩:=hob;have hv:=hv hln.symm;have hlσ : l < σ.length:=(jA4.1 hσ).1;have hlL:l<L.length:=(jA4.1 e1).1;by_cases hm0:m=0
 ·subst hm0;have hys:ys=[]:=jC (by simpa using hyl);subst hys;have hset : σ.set l (.row fz e i.size (n+0) (cs++[])) = σ:=by
   simp only[jD5,jAz];apply jC9;intro j;by_cases hj:j=l
   ·subst hj; rw[jAq hlσ,hσ]
   ·rw[jAf (Ne.symm hj)]
  refine⟨s,w,H,L,?_,by rw[hset]; exact Nxt.refl hs,HLe.refl _,hx0⟩;rw[hv];cases hb:li.block with
  | none=>exact zDm ht hi none 0 0 (jA _) ad c
  | some b =>
   rcases hob with ⟨h0,_⟩ | ⟨b',cur,hb',hh,k1,_⟩
   ·rw[hb]at h0; cases h0
   ·exact zDm ht hi _ n _ k1 ad c
 ·rcases hels with h0 | ⟨yb,yo,us,rfl,g1,g2,g3,g4⟩
  ·exact(hm0 h0).elim
  ·have hone:∀u∈us,u.oneCell'=true:=g3;have hsm:n+m≤9223372036854775807:=by simp only[maxLen]at hm; omega
   have fresh:∀(olds:List Value) (old:Nat),zY H L cs olds→(∀u∈olds,one u)→olds.length=n*i.size→old<n+m →
    (Builtin.append_ #[t,t] ty #[s,.slice (some ⟨yb,yo,none⟩) m c]).run P w=.ok (.slice (some ⟨w.heap.size,0,none⟩) (n+m) (grownCap w (n+m) old e))
     (w.drew.alloc (.cells (olds.toArray++us.toArray++Builtin.zeroCells z.cells (grownCap w (n+m) old e-(n+m))) e)) →
    ∃v' w' H' L',(Builtin.append_ #[t,t] ty #[s,.slice (some ⟨yb,yo,none⟩) m c]).run P w=.ok v' w'∧Nxt H L w H' L' (σ.set l (.row fz e i.size (n+m) (cs++ys))) w'∧HLe H H'∧Rel H' L' (.row l (n+m)) v':=by
    intro olds old ho1 ho2 ho3 ho4 hrun;have hge:=grownCap_ge w (n+m) old e;have hcm:grownCap w (n+m) old e≤maxLen:=grownCap_le_maxLen w (n+m) old e hm;have hpl:(olds++us).length=(n+m)*i.size:=by rw[jA5,ho3,g2,jBk]
    have hcur:(olds.toArray++us.toArray++Builtin.zeroCells z.cells (grownCap w (n+m) old e-(n+m))).toList.take ((n+m)*i.size)=olds++us:=by simp only[Array.toList_append,jAv];rw[←jAv,←hpl];exact List.take_left
    have hA:=zFc (hs.fresh (olds++us));have hle:HLe H (zGU H fz w.heap.size (olds++us)):=by
     cases fz
     ·exact HLe.refl _
     ·intro b o v hv';have:=hs.h_lt hv';simp only[zGU,if_true,hA];rw[if_neg (by omega)];exact hv'
    have hnx:Nxt H L w (zGU H fz w.heap.size (olds++us)) (L.set l ⟨some w.heap.size,grownCap w (n+m) old e,n+m,true⟩) (σ.set l (.row fz e i.size (n+m) (cs++ys)))
     (w.drew.alloc (.cells (olds.toArray++us.toArray++Builtin.zeroCells z.cells (grownCap w (n+m) old e-(n+m))) e)):=by
     have hnone:∀o,H w.heap.size o=none:=fun o=>by
      cases hH:H w.heap.size o with
      | none=>rfl
      | some v=>have:=hs.h_lt hH; omega
     have hheap:(w.drew.alloc (.cells (olds.toArray++us.toArray++Builtin.zeroCells z.cells (grownCap w (n+m) old e-(n+m))) e)).heap[w.heap.size]?=some (.cells (olds.toArray++us.toArray++Builtin.zeroCells z.cells (grownCap w (n+m) old e-(n+m))) e (0,0)):=heap_alloc_new w.drew _;refine zOp hs e1 e2 rfl (by simp only; omega) rfl (.inr (jA _)) (by simp) rfl rfl rfl (jCk _) (fun d=>by simp) (by simp) (fun k hk _=>heap_alloc_old w.drew _ (h:=hk)) hle (fun b' o' v hv'=>?_) (fun o' v hv'=>?_) ?_
     ·cases fz
      ·exact .inl hv'
      ·simp only[zGU,if_true,hA]at hv';split at hv'
       ·rename_i hbb; exact .inr hbb
       ·exact .inl hv'
     ·cases fz
      ·simp only[zGU]at hv'; rw[if_neg (by simp),hnone]at hv'; cases hv'
      ·simp only[zGU,if_true,hA]at hv';rw[cell_of_row _ _ _ _ _ _ hheap];rw[←hcur,jB3]at hv';split at hv'
       ·rw[←jCs]; exact hv'
       ·cases hv'
     ·have hll:=zKs (li':=⟨some w.heap.size,grownCap w (n+m) old e,n+m,true⟩) e1 e2 rfl (by simp only; omega);simp only[zW];refine⟨trivial,trivial,by rw[jA5,hcl,hyl,jBk],.inr ⟨w.heap.size,_,rfl,hheap,hge,hcm,?_,?_,?_,?_⟩⟩
      ·simp only[Array.size_append,jCa,size_zeroCells,hzs,ho3,g2,←jBk]
       congr 1
       omega
      ·rw[hcur];exact zY.mono hle hll _ (ho1.append g1)
      ·rw[hcur];intro u hu;rcases jA8.1 hu with hu | hu
       ·exact ho2 u hu
       ·exact g3 u hu
      ·rw[hcur];cases fz
       ·exact hnone
       ·refine⟨fun j u hu=>by simp[zGU,hA,hu],fun o ho=>?_⟩;simp only[zGU,if_true,hA];exact jBj (by rw[hpl]; exact ho)
    refine⟨_,_,_,_,hrun,hnx,hle,?_⟩;simp only[Rel];exact⟨rfl,_,jAq hlL,rfl,jA _,fun _=>rfl⟩
   rcases hob with ⟨h0,rfl⟩ | ⟨b,cur,hb,hh,k1,k2,k3,k4,k5,k6⟩
   ·rw[h0]at hv;have hcs:cs=[]:=jC (by simpa using hcl);subst hcs;subst hv;have hr:=run_append_nil (P:=P) w t ty e i z ht hi hz ⟨yb,yo,none⟩ m c us g2 g4 (by omega) (by omega) (by simp only[jB0]at hby; omega);refine fresh [] 0 jZ (by simp) (by simp) (by omega) ?_
    simpa using hr
   ·rw[hb]at hv;simp only at hv;by_cases hroom:n+m≤li.cap
    ·have hfit:n*i.size+us.length≤cur.size:=by rw[g2,k3,←jBk]; exact jBl _ hroom
     have hr:=run_append_room (P:=P) w t ty e i ht hi b n li.cap cur hh ⟨yb,yo,none⟩ m c us g2 g4 hone hroom hfit;have hpl:(cur.toList.take (n*i.size)++us).length=(n+m)*i.size:=by rw[jA5,g2,jBk,jAt,jAy,jB9 (by omega)]
     have hcur:(cur.toList.take (n*i.size)++us++cur.toList.drop (n*i.size+us.length)).take ((n+m)*i.size)=cur.toList.take (n*i.size)++us:=by rw[←hpl]; exact List.take_left
     have hheap:=setRow_heap w b cur (cur.toList.take (n*i.size)++us++cur.toList.drop (n*i.size+us.length)).toArray e (0,0) hh;have hsame:∀o v,H b o=some v→(cur.toList.take (n*i.size)++us)[o]?=some v:=fun o v hv'=>by
      cases fz
      ·simp only at k6;rw[k6]at hv';cases hv'
      ·simp only at k6;have ho:o<n*i.size:=by
        rcases jB2 o (n*i.size)with h | h
        ·exact h
        ·rw[k6.2 o h]at hv'; cases hv'
       have hlt:o<(cur.toList.take (n*i.size)).length:=by rw[jAt,jAy,jB9 (by omega)]; exact ho
       rw[jAo hlt];have:=k6.1 o _ (jA2 hlt);rw[jB0,hv']at this;rw[jA2 hlt];exact this.symm
     have hA:=zFc hsame;have hle:HLe H (zGU H fz b (cur.toList.take (n*i.size)++us)):=by
      cases fz
      ·exact HLe.refl _
      ·intro b' o v hv';simp only[zGU,if_true,hA];split
       ·rename_i hbb;subst hbb;simp only at k6;have ho:o<n*i.size:=by
         rcases jB2 o (n*i.size)with h | h
         ·exact h
         ·rw[k6.2 o h]at hv'; cases hv'
        have hlt:o<(cur.toList.take (n*i.size)).length:=by rw[jAt,jAy,jB9 (by omega)]; exact ho
        rw[jAo hlt];have:=k6.1 o _ (jA2 hlt);rw[jB0,hv']at this;rw[jA2 hlt];exact this.symm
       ·exact hv'
     have hnx:Nxt H L w (zGU H fz b (cur.toList.take (n*i.size)++us)) (L.set l ⟨some b,li.cap,n+m,true⟩) (σ.set l (.row fz e i.size (n+m) (cs++ys)))
      (w.setRow b (cur.toList.take (n*i.size)++us++cur.toList.drop (n*i.size+us.length)).toArray):=by
      refine zOp hs e1 e2 rfl (by simp only; omega) rfl (.inl hb) (by simp; exact hs.lt l li b e1 hb) rfl rfl rfl (jA _) (fun d=>by rw[hh]; simp) (by simp) (fun k _ hk=>setRow_other w b k _ hk) hle (fun b' o' v hv'=>?_) (fun o' v hv'=>?_) ?_
      ·cases fz
       ·exact .inl hv'
       ·simp only[zGU,if_true,hA]at hv';split at hv'
        ·rename_i hbb; exact .inr hbb
        ·exact .inl hv'
      ·cases fz
       ·simp only[zGU]at hv'; rw[if_neg (by simp)]at hv'; simp only at k6; rw[k6]at hv'; cases hv'
       ·simp only[zGU,if_true,hA]at hv';rw[cell_of_row _ _ _ _ _ _ hheap];rw[←hcur,jB3]at hv';split at hv'
        ·simpa using hv'
        ·cases hv'
      ·have hll:=zKs (li':=⟨some b,li.cap,n+m,true⟩) e1 e2 rfl (by simp only; omega);simp only[zW];refine⟨trivial,trivial,by rw[jA5,hcl,hyl,jBk],.inr ⟨b,_,rfl,hheap,hroom,k2,?_,?_,?_,?_⟩⟩
       ·simp only[jCa,jA5,jAt,jD6,jAy];omega
       ·rw[hcur];exact zY.mono hle hll _ (k4.append g1)
       ·rw[hcur];intro u hu;rcases jA8.1 hu with hu | hu
        ·exact k5 u hu
        ·exact g3 u hu
       ·rw[hcur];cases fz
        ·exact k6
        ·refine⟨fun j u hu=>by simp[zGU,hA,hu],fun o ho=>?_⟩;simp only[zGU,if_true,hA];exact jBj (by rw[hpl]; exact ho)
     refine⟨_,_,_,_,by rw[hv]; exact hr,hnx,hle,?_⟩;simp only[Rel];exact⟨rfl,_,jAq hlL,rfl,jA _,fun _=>rfl⟩
    ·have hr:=run_append_grow (P:=P) w t ty e i z ht hi hz ⟨b,0,none⟩ n li.cap (cur.toList.take (n*i.size)) (by rw[jAt,jAy,k3]; exact jB9 (jBl _ k1))
      (fun j u hu=>by
       rw[Addr.add_lit,cell_of_row w b _ cur e (0,0) hh];rw[jB3]at hu;split at hu
       ·simpa using hu
       ·cases hu) ⟨yb,yo,none⟩ m c us g2 g4 (by omega) (by omega) (growslice_fits (by omega) hby)
     refine fresh (cur.toList.take (n*i.size)) li.cap k4 k5 (by rw[jAt,jAy,k3]; exact jB9 (jBl _ k1)) (by omega) ?_;rw[hv];exact hr
end
end Go.Abs
namespace Go.Abs
section
variable {P:Program}{H:Mem}{L:List LI} {σ : St}{w:World}{N:Nat}{env:Env}{a:Act}
theorem jQ {α : Type}{l:List α}{x y : α}{i:Nat}(h:(l++[x])[i]?=some y):l[i]?=some y∨(i=l.length∧y=x):=by
 rcases jB2 i l.length with hi | hi
 ·rw[jAo hi]at h; exact .inl h
 ·rw[jBg hi]at h;have h0:i-l.length=0:=by
   rcases Nat.eq_zero_or_pos (i-l.length)with h0 | h0
   ·exact h0
   ·rw[jBj (by simp; omega)]at h; cases h
  rw[h0]at h;simp only[jAx,jA1]at h;exact .inr ⟨by omega,h.symm⟩
theorem zCR (hs:RelSt H L σ w)(e:TypeId)(sz:Nat):Nxt H L w H (L++[(⟨none,0,0,true⟩:LI)]) (σ++[AObj.row false e sz 0 []]) w:=by
 have hll:=LLe.append L [⟨none,0,0,true⟩];refine⟨⟨hs.pers,by simp[hs.len],fun i l o hL hσ=>?_,fun i j x y b hi hj hx hy=>?_,fun i x b hi hx=>?_⟩,Step.refl _ _ _,hll,fun b ⟨i,x,hi,hx⟩=>?_⟩
 ·rcases jQ hL with hL' | ⟨rfl,rfl⟩
  ·have hi:i<L.length:=(jA4.1 hL').1;rw[jAo (by rw[←hs.len]; exact hi)]at hσ;exact(hs.obj i l o hL' hσ).carry (fun _ _=>rfl) (HLe.refl _) hll (fun _ _ _=>rfl)
  ·rw[hs.len]at hσ;rw[jBg (jA _)]at hσ;simp only[jBx,jAx,jA1]at hσ;subst hσ;simp[zW]
 ·rcases jQ hi with hi' | ⟨rfl,rfl⟩
  ·rcases jQ hj with hj' | ⟨rfl,rfl⟩
   ·exact hs.inj i j x y b hi' hj' hx hy
   ·cases hy
  ·cases hx
 ·rcases jQ hi with hi' | ⟨rfl,rfl⟩
  ·exact hs.lt i x b hi' hx
  ·cases hx
 ·rcases jQ hi with hi' | ⟨rfl,rfl⟩
  ·exact .inl ⟨i,x,hi',hx⟩
  ·cases hx
theorem zM1 {σ τ : St}{sz:Nat}{x:A}{r:Nat×List A}(h:zCn σ sz x=some r):zCn (σ++τ) sz x=some r:=by
 cases x<;>simp only[zCn]at h⊢<;>try exact h
 rename_i l n;split at h<;>try (cases h; done)
 rename_i hds;rw[jAo (jA4.1 hds).1,hds];exact h
theorem zYj {t ty e:TypeId}{i:TypeInfo}{z:Value}(ht:P.underlying t=some (.slice e))(hi:P.info? e=some i)(hz:i.zero=some z)(hzc:zAo z.cells.toList=true)(hzs:z.cells.size=i.size)(hsz:0<i.size)
 (hs:RelSt H L σ w){y:Value}{ya:A}{m:Nat}{ys:List A}(hy:Rel H L ya y)(hye:zCn σ i.size ya=some (m,ys))(hyl:ys.length=m*i.size)
 (hm:m≤maxLen)(hby:m*i.bytes≤140737488355328) :
 ∃v' w' H' L',(Builtin.append_ #[t,t] ty #[.slice none 0 0,y]).run P w=.ok v' w'∧Nxt H L w H' L' (σ++[AObj.row false e i.size m ys]) w'∧HLe H H'∧Rel H' L' (.row σ.length m) v':=by
 have hn:=zCR hs e i.size;have hσ : (σ++[AObj.row false e i.size 0 []])[σ.length]?=some (.row false e i.size 0 []):=by simp
 have hx:Rel H (L++[(⟨none,0,0,true⟩:LI)]) (.row σ.length 0) (.slice none 0 0):=by simp only[Rel];exact⟨rfl,⟨none,0,0,true⟩,by rw[←hs.len]; simp,rfl,jA _,fun _=>rfl⟩
 obtain⟨v',w',H',L',h1,h2,h3,h4⟩:=zSl (ty:=ty) ht hi hz hzc hzs hsz hn.st hσ hx (Rel.mono (HLe.refl _) (LLe.append _ _) _ hy) (zM1 hye) hyl (by simpa using hm) (by simpa using hby);refine⟨v',w',H',L',h1,?_,h3,by simpa using h4⟩;have:=hn.trans h2;have he:(σ++[AObj.row false e i.size 0 []]).set σ.length (AObj.row false e i.size (0+m) ([]++ys)) = σ++[AObj.row false e i.size m ys]:=by simp
 rw[he]at this;exact this
theorem zV0 {t ty e:TypeId}{i:TypeInfo}{z:Value}(ht:P.underlying t=some (.slice e))(hi:P.info? e=some i)(hz:i.zero=some z)(hzs:z.cells.size=i.size)(hsz:0<i.size)
 (hs:RelSt H L σ w){n:Nat}{cs:List A}{s y:Value}(hx:Rel H L (.fsl n cs) s)(hcl:cs.length=n*i.size){ya:A}{m:Nat}{ys:List A}(hy:Rel H L ya y)(hye:zCn σ i.size ya=some (m,ys))(hyl:ys.length=m*i.size)
 (hm0:m≠0)(hm:n+m≤maxLen)(hby:(n+m)*i.bytes≤140737488355328) :
 ∃v' w' H' L',(Builtin.append_ #[t,t] ty #[s,y]).run P w=.ok v' w'∧Nxt H L w H' L' (σ++[AObj.row false e i.size (n+m) (cs++ys)]) w'∧HLe H H'∧Rel H' L' (.row σ.length (n+m)) v':=by
 obtain⟨ad,c,rfl,hels⟩:=zIN hs hy hye hyl hsz;rcases hels with h0 | ⟨yb,yo,us,rfl,g1,g2,g3,g4⟩
 ·exact(hm0 h0).elim
 have hn:=zCR hs e i.size;have hsm:n+m≤9223372036854775807:=by simp only[maxLen]at hm; omega
 have e1:(L++[(⟨none,0,0,true⟩:LI)])[σ.length]?=some (⟨none,0,0,true⟩:LI):=by rw[←hs.len]; simp
 have fresh:∀(olds:List Value) (old:Nat),zY H L cs olds→(∀u∈olds,one u)→old<n+m →
  (Builtin.append_ #[t,t] ty #[s,.slice (some ⟨yb,yo,none⟩) m c]).run P w=.ok (.slice (some ⟨w.heap.size,0,none⟩) (n+m) (grownCap w (n+m) old e))
   (w.drew.alloc (.cells (olds.toArray++us.toArray++Builtin.zeroCells z.cells (grownCap w (n+m) old e-(n+m))) e)) →
  ∃v' w' H' L',(Builtin.append_ #[t,t] ty #[s,.slice (some ⟨yb,yo,none⟩) m c]).run P w=.ok v' w'∧Nxt H L w H' L' (σ++[AObj.row false e i.size (n+m) (cs++ys)]) w'∧HLe H H'∧Rel H' L' (.row σ.length (n+m)) v':=by
  intro olds old ho1 ho2 ho4 hrun;have ho3:olds.length=n*i.size:=by rw[ho1.length,hcl]
  have hge:=grownCap_ge w (n+m) old e;have hcm:grownCap w (n+m) old e≤maxLen:=grownCap_le_maxLen w (n+m) old e hm;have hpl:(olds++us).length=(n+m)*i.size:=by rw[jA5,ho3,g2,jBk]
  have hcur:(olds.toArray++us.toArray++Builtin.zeroCells z.cells (grownCap w (n+m) old e-(n+m))).toList.take ((n+m)*i.size)=olds++us:=by simp only[Array.toList_append,jAv];rw[←jAv,←hpl];exact List.take_left
  have hheap:(w.drew.alloc (.cells (olds.toArray++us.toArray++Builtin.zeroCells z.cells (grownCap w (n+m) old e-(n+m))) e)).heap[w.heap.size]?=some (.cells (olds.toArray++us.toArray++Builtin.zeroCells z.cells (grownCap w (n+m) old e-(n+m))) e (0,0)):=heap_alloc_new w.drew _;have hnone:∀o,H w.heap.size o=none:=fun o=>by
   cases hH:H w.heap.size o with
   | none=>rfl
   | some v=>have:=hs.h_lt hH; omega
  have hll:=zKs (li':=(⟨some w.heap.size,grownCap w (n+m) old e,n+m,true⟩:LI)) e1 rfl rfl (by simp only; omega);have hnx:Nxt H (L++[(⟨none,0,0,true⟩:LI)]) w H ((L++[(⟨none,0,0,true⟩:LI)]).set σ.length (⟨some w.heap.size,grownCap w (n+m) old e,n+m,true⟩:LI))
   ((σ++[AObj.row false e i.size 0 []]).set σ.length (AObj.row false e i.size (n+m) (cs++ys)))
   (w.drew.alloc (.cells (olds.toArray++us.toArray++Builtin.zeroCells z.cells (grownCap w (n+m) old e-(n+m))) e)):=by
   refine zOp hn.st e1 rfl rfl (by simp only; omega) rfl (.inr (jA _)) (by simp) rfl rfl rfl (jCk _) (fun d=>by simp) (by simp) (fun k hk _=>heap_alloc_old w.drew _ (h:=hk)) (HLe.refl _) (fun b' o' v hv'=>.inl hv')
    (fun o' v hv'=>by rw[hnone]at hv'; cases hv') ?_
   simp only[zW];refine⟨trivial,trivial,by rw[jA5,hcl,hyl,jBk],.inr ⟨w.heap.size,_,rfl,hheap,hge,hcm,?_,?_,?_,hnone⟩⟩
   ·simp only[Array.size_append,jCa,size_zeroCells,hzs,ho3,g2,←jBk]
    congr 1
    omega
   ·rw[hcur];exact zY.mono (HLe.refl _) ((LLe.append _ _).trans hll) _ (ho1.append g1)
   ·rw[hcur];intro u hu;rcases jA8.1 hu with hu | hu
    ·exact ho2 u hu
    ·exact g3 u hu
  have he:(σ++[AObj.row false e i.size 0 []]).set σ.length (AObj.row false e i.size (n+m) (cs++ys)) = σ++[AObj.row false e i.size (n+m) (cs++ys)]:=by simp
  rw[he]at hnx;refine⟨_,_,_,_,hrun,hn.trans hnx,HLe.refl _,?_⟩;simp only[Rel];exact⟨rfl,_,jAq (jA4.1 e1).1,rfl,jA _,fun _=>rfl⟩
 simp only[Rel]at hx;obtain⟨sa,rfl,hnm,hcs⟩:=hx;rcases hcs with ⟨rfl,rfl⟩ | ⟨b,o,vs,rfl,k1,k2,k3⟩
 ·cases sa with
  | none =>
   have hr:=run_append_nil (P:=P) w t ty e i z ht hi hz ⟨yb,yo,none⟩ m c us g2 g4 (by omega) (by omega) (by simp only[jB0]at hby; omega);refine fresh [] 0 jZ (by simp) (by omega) ?_
   simpa using hr
  | some ba =>
   have hr:=run_append_grow (P:=P) w t ty e i z ht hi hz ba 0 0 [] (by simp) (by simp) ⟨yb,yo,none⟩ m c us g2 g4 (by omega) (by omega) (growslice_fits (by omega) hby);exact fresh [] 0 jZ (by simp) (by omega) hr
 ·have hr:=run_append_grow (P:=P) w t ty e i z ht hi hz ⟨b,o,none⟩ n n vs (by rw[k1.length,hcl]) (fun j u hu=>by rw[Addr.add_lit]; exact hs.pers _ _ _ (k3 j u hu)) ⟨yb,yo,none⟩ m c us g2 g4 (by omega) (by omega) (growslice_fits (by omega) hby);exact fresh vs n k1 k2 (by omega) hr
inductive Out where
 | ret (r:A)
 | pan (v:Value)
def zHi (H:Mem)(L:List LI):Out→Ending→Prop
 | .ret r,e=>∃v,e=.returned v∧Rel H L r v
 | .pan v,e=>e=.panicked [{v,recovered:=false}]
def yX (P:Program)(f:FuncId)(args:List A) (σ : St)(Q:Out→St→Prop):Prop :=
 ∀(H:Mem) (L:List LI) (w:World) (vs:List Value),RelSt H L σ w→zY H L args vs →
  Calls P f vs.toArray w fun e w'=>∃o σ' H' L',zHi H' L' o e∧Nxt H L w H' L' σ' w'∧Q o σ'
def zJ0 (P:Program)(b:Nat)(args:List A) (σ : St)(Q:Out→St→Prop):Prop :=
 ∀(H:Mem) (L:List LI) (w:World) (vs:List Value),RelSt H L σ w→zY H L args vs →
  ∃f tmps x y,(Instr.yield b vs.toArray).run P w=.ok (.round b f tmps x y) w∧RoundIn Fence.wide 0 P b f tmps x y w fun e w'=>∃o σ' H' L',zHi H' L' o e∧Nxt H L w H' L' σ' w'∧Q o σ'
def Wr (r:Option Nat):Fence:={Fence.wide with round:=r}
def jG (o:Option (Prop×A))(J:A→Prop):Prop:=match o with
 | some (p,r)=>p∧J r
 | none=>False
def zIp (d:Option Nat)(env:Env)(K:Env→St→Prop)(Qp:Value→Env→St→Prop):Out→St→Prop
 | .ret r,σ'=>K (env.put d r) σ'
 | .pan v,σ'=>Qp v env σ'
def zF5 (t:Bool)(A B:Env→St→Prop)(env:Env) (σ : St):Prop:=(t=true→A env σ)∧(t=false→B env σ)
def zGq (d:Option Nat)(K:Env→St→Prop)(env:Env) (σ : St):Prop:=K (env.put d (.lit undef)) σ
noncomputable def wpO (P:Program) (Qp:Value→Env→St→Prop) (K:Env→St→Prop):KOp→Env→St→Prop
 | .alloc d zs,env,σ=>K (env.put d (.ptr σ.length 0)) (σ++[.box (zs.map jJ)])
 | .box d x,env,σ=>match cellsOf (ev env x)with
  | some cs=>K (env.put d (.ptr σ.length 0)) (σ++[.box cs])
  | none=>False
 | .bslice d _ _ n zero parts,env,σ=>match zBp (zero.map jJ) (parts.map fun(o,s,x)=>(o,s,ev env x))with
  | some cs=>K (env.put d (.fsl n cs)) σ
  | none=>False
 | .isz d ng x,env,σ=>match ev env x with
  | .nil=>K (env.put d (.lit (.bool !ng))) σ
  | .sl n _=>K (env.put d (.lit (.bool ng))) σ∧(n=0→K (env.put d (.lit (.bool !ng))) σ)
  | .row l n=>(match σ[l]? with
   | some (.row _ _ _ m _)=>n=m∧K (env.put d (.lit (.bool ng))) σ∧(n=0→K (env.put d (.lit (.bool !ng))) σ)
   | _=>False)
  | _=>False
 | .brow d e sz n zero parts,env,σ=>match zBp (zero.map jJ) (parts.map fun(o,s,x)=>(o,s,ev env x))with
  | some cs=>K (env.put d (.row σ.length n)) (σ++[.row false e sz n cs])
  | none=>False
 | .st d x v n,env,σ=>match cellsOf (ev env v)with
  | some cs=>if cs.length=n then (match stA σ cs (ev env x)with
   | some σ'=>K (env.put d (.lit undef)) σ'
   | none=>False) else False
  | none=>False
 | .app d e sz bytes x y,env,σ=>match zCn σ sz (ev env y)with
  | some (m,ys)=>ys.length=m*sz∧(match ev env x with
   | .nil=>(m≤maxLen∧m*bytes≤140737488355328)∧K (env.put d (.row σ.length m)) (σ++[.row false e sz m ys])
   | .row l n=>(match σ[l]? with
    | some (.row fz e' s n' cs)=>if n=n'∧e'=e∧s=sz then (n+m≤maxLen∧(n+m)*bytes≤140737488355328)∧K (env.put d (.row l (n+m))) (σ.set l (.row fz e sz (n+m) (cs++ys))) else False
    | _=>False)
   | .fsl n cs=>cs.length=n*sz∧(m=0→K (env.put d (.fsl n cs)) σ)∧(m≠0→(n+m≤maxLen∧(n+m)*bytes≤140737488355328)∧K (env.put d (.row σ.length (n+m))) (σ++[.row false e sz (n+m) (cs++ys)]))
   | _=>False)
  | none=>False
 | .len d false x,env,σ=>match ev env x with
  | .sl n _=>n≤maxLen→K (env.put d (.lit (.int .i64 n))) σ
  | .fsl n _=>n≤maxLen→K (env.put d (.lit (.int .i64 n))) σ
  | _=>jG (zP env σ (.len d false x)) fun r=>K (env.put d r) σ
 | .call d f args,env,σ=>match ev env f with
  | .clo g first cap=>zA P g=true∧yX P g (first++args.map (ev env)++cap) σ (zIp d env K Qp)
  | .lit (.func (.yield b) ⟨[]⟩ ⟨[]⟩)=>zJ0 P b (args.map (ev env)) σ (zIp d env K Qp)
  | _=>False
 | .alr d q zs,env,σ=>(match σ[q]? with
  | some .rsv=>K (env.put d (.ptr q 0)) (σ.set q (.box (zs.map jJ)))
  | _=>False)
 | .mop d m xs,env,σ=>zB0 m (xs.map (ev env)) (fun r σ'=>K (env.put d r) σ') σ
 | .pan _ x,env,σ=>(match ev env x with
  | .lit (.iface t v)=>Qp (.iface t v) env σ
  | _=>False)
 | k,env,σ=>jG (zP env σ k) fun r=>K (env.put k.dst r) σ
end
end Go.Abs

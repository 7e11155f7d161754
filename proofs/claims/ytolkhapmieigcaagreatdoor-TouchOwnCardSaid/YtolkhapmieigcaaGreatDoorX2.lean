/- Soundness of the operations that leave the state alone: comparison, building, slicing; and -/
import Derived.Test.YtolkhapmieigcaaGreatDoorX1
import Derived.Laws.StructEq
import Derived.ChangeKeysEq
import Derived.Laws.CopyRow
import Derived.Laws.Tables
set_option linter.unusedVariables false
set_option maxHeartbeats 8000000
set_option maxRecDepth 100000
set_option linter.unusedSimpArgs false
namespace Go.Abs
section
variable{P:Program}{H:Mem}{L:wO} {U:St}{w:World}{N:Nat}{env:Env}{a:Act}
variable{x:Operand}{l:Int}
theorem lK(he:qL H L N env a.tmps){d:Nat}(h:jF env d (some x)=some l):∃k,a.eval x=.int k l:=by
 have hx:=qR he x;simp only[jF]at h;split at h<;>try(cases h;done)
 rename_i k j hxe;cases h;rw[hxe]at hx;simp only[Rel]at hx;exact⟨k,hx⟩
theorem a8{k:IntKind}{i:Int}{y:Nat}{code:BoundsCode}(h0:0<=i)(h1:i<=y):(Instr.sliceBound (.int k i) y code).run P w=.ok i.toNat w:=by simp[Instr.sliceBound,asIntOf,h0,h1]
variable{lo hi:Option Operand}
theorem bS(he:qL H L N env a.tmps){n cap:Nat}{h:Int}(hl:jF env 0 lo=some l)(hh:jF env n hi=some h)
 (h0:0<=l)(h1:l<=h)(h2:h<=n)(hc:n<=cap):(Instr.sliceBounds true n cap (lo.map a.eval) (hi.map a.eval) none).run P w=.ok (l.toNat,h.toNat,cap) w:=by
 unfold Instr.sliceBounds;cases hi with
 |none =>
  simp only[jF,jA3]at hh;subst hh;cases lo with
  |none =>
   simp only[jF,jA3]at hl;subst hl;simp
  |some x =>
   obtain⟨k,hx⟩:=lK he hl;have h1':l<=((n:Nat):Int):=h1;simp[hx,a8 h0 h1']
 |some y =>
  obtain⟨k,hy⟩:=lK he hh;have h0':0<=h:=by omega
  have h2':h<=((cap:Nat):Int):=by omega
  cases lo with
  |none =>
   simp only[jF,jA3]at hl;subst hl;simp[hy,a8 h0' h2']
  |some x =>
   obtain⟨k',hx⟩:=lK he hl;have h1':l<=((h.toNat:Nat):Int):=by omega
   simp[hy,hx,a8 h0' h2',a8 h0 h1']
theorem lC(he:qL H L N env a.tmps){n cap:Nat}{hi mx:Operand}{h m:Int}(hl:jF env 0 lo=some l)(hh:jF env n (some hi)=some h)
 (hm:jF env n (some mx)=some m)(h0:0<=l)(h1:l<=h)(h2:h<=n)(hmh:m=h)(hc:n<=cap) :
 (Instr.sliceBounds true n cap (lo.map a.eval) (some (a.eval hi)) (some (a.eval mx))).run P w=.ok (l.toNat,h.toNat,h.toNat) w:=by
 subst hmh;obtain⟨k,hy⟩:=lK he hh;obtain⟨k',hz⟩:=lK he hm;have h0':0<=m:=by omega
 have h2':m<=((cap:Nat):Int):=by omega
 have h3':m<=((m.toNat:Nat):Int):=by omega
 unfold Instr.sliceBounds;cases lo with
 |none =>
  simp only[jF,jA3]at hl;subst hl;simp[hy,hz,a8 h0' h2',a8 h0' h3']
 |some x =>
  obtain⟨k'',hx⟩:=lK he hl;have h1':l<=((m.toNat:Nat):Int):=by omega
  simp[hy,hz,hx,a8 h0' h2',a8 h0' h3',a8 h0 h1']
variable{i:TypeInfo}{o:Oper}{t e:TypeId}{r:A}
theorem zPF{lo hi mx:Option Operand}(ho:o.op=.slice t x lo hi mx)
 (hu:P.underlying t=some (.slice e))(hi':P.info? e=some i)(he:qL H L N env a.tmps){p:Prop}
 (h:zW env U (.slc o.dst x i.size lo hi mx)=some (p,r))(hp:p):bE P H L w a o r:=by
 have hx:=qR he x;have fin:∀ad n cap l h m,a.eval x=.slice ad n cap->(Instr.sliceBounds true n cap (lo.map a.eval) (hi.map a.eval) (mx.map a.eval)).run P w=.ok (l,h,m) w ->
  Rel H L r (.slice (if m=l then ad else ad.map (·.add (l*i.size))) (h-l) (m-l))->bE P H L w a o r:=by
  intro ad n cap l h m hv hb hr;refine⟨_,?_,hr⟩;unfold execOp;simp only[ho];refine qS ?_;simp[Instr.sliceAt,Instr.slice,run_underlying hu,hv,hb,yM hi']
 have part2:∀(ad:Option Addr) (n cap:Nat) (cs:wF) (l h:Int),n<=cap->cap<=maxLen->(n=0/\cs=[]\/∃b o,∃us:wM,ad=some ⟨b,o,none⟩/\qE H L cs us/\(∀u∈us,one u)/\At H b o us) ->
  0<=l->l<=h->h<=n->Rel H L (.sl (h-l).toNat ((cs.drop (l.toNat*i.size)).take ((h-l).toNat*i.size))) (.slice (if cap=l.toNat then ad else ad.map (·.add (l.toNat*i.size))) (h.toNat-l.toNat) (cap-l.toNat)):=by
  intro ad n cap cs l h hc hm hcs h0 h1 h2;have e1:h.toNat-l.toNat=(h-l).toNat:=by omega
  simp only[Rel,e1];refine⟨_,_,rfl,by omega,by omega,?_⟩;by_cases hz:(h-l).toNat=0
  .exact .inl ⟨hz,by simp[hz]⟩
  .right;have hne:¬cap=l.toNat:=by omega
   rcases hcs with ⟨rfl,rfl⟩|⟨b,off,us,rfl,g1,g2,g3⟩
   .omega
   .refine⟨b,off+l.toNat*i.size,_,?_,(g1.drop _).take _,dL g2,(g3.drop _).take _⟩;simp[hne,Addr.add_lit]
 have part3:∀(ad:Option Addr) (n cap:Nat) (cs:wF) (l h:Int),n<=cap->cap<=maxLen->(n=0/\cs=[]\/∃b o,∃us:wM,ad=some ⟨b,o,none⟩/\qE H L cs us/\(∀u∈us,one u)/\At H b o us) ->
  0<=l->l<=h->h<=n->Rel H L (.fsl (h-l).toNat ((cs.drop (l.toNat*i.size)).take ((h-l).toNat*i.size))) (.slice (if h.toNat=l.toNat then ad else ad.map (·.add (l.toNat*i.size))) (h.toNat-l.toNat) (h.toNat-l.toNat)):=by
  intro ad n cap cs l h hc hm hcs h0 h1 h2;have e1:h.toNat-l.toNat=(h-l).toNat:=by omega
  simp only[Rel,e1];refine⟨_,rfl,by omega,?_⟩;by_cases hz:(h-l).toNat=0
  .exact .inl ⟨hz,by simp[hz]⟩
  .right;have hne:¬h.toNat=l.toNat:=by omega
   rcases hcs with ⟨rfl,rfl⟩|⟨b,off,us,rfl,g1,g2,g3⟩
   .omega
   .refine⟨b,off+l.toNat*i.size,_,?_,(g1.drop _).take _,dL g2,(g3.drop _).take _⟩;simp[hne,Addr.add_lit]
 cases mx with
 |none =>
  simp only[zW]at h;split at h<;>try(cases h;done)
  .rename_i n cs hxe;split at h<;>try(cases h;done)
   rename_i l hh hl hhb;cases h;rw[hxe]at hx;simp only[Rel]at hx;obtain⟨ad,cap,hv,g1,g2,g3⟩:=hx;exact fin ad n cap _ _ _ hv (bS he hl hhb hp.1 hp.2.1 hp.2.2 g1) (part2 ad n cap cs l hh g1 g2 g3 hp.1 hp.2.1 hp.2.2)
  .rename_i n cs hxe;split at h<;>try(cases h;done)
   rename_i l hh hl hhb;cases h;rw[hxe]at hx;simp only[Rel]at hx;obtain⟨ad,hv,g2,g3⟩:=hx;exact fin ad n n _ _ _ hv (bS he hl hhb hp.1 hp.2.1 hp.2.2 (jA _)) (part2 ad n n cs l hh (jA _) g2 g3 hp.1 hp.2.1 hp.2.2)
  .rename_i hxe;split at h<;>try(cases h;done)
   rename_i l hh hl hhb;cases h;rw[hxe]at hx;simp only[Rel]at hx;obtain⟨rfl,rfl⟩:=hp;exact fin none 0 0 _ _ _ hx (bS (n:=0) (cap:=0) he hl hhb (by omega) (by omega) (by simp) (by omega)) (by simp[Rel])
 |some mx =>
  cases hi with
  |none=>simp only[zW]at h;cases h
  |some hi =>
   simp only[zW]at h;split at h<;>try(cases h;done)
   .rename_i n cs hxe;split at h<;>try(cases h;done)
    rename_i l hh m hl hhb hmb;cases h;rw[hxe]at hx;simp only[Rel]at hx;obtain⟨ad,cap,hv,g1,g2,g3⟩:=hx;exact fin ad n cap _ _ _ hv (lC he hl hhb hmb hp.1.1 hp.1.2.1 hp.1.2.2 hp.2 g1) (part3 ad n cap cs l hh g1 g2 g3 hp.1.1 hp.1.2.1 hp.1.2.2)
   .rename_i n cs hxe;split at h<;>try(cases h;done)
    rename_i l hh m hl hhb hmb;cases h;rw[hxe]at hx;simp only[Rel]at hx;obtain⟨ad,hv,g2,g3⟩:=hx;exact fin ad n n _ _ _ hv (lC he hl hhb hmb hp.1.1 hp.1.2.1 hp.1.2.2 hp.2 (jA _)) (part3 ad n n cs l hh (jA _) g2 g3 hp.1.1 hp.1.2.1 hp.1.2.2)
   .rename_i hxe;split at h<;>try(cases h;done)
    rename_i l hh m hl hhb hmb;cases h;rw[hxe]at hx;simp only[Rel]at hx;obtain⟨⟨rfl,rfl⟩,rfl⟩:=hp;exact fin none 0 0 _ _ _ hx (lC (n:=0) (cap:=0) he hl hhb hmb (by omega) (by omega) (by simp) rfl (by omega)) (by simp[Rel])
theorem zME(ho:o.op=.slice t x lo hi none)
 (hu:P.underlying t=some (.slice e))(hi':P.info? e=some i)(he:qL H L N env a.tmps)(hs:RelSt H L U w){p:Prop}
 (h:zW env U (.rslc o.dst x i.size lo hi)=some (p,r))(hp:p):bE P H L w a o r:=by
 have hx:=qR he x;have fin:∀ad n cap l h m,a.eval x=.slice ad n cap->(Instr.sliceBounds true n cap (lo.map a.eval) (hi.map a.eval) none).run P w=.ok (l,h,m) w ->
  Rel H L r (.slice (if m=l then ad else ad.map (·.add (l*i.size))) (h-l) (m-l))->bE P H L w a o r:=by
  intro ad n cap l h m hv hb hr;refine⟨_,?_,hr⟩;unfold execOp;simp only[ho];refine qS ?_;simp[Instr.sliceAt,Instr.slice,run_underlying hu,hv,hb,yM hi']
 simp only[zW]at h;split at h<;>try(cases h;done)
 .rename_i l n hxe;split at h<;>try(cases h;done)
  rename_i fz e' sz m ds hds;split at h<;>try(cases h;done)
  rename_i hn;obtain⟨hn,rfl⟩:=hn;split at h<;>try(cases h;done)
  rename_i l' hh hl hhb;cases h;rw[hxe]at hx;simp only[Rel]at hx;obtain⟨_,li,e1,e2,e3,hv⟩:=hx;have hob:=hs.obj l li _ e1 hds;simp only[qB]at hob;obtain⟨_,hlen,_,hob⟩:=hob;have hv:=hv (by rw[hn,hlen]);obtain⟨p1,p2,p3⟩:=hp;rcases hob with ⟨hb,h0⟩|⟨b,cur,hb,_,k2,k3,_⟩
  .rw[hb]at hv;have hn0:n=0:=by omega
   have hv':a.eval x=.slice none n 0:=by rw[hn0];exact hv
   refine fin none n 0 _ _ _ hv' (bS he hl hhb p1 p2 p3 (by omega)) ?_;have hkz:(hh-l').toNat=0:=by omega
   have e5:hh.toNat-l'.toNat=0:=by omega
   simp only[Rel,hkz,e5];refine⟨rfl,li,e1,e2,e3,fun _=>⟨jB0 _,_,_,rfl,jB0 _,by omega,.inl (by omega)⟩⟩
  .rw[hb]at hv;refine fin _ n li.cap _ _ _ hv (bS he hl hhb p1 p2 p3 (by omega)) ?_;have e5:hh.toNat-l'.toNat=(hh-l').toNat:=by omega
   simp only[Rel,e5];refine⟨rfl,li,e1,e2,e3,fun _=>⟨by omega,_,_,rfl,by omega,by omega,?_⟩⟩;by_cases hz:li.cap-l'.toNat=0
   .exact .inl hz
   .have hne:¬li.cap=l'.toNat:=by omega
    refine .inr ⟨b,hb,by simp[hne,Addr.add_lit],?_⟩;rw[<-jB7,Nat.add_sub_cancel' (by omega)];exact jA _
 .rename_i l n off k' c hxe;split at h<;>try(cases h;done)
  rename_i fz e' sz m ds hds;split at h<;>try(cases h;done)
  rename_i hn;obtain⟨hn,rfl⟩:=hn;split at h<;>try(cases h;done)
  rename_i l' hh hl hhb;cases h;rw[hxe]at hx;simp only[Rel]at hx;obtain⟨_,li,e1,e2,e3,hv⟩:=hx;have hob:=hs.obj l li _ e1 hds;simp only[qB]at hob;obtain⟨_,hlen,_,hob⟩:=hob;obtain⟨⟨p1,p2,p3⟩,rfl⟩:=hp;obtain⟨g0,ad,cap,hv2,g1,g2,g3⟩:=hv (by rw[hn,hlen]);refine fin _ k' cap _ _ _ hv2 (bS he hl hhb p1 p2 p3 g1) ?_;have e5:hh.toNat-l'.toNat=(hh-l').toNat:=by omega
  simp only[Rel,e5];refine⟨rfl,li,e1,e2,e3,fun _=>⟨by omega,_,_,rfl,by omega,by omega,?_⟩⟩;by_cases hz:cap-l'.toNat=0
  .exact .inl hz
  .have hne:¬cap=l'.toNat:=by omega
   rcases g3 with g3|⟨b,hb,rfl,g4⟩
   .omega
   .refine .inr ⟨b,hb,by simp[hne,Addr.add_lit,jBb],?_⟩;rw[jBb,<-jB7,Nat.add_sub_cancel' (by omega)];exact g4
open Classical in
theorem rJ(p:Prop):dE false p=.lit (.bool (decide p)):=by simp[dE]
open Classical in
theorem uC(p:Prop):dE true p=.lit (.bool (decide (¬p))):=by simp[dE]
theorem zFb(a b:ByteArray):(a.toList==b.toList)=@decide (a=b) (Classical.propDecidable _):=by
 by_cases hab:a=b
 .subst hab;simp
 .have hne:¬a.toList=b.toList:=fun e=>hab (by
   rw[ByteArray.toList_eq,ByteArray.toList_eq]at e;cases a;cases b;simp only at e
   congr
   exact jC9 e)
  simp[hab,hne]
open Classical in
theorem zCV{k:SK}{x y:A}{p:Prop}(h:fX k x y=some p)(hk:xG P t=some k)(d:Nat):∃u v,x=.lit u/\y=.lit v/\one u/\one v/\(Op.equalIn (d+1) t u v).run P w=.ok (decide p) w:=by
 unfold fX at h;unfold xG at hk;split at h<;>try(cases h;done)
 .rename_i k a k' b;split at h<;>try(cases h;done)
  rename_i he;subst he;cases h;split at hk<;>try(cases hk;done)
  rename_i D hD;refine⟨_,_,rfl,rfl,rfl,rfl,?_⟩;rw[run_equalIn_int w d t k _ a b hD];by_cases hab:a=b<;>simp[hab]
 .rename_i a b;cases h;split at hk<;>try(cases hk;done)
  rename_i hD;refine⟨_,_,rfl,rfl,rfl,rfl,?_⟩;rw[run_equalIn_bool' w d t a b hD];cases a<;>cases b<;>simp
 .rename_i a b;cases h;split at hk<;>try(cases hk;done)
  rename_i hD;refine⟨_,_,rfl,rfl,rfl,rfl,?_⟩;rw[run_equalIn_string w d t a b hD,zFb]
open Classical in
theorem zPw{k:SK}{x y:A}{p:Prop}(h:fX k x y=some p)(hk:xG P t=some k)(xo yo:Operand):∃u v,x=.lit u/\y=.lit v /\
 (do eqGuard .eql t xo yo u v;binOp .eql t u v:Sem Value).run P w=.ok (.bool (decide p)) w/\(do eqGuard .neq t xo yo u v;binOp .neq t u v:Sem Value).run P w=.ok (.bool (decide ¬p)) w:=by
 unfold fX at h;unfold xG at hk;split at h<;>try(cases h;done)
 .rename_i k a k' b;split at h<;>try(cases h;done)
  rename_i he;subst he;cases h;refine⟨_,_,rfl,rfl,?_,?_⟩
  all_goals
   rw[Sem.run_bind,zDQ,Result.andThen_ok];by_cases hab:a=b<;>simp[binOp,Op.intCmp,hab]
 .rename_i a b;cases h;split at hk<;>try(cases hk;done)
  rename_i hD;refine⟨_,_,rfl,rfl,?_,?_⟩
  all_goals
   simp[eqGuard,binOp,Op.equal,Op.maxDepth,run_equalIn_bool' w 9999 t a b hD];cases a<;>cases b<;>simp
 .rename_i a b;cases h;refine⟨_,_,rfl,rfl,?_,?_⟩
  .simp[eqGuard,binOp,Op.stringOp,zFb]
  .simp[eqGuard,binOp,Op.stringOp,zFb]
theorem lX{k:SK}(h:xG P t=some k):(isAgg t).run P w=.ok false w:=by
 unfold xG at h;split at h<;>try(cases h;done)
 all_goals (rename_i hD;rw[oG hD];rfl)
open Classical in
theorem vL(d:Nat):∀(ks:List SK) (fs:List Field) (o:Nat) (xs ys:wF) (p:Prop) (us vs us0 vs0:wM),sK P o fs=some ks->yP ks xs ys=some p ->
 qE H L xs us->qE H L ys vs->us0.length=o->vs0.length=o->(Op.eqFields (d+1) (us0++us).toArray (vs0++vs).toArray fs).run P w=.ok (decide p) w
 |ks,[],o,xs,ys,p,us,vs,us0,vs0,hf,he,hx,hy,h1,h2=>by
  simp only[sK,jA3]at hf;subst hf;unfold yP at he;split at he<;>try(cases he;done)
  .cases he;simp[Op.eqFields]
  .cases ‹([]:List SK)=_::_›
 |ks,f::fs,o,xs,ys,p,us,vs,us0,vs0,hf,he,hx,hy,h1,h2=>by
  simp only[sK]at hf;split at hf<;>try(cases hf;done)
  rename_i hof;obtain⟨hof,hnm⟩:=hof;split at hf<;>try(cases hf;done)
  rename_i k ks' hk hks;cases hf;cases xs with
  |nil=>simp[yP]at he
  |cons x xs' =>
  cases ys with
  |nil=>simp[yP]at he
  |cons y ys' =>
  simp only[yP]at he;split at he<;>try(cases he;done)
  rename_i p1 q1 hp1 hq1;cases he;obtain⟨u,us',rfl,hu,hus⟩:=z8 hx;obtain⟨v,vs',rfl,hv,hvs⟩:=z8 hy;obtain⟨u',v',rfl,rfl,_,_,hrun⟩:=zCV (w:=w) hp1 hk d;simp only[Rel]at hu hv;subst hu;subst hv;have hpu:(part f.type (us0++u::us').toArray f.offset).run P w=.ok u w:=by
   unfold part;rw[Sem.run_bind,lX hk,Result.andThen_ok];have:(us0++u::us')[f.offset]?=some u:=by rw[hof,<-h1];simp
   simp[this]
  have hpv:(part f.type (vs0++v::vs').toArray f.offset).run P w=.ok v w:=by
   unfold part;rw[Sem.run_bind,lX hk,Result.andThen_ok];have:(vs0++v::vs')[f.offset]?=some v:=by rw[hof,<-h2];simp
   simp[this]
  have ih:=vL d ks' fs (o+1) xs' ys' q1 us' vs' (us0++[u]) (vs0++[v]) hks hq1 hus hvs (by simp[h1]) (by simp[h2]);simp only[jAq,jCn]at ih;simp only[Op.eqFields,hnm,ne_eq,not_false_eq_true,if_true,Sem.run_bind,hpu,hpv,Result.andThen_ok,hrun];by_cases hp:p1
  .simp[hp,ih]
  .simp[hp]
variable{y:Operand}{ng:Bool}{t':TypeId}
open Classical in
theorem zH8{k:SK}(ho:o.op=.binOp (if ng then .neq else .eql) t x y t')(hk:xG P t=some k)(he:qL H L N env a.tmps){p:Prop}
 (h:zW env U (.eqv o.dst ng k x y)=some (p,r)):bE P H L w a o r:=by
 have hx:=qR he x;have hy:=qR he y;simp only[zW,jAf,jBh]at h;obtain⟨q,hq,_,rfl⟩:=h;obtain⟨u,v,e1,e2,h1,h2⟩:=zPw (w:=w) hq hk x y;rw[e1]at hx;rw[e2]at hy;simp only[Rel]at hx hy;cases ng
 .refine⟨.bool (decide q),?_,by rw[rJ];simp only[Rel]⟩;unfold execOp;simp only[jAg,if_false]at ho;simp only[ho];refine qS ?_;rw[hx,hy];exact h1
 .refine⟨.bool (decide ¬q),?_,by rw[uC];simp only[Rel]⟩;unfold execOp;simp only[if_true]at ho;simp only[ho];refine qS ?_;rw[hx,hy];exact h2
open Classical in
theorem zH7{ks:List SK}(ho:o.op=.binOp (if ng then .neq else .eql) t x y t')(hk:zIN P t=some ks)(he:qL H L N env a.tmps){p:Prop}
 (h:zW env U (.eqs o.dst ng ks x y)=some (p,r)):bE P H L w a o r:=by
 have hx:=qR he x;have hy:=qR he y;simp only[zW]at h;split at h<;>try(cases h;done)
 rename_i xs ys hxe hye;simp only[jAf,jBh]at h;obtain⟨q,hq,_,rfl⟩:=h;rw[hxe]at hx;rw[hye]at hy;simp only[Rel]at hx hy;obtain⟨us,hu,hu1,_⟩:=hx;obtain⟨vs,hv,hv1,_⟩:=hy;unfold zIN at hk;split at hk<;>try(cases hk;done)
 rename_i fs hfs;split at hk<;>try(cases hk;done)
 rename_i hb;simp only[jBc,not_or,jCc]at hb;have hfo:P.fieldsOf t=fs:=by simp[Program.fieldsOf,hfs]
 have hrun:=vL (P:=P) (w:=w) 9998 ks fs.toList 0 xs ys q us vs [] [] hk hq hu1 hv1 rfl rfl;simp only[jBk]at hrun;have hst:=run_equalIn_struct (P:=P) w 9999 t us.toArray vs.toArray (by rw[hfo];exact hfs) hb.1;rw[hfo,hrun]at hst;cases ng
 .refine⟨.bool (decide q),?_,by rw[rJ];simp only[Rel]⟩;unfold execOp;simp only[jAg,if_false]at ho;simp only[ho];refine qS ?_;rw[hu,hv,Sem.run_bind,run_eqGuard_agg w _ t x y _ _ hb.2,Result.andThen_ok,run_eql_struct,hst];rfl
 .refine⟨.bool (decide ¬q),?_,by rw[uC];simp only[Rel]⟩;unfold execOp;simp only[if_true]at ho;simp only[ho];refine qS ?_;rw[hu,hv,Sem.run_bind,run_eqGuard_agg w _ t x y _ _ hb.2,Result.andThen_ok,run_neq_struct,hst];simp
theorem zA4:∀{k1 k2:List SK} {xs ys:wF} {p:Prop},yP (k1++k2) xs ys=some p->∃xs1 xs2 ys1 ys2 p1 p2,xs=xs1++xs2/\ys=ys1++ys2/\xs1.length=k1.length/\ys1.length=k1.length/\yP k1 xs1 ys1=some p1/\yP k2 xs2 ys2=some p2/\(p↔p1/\p2)
 |[],k2,xs,ys,p,h=>⟨[],xs,[],ys,True,p,rfl,rfl,rfl,rfl,rfl,h,by simp⟩
 |k::k1,k2,xs,ys,p,h=>by
  cases xs with
  |nil=>simp[yP]at h
  |cons x xs =>
  cases ys with
  |nil=>simp[yP]at h
  |cons y ys =>
  simp only[jBe,yP]at h;split at h<;>try(cases h;done)
  rename_i a b ha hb;cases h;obtain⟨xs1,xs2,ys1,ys2,p1,p2,rfl,rfl,h1,h2,h3,h4,h5⟩:=zA4 hb;refine⟨x::xs1,xs2,y::ys1,ys2,a/\p1,p2,rfl,rfl,by simp[h1],by simp[h2],by simp[yP,ha,h3],h4,by rw[h5,and_assoc]⟩
open Classical in
theorem s9(d:Nat):∀(fs:List Field) (ks:List SK) (o:Nat) (xs ys:wF) (p:Prop) (us vs us0 vs0:wM),skN P o fs=some ks->yP ks xs ys=some p ->
 qE H L xs us->qE H L ys vs->us0.length=o->vs0.length=o->(Op.eqFields (d+2) (us0++us).toArray (vs0++vs).toArray fs).run P w=.ok (decide p) w
 |[],ks,o,xs,ys,p,us,vs,us0,vs0,hf,he,hx,hy,h1,h2=>by
  simp only[skN,jA3]at hf;subst hf;unfold yP at he;split at he<;>try(cases he;done)
  .cases he;simp[Op.eqFields]
  .cases ‹([]:List SK)=_::_›
 |f::fs,ks,o,xs,ys,p,us,vs,us0,vs0,hf,he,hx,hy,h1,h2=>by
  simp only[skN]at hf;split at hf<;>try(cases hf;done)
  rename_i hof;obtain⟨hof,hnm⟩:=hof;split at hf
  .rename_i k hk;simp only[jAf]at hf;obtain⟨ks',hks,rfl⟩:=hf;cases xs with
   |nil=>simp[yP]at he
   |cons x xs' =>
   cases ys with
   |nil=>simp[yP]at he
   |cons y ys' =>
   simp only[yP]at he;split at he<;>try(cases he;done)
   rename_i p1 q1 hp1 hq1;cases he;obtain⟨u,us',rfl,hu,hus⟩:=z8 hx;obtain⟨v,vs',rfl,hv,hvs⟩:=z8 hy;obtain⟨u',v',rfl,rfl,_,_,hrun⟩:=zCV (w:=w) hp1 hk (d+1);simp only[Rel]at hu hv;subst hu;subst hv;have hpu:(part f.type (us0++u::us').toArray f.offset).run P w=.ok u w:=by
    unfold part;rw[Sem.run_bind,lX hk,Result.andThen_ok];have:(us0++u::us')[f.offset]?=some u:=by rw[hof,<-h1];simp
    simp[this]
   have hpv:(part f.type (vs0++v::vs').toArray f.offset).run P w=.ok v w:=by
    unfold part;rw[Sem.run_bind,lX hk,Result.andThen_ok];have:(vs0++v::vs')[f.offset]?=some v:=by rw[hof,<-h2];simp
    simp[this]
   have ih:=s9 d fs ks' (o+1) xs' ys' q1 us' vs' (us0++[u]) (vs0++[v]) hks hq1 hus hvs (by simp[h1]) (by simp[h2]);simp only[jAq,jCn]at ih;simp only[Op.eqFields,hnm,ne_eq,not_false_eq_true,if_true,Sem.run_bind,hpu,hpv,Result.andThen_ok,hrun];by_cases hp:p1
   .simp[hp,ih]
   .simp[hp]
  .split at hf<;>try(cases hf;done)
   rename_i gs hgs;split at hf<;>try(cases hf;done)
   rename_i hst;split at hf<;>try(cases hf;done)
   rename_i k1 j hk1 hj;split at hf<;>try(cases hf;done)
   rename_i hsz;simp only[jAf]at hf;obtain⟨k2,hk2,rfl⟩:=hf;obtain⟨xs1,xs2,ys1,ys2,p1,p2,rfl,rfl,g1,g2,g3,g4,g5⟩:=zA4 he;obtain⟨us1,us2,rfl,hu1,hu2⟩:=hx.split;obtain⟨vs1,vs2,rfl,hv1,hv2⟩:=hy.split;have l1:us1.length=k1.length:=by rw[hu1.length,g1]
   have l2:vs1.length=k1.length:=by rw[hv1.length,g2]
   have hag:(isAgg f.type).run P w=.ok true w:=by rw[oG hgs];rfl
   have hpart:∀(z0 z1 z2:wM),z0.length=o->z1.length=k1.length->(part f.type (z0++(z1++z2)).toArray f.offset).run P w=.ok (.agg z1.toArray) w:=by
    intro z0 z1 z2 e0 e1;unfold part;rw[Sem.run_bind,hag,Result.andThen_ok];simp only[if_true,Sem.run_bind,yM hj,Result.andThen_ok,hof,hsz];have:(z0++(z1++z2)).toArray.extract o (o+k1.length)=z1.toArray:=by apply jC9;simp[<-e0,<-e1]
    rw[this];rfl
   have hfo:P.fieldsOf f.type=gs:=by simp[Program.fieldsOf,hgs]
   have hin:=vL (P:=P) (w:=w) d k1 gs.toList 0 xs1 ys1 p1 us1 vs1 [] [] hk1 g3 hu1 hv1 rfl rfl;simp only[jBk]at hin;have hst2:=run_equalIn_struct (P:=P) w (d+1) f.type us1.toArray vs1.toArray (by rw[hfo];exact hgs) (by simpa using hst);rw[hfo,hin]at hst2;have ih:=s9 d fs k2 (o+k1.length) xs2 ys2 p2 us2 vs2 (us0++us1) (vs0++vs1) hk2 g4 hu2 hv2 (by simp[h1,l1]) (by simp[h2,l2]);simp only[jAq]at ih;simp only[Op.eqFields,hnm,ne_eq,not_false_eq_true,if_true,Sem.run_bind,hpart us0 us1 us2 h1 l1,hpart vs0 vs1 vs2 h2 l2,Result.andThen_ok,hst2];by_cases hp:p1
   .simp[hp,ih,g5]
   .simp[hp,g5]
open Classical in
theorem zDR(d:Nat){e:TypeId}{k:SK}(hk:xG P e=some k)(hc:P.cellsOf e=1):∀(n o:Nat) (xs ys:wF) (p:Prop) (us vs us0 vs0:wM),yP (List.replicate n k) xs ys=some p ->
 qE H L xs us->qE H L ys vs->us0.length=o->vs0.length=o->(Op.eqItems (d+1) e (P.cellsOf e) (us0++us).toArray (vs0++vs).toArray (List.range' o n)).run P w=.ok (decide p) w
 | 0,o,xs,ys,p,us,vs,us0,vs0,he,hx,hy,h1,h2=>by
  simp only[List.replicate_zero]at he;unfold yP at he;split at he<;>try(cases he;done)
  .cases he;simp[Op.eqItems]
  .cases ‹([]:List SK)=_::_›
 |n+1,o,xs,ys,p,us,vs,us0,vs0,he,hx,hy,h1,h2=>by
  rw[List.replicate_succ]at he;cases xs with
  |nil=>simp[yP]at he
  |cons x xs' =>
  cases ys with
  |nil=>simp[yP]at he
  |cons y ys' =>
  simp only[yP]at he;split at he<;>try(cases he;done)
  rename_i p1 q1 hp1 hq1;cases he;obtain⟨u,us',rfl,hu,hus⟩:=z8 hx;obtain⟨v,vs',rfl,hv,hvs⟩:=z8 hy;obtain⟨u',v',rfl,rfl,_,_,hrun⟩:=zCV (w:=w) hp1 hk d;simp only[Rel]at hu hv;subst hu;subst hv;have hpu:(part e (us0++u::us').toArray (o*P.cellsOf e)).run P w=.ok u w:=by
   unfold part;rw[Sem.run_bind,lX hk,Result.andThen_ok,hc];have:(us0++u::us')[o]?=some u:=by rw[<-h1];simp
   simp[this]
  have hpv:(part e (vs0++v::vs').toArray (o*P.cellsOf e)).run P w=.ok v w:=by
   unfold part;rw[Sem.run_bind,lX hk,Result.andThen_ok,hc];have:(vs0++v::vs')[o]?=some v:=by rw[<-h2];simp
   simp[this]
  have ih:=zDR d hk hc n (o+1) xs' ys' q1 us' vs' (us0++[u]) (vs0++[v]) hq1 hus hvs (by simp[h1]) (by simp[h2]);simp only[jAq,jCn]at ih;rw[List.range'_succ];simp only[Op.eqItems,Sem.run_bind,hpu,hpv,Result.andThen_ok,hrun];by_cases hp:p1
  .simp[hp,ih]
  .simp[hp]
open Classical in
theorem zH6{ks:List SK}(ho:o.op=.binOp (if ng then .neq else .eql) t x y t')(hk:zJd P t=some ks)(he:qL H L N env a.tmps){p:Prop}
 (h:zW env U (.eqs o.dst ng ks x y)=some (p,r)):bE P H L w a o r:=by
 have hx:=qR he x;have hy:=qR he y;simp only[zW]at h;split at h<;>try(cases h;done)
 rename_i xs ys hxe hye;simp only[jAf,jBh]at h;obtain⟨q,hq,_,rfl⟩:=h;rw[hxe]at hx;rw[hye]at hy;simp only[Rel]at hx hy;obtain⟨us,hu,hu1,_⟩:=hx;obtain⟨vs,hv,hv1,_⟩:=hy;have key:P.eqGuardType P.depth t=false/\(Op.equalIn 10000 t (.agg us.toArray) (.agg vs.toArray)).run P w=.ok (decide q) w:=by
  unfold zJd at hk;split at hk<;>try(cases hk;done)
  .rename_i fs hfs;split at hk<;>try(cases hk;done)
   rename_i hb;simp only[jBc,not_or,jCc]at hb;have hfo:P.fieldsOf t=fs:=by simp[Program.fieldsOf,hfs]
   have hrun:=s9 (P:=P) (w:=w) 9997 fs.toList ks 0 xs ys q us vs [] [] hk hq hu1 hv1 rfl rfl;simp only[jBk]at hrun;have hst:=run_equalIn_struct (P:=P) w 9999 t us.toArray vs.toArray (by rw[hfo];exact hfs) hb.1;rw[hfo,hrun]at hst;exact⟨hb.2,hst⟩
  .rename_i n e hne;split at hk<;>try(cases hk;done)
   rename_i hb;simp only[jBc,not_or,jCc,Bool.not_eq_false',beq_iff_eq]at hb;simp only[jAf]at hk;obtain⟨k,hk,rfl⟩:=hk;obtain⟨hb1,i,hi,hi1⟩:P.eqGuardType P.depth t=false/\∃i,P.info? e=some i/\i.size=1:=by simpa[jAf]using hb
   have hc:P.cellsOf e=1:=by simp[Program.cellsOf,hi,hi1]
   refine⟨hb1,?_⟩;rw[show (10000:Nat)=9999+1 from rfl,run_equalIn_array w 9999 us.toArray vs.toArray hne hi,List.range_eq_range'];exact zDR (P:=P) (w:=w) 9998 hk hc n 0 xs ys q us vs [] [] hq hu1 hv1 rfl rfl
 obtain⟨hg,hst⟩:=key;cases ng
 .refine⟨.bool (decide q),?_,by rw[rJ];simp only[Rel]⟩;unfold execOp;simp only[jAg,if_false]at ho;simp only[ho];refine qS ?_;rw[hu,hv,Sem.run_bind,run_eqGuard_agg w _ t x y _ _ hg,Result.andThen_ok,run_eql_struct,hst];rfl
 .refine⟨.bool (decide ¬q),?_,by rw[uC];simp only[Rel]⟩;unfold execOp;simp only[if_true]at ho;simp only[ho];refine qS ?_;rw[hu,hv,Sem.run_bind,run_eqGuard_agg w _ t x y _ _ hg,Result.andThen_ok,run_neq_struct,hst];simp
theorem zHA(ho:o.op=.binOp (if ng then .neq else .eql) t x y t')(hn:zO8 P t y=true)(he:qL H L N env a.tmps){p:Prop}
 (h:zW env U (.isp o.dst ng x)=some (p,r)):bE P H L w a o r:=by
 have hx:=qR he x;unfold zO8 at hn;split at hn<;>try(cases hn;done)
 rename_i e hu;have fin:∀(ad:Option Addr),a.eval x=.pointer ad->r=.lit (.bool (ad.isNone != ng))->bE P H L w a o r:=by
  rintro ad hv rfl;have key:(Op.equal t (.pointer ad) (.pointer none)).run P w=.ok ad.isNone w:=by
   unfold Op.equal Op.maxDepth;unfold Op.equalIn;cases ad with
   |none=>simp[run_underlying hu]
   |some ad=>simp[run_underlying hu]
  refine⟨.bool (ad.isNone != ng),?_,by simp only[Rel]⟩;unfold execOp;cases ng
  .simp only[jAg,if_false]at ho;simp only[ho,hv];refine qS ?_;simp[Act.eval,eqGuard,binOp,key]
  .simp only[if_true]at ho;simp only[ho,hv];refine qS ?_;simp[Act.eval,eqGuard,binOp,key]
 simp only[zW]at h;split at h<;>try(cases h;done)
 .rename_i hxe;cases h;rw[hxe]at hx;simp only[Rel]at hx;exact fin none hx (by cases ng<;>rfl)
 .rename_i hxe;cases h;rw[hxe]at hx;simp only[Rel]at hx;obtain⟨b,o',us,hx,_⟩:=hx;exact fin (some ⟨b,o',none⟩) hx (by cases ng<;>rfl)
 .rename_i hxe;cases h;rw[hxe]at hx;simp only[Rel]at hx;obtain⟨li,b,_,_,_,hx⟩:=hx;exact fin _ hx (by cases ng<;>rfl)
theorem zH9(ho:o.op=.binOp (if ng then .neq else .eql) t x y t')(hn:zFP P t y=true)(he:qL H L N env a.tmps){p:Prop}
 (h:zW env U (.isn o.dst ng x)=some (p,r))(hp:p):bE P H L w a o r:=by
 have hx:=qR he x;unfold zFP at hn;split at hn<;>try(cases hn;done)
 rename_i e hu;have fin:∀(b:Bool),(∃(ad:Option Addr) (n c:Nat),a.eval x=.slice ad n c/\ad.isNone=b)->r=.lit (.bool (b != ng))->bE P H L w a o r:=by
  rintro b ⟨ad,n,c,hv,hb⟩ rfl;have key:(Op.equal t (.slice ad n c) (.slice none 0 0)).run P w=.ok b w:=by
   subst hb;unfold Op.equal Op.maxDepth;unfold Op.equalIn;cases ad with
   |none=>simp[run_underlying hu]
   |some ad=>simp[run_underlying hu]
  refine⟨.bool (b != ng),?_,by simp only[Rel]⟩;unfold execOp;cases ng
  .simp only[jAg,if_false]at ho;simp only[ho,hv];refine qS ?_;simp[Act.eval,eqGuard,binOp,key]
  .simp only[if_true]at ho;simp only[ho,hv];refine qS ?_;simp[Act.eval,eqGuard,binOp,key]
 simp only[zW]at h;split at h<;>try(cases h;done)
 .rename_i hxe;cases h;rw[hxe]at hx;simp only[Rel]at hx;exact fin true ⟨_,_,_,hx,rfl⟩ (by cases ng<;>rfl)
 .rename_i n cs hxe;cases h;rw[hxe]at hx;simp only[Rel]at hx;obtain⟨ad,cap,hv,_,_,h3⟩:=hx;rcases h3 with ⟨h3,_⟩|⟨b,off,us,rfl,_⟩
  .exact(hp h3).elim
  .exact fin false ⟨_,_,_,hv,rfl⟩ (by cases ng<;>rfl)
 .rename_i n cs hxe;cases h;rw[hxe]at hx;simp only[Rel]at hx;obtain⟨ad,hv,_,h3⟩:=hx;rcases h3 with ⟨h3,_⟩|⟨b,off,us,rfl,_⟩
  .exact(hp h3).elim
  .exact fin false ⟨_,_,_,hv,rfl⟩ (by cases ng<;>rfl)
theorem zHB(ho:o.op=.binOp (if ng then .neq else .eql) t x y t')(hn:zFP P t y=true){ad:Option Addr}{n cap:Nat}(hv:a.eval x=.slice ad n cap) :
 bE P H L w a o (.lit (.bool (ad.isNone != ng))):=by
 unfold zFP at hn;split at hn<;>try(cases hn;done)
 rename_i e hu;have key:(Op.equal t (.slice ad n cap) (.slice none 0 0)).run P w=.ok ad.isNone w:=by
  unfold Op.equal Op.maxDepth;unfold Op.equalIn;cases ad with
  |none=>simp[run_underlying hu]
  |some ad=>simp[run_underlying hu]
 refine⟨.bool (ad.isNone != ng),?_,by simp only[Rel]⟩;unfold execOp;cases ng
 .simp only[jAg,if_false]at ho;simp only[ho,hv];refine qS ?_;simp[Act.eval,eqGuard,binOp,key]
 .simp only[if_true]at ho;simp only[ho,hv];refine qS ?_;simp[Act.eval,eqGuard,binOp,key]
theorem zVb(hs:RelSt H L U w){x:A}{v:Value}(hx:Rel H L x v):(x=.nil->v=.slice none 0 0)/\(∀n cs,x=.sl n cs->∃ad cap,v=.slice ad n cap/\(n≠0->ad.isNone=false)) /\
 ∀l n fz e sz cs,x=.row l n->U[l]?=some (.row fz e sz n cs)->∃ad cap,v=.slice ad n cap/\(n≠0->ad.isNone=false):=by
 refine⟨fun e=>by subst e;simpa only[Rel]using hx,fun n cs e=>?_,fun l n fz e sz cs he hU=>?_⟩
 .subst e;simp only[Rel]at hx;obtain⟨ad,cap,hv,_,_,h3⟩:=hx;refine⟨ad,cap,hv,fun h0=>?_⟩;rcases h3 with ⟨h3,_⟩|⟨b,off,us,rfl,_⟩
  .exact(h0 h3).elim
  .rfl
 .subst he;simp only[Rel]at hx;obtain⟨_,li,e1,e2,e3,hv⟩:=hx;have hob:=hs.obj l li _ e1 hU;simp only[qB]at hob;have hv:=hv (by rw[hob.2.1]);cases hb:li.block with
  |none =>
   rw[hb]at hv;rcases hob.2.2.2 with ⟨_,h0⟩|⟨b,cur,hb',_⟩
   .subst h0;exact⟨_,_,hv,fun h=>(h rfl).elim⟩
   .rw[hb]at hb';cases hb'
  |some b=>rw[hb]at hv;exact⟨_,_,hv,fun _=>rfl⟩
end
end Go.Abs
namespace Go.Abs
section
variable{P:Program}{H:Mem}{L:wO} {U:St}{w:World}{N:Nat}{env:Env}{a:Act}
theorem zKu(off:Nat):∀(vs:wM) (k:Nat) (cs:Array Value),off+k+vs.length<=cs.size ->
 ((vs.zipIdx k).foldl (fun cs (p:Value×Nat)=>cs.setIfInBounds (off+p.2) p.1) cs).toList=cs.toList.take (off+k)++vs++cs.toList.drop (off+k+vs.length)
 |[],k,cs,_=>by simp
 |v::vs,k,cs,h=>by
  simp only[jAc]at h;have ih:=zKu off vs (k+1) (cs.setIfInBounds (off+k) v) (by simpa using by omega);rw[List.zipIdx_cons,jAw,ih];simp only[jDq,jAc];have hk:off+k<cs.toList.length:=by simpa using by omega
  rw[show off+(k+1)=off+k+1 from by omega,jA7 (by simpa using hk),List.take_set_of_le (jA _),jDn,
   List.drop_set_of_lt (by omega)]
  simp only[jAq,jCn];rw[show off+k+1+vs.length=off+k+(vs.length+1) from by omega]
theorem zBO(he:qL H L N env a.tmps)(place:Nat->Option (Nat×Nat)):∀(parts:List (Nat×Operand)) (ps:List (Nat×Nat×Operand)) (zs:wF) (arr:Array Value) (cs:wF),
 nQ place parts=some ps->fO zs (ps.map fun(o,s,x)=>(o,s,ev env x))=some cs->qE H L zs arr.toList->(∀u∈arr.toList,one u) ->
 ∃arr':Array Value,Instr.fill place arr (parts.map fun(i,x)=>(i,a.eval x))=some arr'/\qE H L cs arr'.toList/\∀u∈arr'.toList,one u
 |[],ps,zs,arr,cs,hp,hf,hz,h1=>by simp only[nQ,List.mapM_nil,jDr,jA3]at hp;subst hp;simp only[jBm,fO,jA3]at hf;subst hf;exact⟨arr,rfl,hz,h1⟩
 |(i,x)::parts,ps,zs,arr,cs,hp,hf,hz,h1=>by
  simp only[nQ,jDi,jDr,jAj,jAa,jAf,jA3]at hp;obtain⟨q,⟨⟨off,size⟩,hpl,rfl⟩,ps',hps,rfl⟩:=hp;simp only[jAd,fO]at hf;split at hf<;>try(cases hf;done)
  rename_i l hl;split at hf<;>try(cases hf;done)
  rename_i hc;obtain⟨hc1,hc2⟩:=hc;obtain⟨g1,g2⟩:=xB (qR he x) hl;have hlen:=g1.length;have hzl:=hz.length;have hls:(a.eval x).cells.size=size:=by rw[<-jB5,hlen,hc1]
  have hsz:off+(a.eval x).cells.size<=arr.size:=by rw[hls,<-jB5,hzl];exact hc2
  have hfold:(((a.eval x).cells.zipIdx.foldl (fun cs (p:Value×Nat)=>cs.setIfInBounds (off+p.2) p.1) arr)).toList=arr.toList.take off++(a.eval x).cells.toList++arr.toList.drop (off+size):=by have:=zKu off (a.eval x).cells.toList 0 arr (by simpa using hsz);simp only[jCj,jB5,hls]at this;rw[<-this,<-Array.foldl_toList,Array.toList_zipIdx]
  obtain⟨arr',k1,k2,k3⟩:=zBO he place parts ps' _ ((a.eval x).cells.zipIdx.foldl (fun cs (p:Value×Nat)=>cs.setIfInBounds (off+p.2) p.1) arr) cs hps hf
   (by rw[hfold];exact((hz.take off).append g1).append (hz.drop _))
   (by
    rw[hfold];intro u hu;simp only[jA6]at hu;rcases hu with (hu|hu)|hu
    .exact h1 u (jBu hu)
    .exact g2 u hu
    .exact h1 u (jC1 hu))
  refine⟨arr',?_,k2,k3⟩;simp only[jAd,Instr.fill,hpl];rw[if_neg (by simp only[jBc,decide_eq_true_eq,not_or,Decidable.not_not,hls,true_and,Nat.not_lt,ne_eq];rw[hls]at hsz;exact hsz)];exact k1
theorem zKJ{fs:Array Field}{P:Program}(hall:fs.all (fun f=>(P.info? f.type).isSome)=true) :
 ∃ps:Array (Nat×Nat),(fs.mapM fun f=>(do pure (f.offset,<-sizeOf f.type):Sem (Nat×Nat))).run P w=.ok ps w/\∀i:Nat,ps[i]?=pR P fs.toList i:=by
 obtain⟨l⟩:=fs;have hall':∀f∈l,(P.info? f.type).isSome:=by simpa using hall
 have key:∀(l:List Field),(∀f∈l,(P.info? f.type).isSome)->∃ps:wE,(l.mapM fun f=>(do pure (f.offset,<-sizeOf f.type):Sem (Nat×Nat))).run P w=.ok ps w /\
  ∀i:Nat,ps[i]?=pR P l i:=by
  intro l;induction l with
  |nil=>intro _;exact⟨[],by simp,by simp[pR]⟩
  |cons f l ih =>
   intro h;obtain⟨ps,h1,h2⟩:=ih (fun g hg=>h g (jAk _ hg));obtain⟨j,hj⟩:=Option.isSome_iff_exists.1 (h f (jAm ..));refine⟨(f.offset,j.size)::ps,?_,?_⟩
   .rw[jDi];simp only[Sem.run_bind,yM hj,Result.andThen_ok,Sem.run_pure,h1]
   .intro i;cases i with
    |zero=>simp[pR,hj]
    |succ i=>simpa[pR]using h2 i
 obtain⟨ps,h1,h2⟩:=key l hall';refine⟨ps.toArray,?_,fun i=>by simpa using h2 i⟩;rw[List.mapM_toArray];simp only[Sem.run_map,h1,Result.andThen_ok]
theorem zEa{o:Oper}{t:TypeId}{parts:Array (Nat×Operand)}{i:TypeInfo}{z:Value}{place:Nat->Option (Nat×Nat)}{ps:List (Nat×Nat×Operand)}(ho:o.op=.build t parts)
 (hi:P.info? t=some i)(hz:i.zero=some z)(hok:aY z.cells.toList=true)(hps:nQ place parts.toList=some ps)
 (hpl:(∃fs,P.underlying t=some (.struct fs)/\fs.all (fun f=>(P.info? f.type).isSome)=true/\place=pR P fs.toList) \/
  (∃n e j,P.underlying t=some (.array n e)/\P.info? e=some j/\place=fun i=>some (i*j.size,j.size)))
 (he:qL H L N env a.tmps){r:A}{p:Prop}(h:zW env U (.build o.dst z.cells.toList ps)=some (p,r)):bE P H L w a o r:=by
 simp only[zW,jAf,jBh]at h;obtain⟨cs,hcs,_,rfl⟩:=h;have hone:∀u∈z.cells.toList,one u:=fun u hu=>jB3.1 hok u hu
 obtain⟨arr,h1,h2,h3⟩:=zBO he place parts.toList ps _ z.cells cs hps hcs (dB _) hone;refine⟨.agg arr,?_,by simp only[Rel];exact⟨arr.toList,by simp,h2,h3⟩⟩;unfold execOp;simp only[ho];refine qS ?_;have hmap:(parts.map fun(i,x)=>(i,a.eval x)).toList=parts.toList.map fun(i,x)=>(i,a.eval x):=by simp
 unfold Instr.build;have hzr:(zeroValue t).run P w=.ok z w:=by simp[zeroValue,typeInfo,hi,hz]
 rcases hpl with ⟨fs,hu,hall,rfl⟩|⟨n,e,j,hu,hj,rfl⟩
 .obtain⟨pls,hm1,hm2⟩:=zKJ (w:=w) hall;have hfn:(fun i:Nat=>pls[i]?)=pR P fs.toList:=funext hm2;simp only[Sem.run_bind,hzr,Result.andThen_ok,run_underlying hu,hm1,hmap];rw[hfn,h1];rfl
 .simp only[Sem.run_bind,hzr,Result.andThen_ok,run_underlying hu,yM hj,hmap];rw[h1];rfl
end
end Go.Abs
namespace Go.Abs
section
variable{P:Program}{H:Mem}{L:wO} {U:St}{w:World}{N:Nat}{env:Env}{a:Act}
theorem zNg{o:Oper}{k:KOp}{p:Prop}{r:A}(hc:aB P o=some k)(h:zW env U k=some (p,r))(hp:p)(he:qL H L N env a.tmps)(hs:RelSt H L U w) :
 bE P H L w a o r:=by
 unfold aB at hc;split at hc
 case h_1 x heq=>cases hc;cases h;exact zHC (.inl heq) he
 case h_2 x heq=>cases hc;cases h;exact zHC (.inr heq) he
 case h_3 c x y heq =>
  cases hc;simp only[zW]at h;split at h<;>try(cases h;done)
  rename_i t hce;cases h;exact zMD heq he hce
 case h_4 e heq =>
  simp only[jAj,jAa]at hc;obtain⟨i,_,z,_,hc⟩:=hc;split at hc
  .cases hc;simp[zW]at h
  .cases hc
 case h_5 e x heq=>cases hc;simp[zW]at h
 case h_6 t x heq =>
  simp only[jAj,jAa,jA3]at hc;obtain⟨u,hu,i,hi,rfl⟩:=hc;simp only[zW,jAf,jBh]at h;obtain⟨r',hr,_,rfl⟩:=h;exact zSx heq hu hi he hs hr
 case h_7 t x y heq =>
  simp only[jAj,jAa,jA3]at hc;obtain⟨i,hi,rfl⟩:=hc;simp[zW]at h
 case h_8 s x f heq =>
  split at hc<;>try(cases hc;done)
  rename_i fs hfs;simp only[jAj,jAa]at hc;obtain⟨g,hg,i,hi,hc⟩:=hc;split at hc<;>try(cases hc;done)
  rename_i h0;cases hc;exact zMA heq hfs hg hi h0 he hs h
 case h_9 t x i heq =>
  split at hc<;>try(cases hc;done)
  .rename_i e hu;simp only[jAj,jAa,jA3]at hc;obtain⟨ti,hi,rfl⟩:=hc;exact zPA heq hu hi he hs h hp
  .rename_i n e hu;simp only[jAj,jAa,jA3]at hc;obtain⟨ti,hi,rfl⟩:=hc;exact zIO heq hu hi he h hp
 case h_10 t x f heq =>
  split at hc<;>try(cases hc;done)
  rename_i fs hfs;simp only[jAj,jAa,jA3]at hc;obtain⟨g,hg,u,hu,i,hi,rfl⟩:=hc;exact zP9 heq hfs hg hu hi he h
 case h_11 t x i heq =>
  split at hc<;>try(cases hc;done)
  rename_i n e hut;simp only[jAj,jAa,jA3]at hc;obtain⟨u,hu,j,hj,rfl⟩:=hc;exact zSw heq hut hu hj he h hp
 case h_12 op t x y t' heq =>
  split at hc<;>try(cases hc;done)
  all_goals try(cases hc;exact zP6 heq he h hp)
  .split at hc
   .rename_i k hk;cases hc;exact zH8 (ng:=false) heq hk he h
   .split at hc
    .rename_i hn;cases hc;exact zH9 (ng:=false) heq hn he h hp
    .rcases zBI hc with ⟨hn,rfl⟩|⟨ks,hk,rfl⟩
     .exact zHA (ng:=false) heq hn he h
     .rcases hk with hk|hk
      .exact zH7 (ng:=false) heq hk he h
      .exact zH6 (ng:=false) heq hk he h
  .split at hc
   .rename_i k hk;cases hc;exact zH8 (ng:=true) heq hk he h
   .split at hc
    .rename_i hn;cases hc;exact zH9 (ng:=true) heq hn he h hp
    .rcases zBI hc with ⟨hn,rfl⟩|⟨ks,hk,rfl⟩
     .exact zHA (ng:=true) heq hn he h
     .rcases hk with hk|hk
      .exact zH7 (ng:=true) heq hk he h
      .exact zH6 (ng:=true) heq hk he h
 case h_13 op t x heq =>
  split at hc<;>try(cases hc;done)
  .cases hc;exact zPD heq he h
  .cases hc;exact zPE heq he h
 case h_14 t i heq=>cases hc;exact zP8 heq he h
 case h_15 f first cap heq=>cases hc;cases h;exact zP7 heq he
 case h_16 t x lo hi mx heq =>
  split at hc<;>try(cases hc;done)
  rename_i e hu;simp only[jAj,jAa,jA3]at hc;obtain⟨i,hi,rfl⟩:=hc;exact zPF heq hu hi he h hp
 case h_17 t parts heq =>
  split at hc<;>try(cases hc;done)
  .rename_i fs hu;simp only[jAj,jAa]at hc;obtain⟨i,hi,z,hz,hc⟩:=hc;split at hc<;>try(cases hc;done)
   rename_i hb;simp only[jA8]at hb;simp only[jAa,jA3]at hc;obtain⟨ps,hps,rfl⟩:=hc;exact zEa heq hi hz hb.1 hps (.inl ⟨fs,hu,hb.2,rfl⟩) he h
  .rename_i n e hu;simp only[jAj,jAa]at hc;obtain⟨i,hi,z,hz,j,hj,hc⟩:=hc;split at hc<;>try(cases hc;done)
   rename_i hb;simp only[jAa,jA3]at hc;obtain⟨ps,hps,rfl⟩:=hc;exact zEa heq hi hz hb hps (.inr ⟨n,e,j,hu,hj,rfl⟩) he h
 case h_18 t len parts heq =>
  split at hc<;>try(cases hc;done)
  simp only[jAj,jAa]at hc;obtain⟨j,hj,z,hz,hc⟩:=hc;split at hc<;>try(cases hc;done)
  simp only[jAa,jA3]at hc;obtain⟨ps,hps,rfl⟩:=hc;simp[zW]at h
 case h_19 c heq =>
  split at hc
  .split at hc
   .split at hc
    .cases hc;simp[zW]at h
    .cases hc
   .cases hc;simp[zW]at h
   .cases hc
  .rename_i hcal;split at hc<;>try(cases hc;done)
   rename_i x t ha ht;split at hc<;>try(cases hc;done)
   .rename_i e hu;cases hc;exact zPB heq hcal ha ht hu he hs h
   .rename_i hu;cases hc;exact zMB heq hcal ha ht hu he h
  .split at hc<;>try(cases hc;done)
   simp only[jAf]at hc;obtain⟨nk,_,rfl⟩:=hc;simp[zW]at h
  .split at hc<;>try(cases hc;done)
   split at hc<;>try(cases hc;done)
   simp only[jAj,jAa]at hc;obtain⟨j,hj,z,hz,hc⟩:=hc;split at hc<;>try(cases hc;done)
   cases hc;simp[zW]at h
  .rename_i hcal;cases hc;exact zKx (mx:=true) heq hcal he h
  .rename_i hcal;cases hc;exact zKx (mx:=false) heq hcal he h
  .split at hc<;>try(cases hc;done)
   split at hc<;>try(cases hc;done)
   split at hc<;>try(cases hc;done)
   simp only[jAj,jAa]at hc;obtain⟨j,hj,z,hz,hc⟩:=hc;split at hc<;>try(cases hc;done)
   cases hc;simp[zW]at h
  .cases hc
 case h_20 x heq=>cases hc;exact zMC heq he h
 case h_21 t heq =>
  simp only[jAf]at hc;obtain⟨nk,_,rfl⟩:=hc;simp[zW]at h
 case h_22 t x k ok heq =>
  split at hc<;>try(cases hc;done)
  simp only[jAj,jAa,jA3]at hc;obtain⟨nk,_,j,_,z,_,rfl⟩:=hc;simp[zW]at h
 case h_23 t m k v heq =>
  simp only[jAf]at hc;obtain⟨nk,_,rfl⟩:=hc;simp[zW]at h
 case h_24 t x heq =>
  split at hc<;>try(cases hc;done)
  cases hc;simp[zW]at h
 case h_25 x heq=>cases hc;simp[zW]at h
 case h_26 x heq=>cases hc;simp[zW]at h
 case h_27 t x heq =>
  split at hc<;>try(cases hc;done)
  rename_i u hu;split at hc<;>try(cases hc;done)
  rename_i hn;cases hc;exact zPC heq hu hn he h
 case h_28=>cases hc;simp[zW]at h
 case h_29 t x y heq =>
  split at hc<;>try(cases hc;done)
  simp only[jAj,jAa]at hc;obtain⟨j,hj,z,hz,hc⟩:=hc;split at hc<;>try(cases hc;done)
  cases hc;simp[zW]at h
 case h_30 s d x heq =>
  split at hc<;>try(cases hc;done)
  .split at hc<;>try(cases hc;done)
   cases hc;simp[zW]at h
  .split at hc<;>try(cases hc;done)
   split at hc<;>try(cases hc;done)
   cases hc;simp[zW]at h
 case h_31 t m k v heq =>
  simp only[jAf]at hc;obtain⟨nk,_,rfl⟩:=hc;simp[zW]at h
 case h_32=>cases hc
structure Nxt(H:Mem)(L:List LI)(w:World)(H':Mem)(L':List LI) (U':St)(w':World):Prop where
 st:RelSt H' L' U' w'
 step:Step (zTe L) w H w' H'
 lle:LLe L L'
 own:∀b,zTe L' b->zTe L b\/w.heap.size<=b
theorem Nxt.refl(hs:RelSt H L U w):Nxt H L w H L U w:=⟨hs,Step.refl _ _ _,LLe.refl _,fun _ h=>.inl h⟩
variable{w':World}
theorem Nxt.trans{H' H'':Mem}{L' L'':wO} {U' U'':St}{w'':World}(h:Nxt H L w H' L' U' w')(k:Nxt H' L' w' H'' L'' U'' w''):Nxt H L w H'' L'' U'' w'' :=
 ⟨k.st,h.step.trans k.step h.own,h.lle.trans k.lle,fun b hb=>(k.own b hb).elim (h.own b) fun hb=>.inr (jAz h.step.size hb)⟩
theorem qB.carry{H':Mem}{L':wO}{li:LI}{o:AObj}(h:qB H L w li o)(hw:∀b,li.block=some b->w'.heap[b]?=w.heap[b]?)(hh:HLe H H')(hl:LLe L L')
 (hb:∀b,li.block=some b->∀o,H' b o=H b o):qB H' L' w' li o:=by
 cases o with
 |dead=>trivial
 |box cs =>
  simp only[qB]at h⊢;obtain⟨h0,b,vs,e,h1,h2,h3,h4,h5⟩:=h;exact⟨h0,b,vs,e,h1,by rw[hw b h1];exact h2,qE.mono hh hl _ h3,h4,fun o=>by rw[hb b h1];exact h5 o⟩
 |row fz e sz n cs =>
  simp only[qB]at h⊢;obtain⟨h0,h1,h2,h3⟩:=h;refine⟨h0,h1,h2,?_⟩;rcases h3 with h3|⟨b,cur,g1,g2,g3,g4,g5,g6,g7,g8⟩
  .exact .inl h3
  .refine .inr ⟨b,cur,g1,by rw[hw b g1];exact g2,g3,g4,g5,qE.mono hh hl _ g6,g7,?_⟩;cases fz with
   |false=>exact fun o=>by rw[hb b g1];exact g8 o
   |true=>exact⟨g8.1.mono hh,fun o ho=>by rw[hb b g1];exact g8.2 o ho⟩
 |lp b r M es =>
  simp only[qB]at h⊢;obtain⟨h0,h1,tmps,h2,h3,h4⟩:=h;exact⟨h0,h1,tmps,by rw[hw b h1];exact h2,h3,h4.mono hh hl⟩
 |mp fresh nk es =>
  simp only[qB]at h⊢;obtain⟨h0,b,ents,ck,h1,h2,h3,h4⟩:=h;exact⟨h0,b,ents,ck,h1,by rw[hw b h1];exact h2,h3.mono hh hl,h4⟩
 |it m n met =>
  simp only[qB]at h⊢;obtain⟨h0,b,mb,lm,h1,h2,h3,h4,h5⟩:=h;obtain⟨lm',e',hlm⟩:=hl _ _ h2;rcases hlm with rfl|⟨hr,_⟩|⟨hr,_⟩
  .exact⟨h0,b,mb,_,h1,e',h3,h4,by rw[hw b h1];exact h5⟩
  .rw[h4]at hr;cases hr
  .rw[h3]at hr;cases hr
 |rsv=>exact h
theorem zRR{w:World}{b:Nat}(hkeep:∀k,k≠b->w'.heap[k]?=w.heap[k]?)(hb:∀d,w.heap[b]?≠some (.deferred d))(k:Nat)(d:Option (List Deferred))(h:w.heap[k]?=some (.deferred d)):w'.heap[k]?=some (.deferred d):=by
 by_cases hk:k=b
 .subst hk;exact(hb d h).elim
 .rw[hkeep k hk];exact h
theorem pI{w:World}(hkeep:∀k,k<w.heap.size->w'.heap[k]?=w.heap[k]?)(k:Nat)(d:Option (List Deferred))(h:w.heap[k]?=some (.deferred d)):w'.heap[k]?=some (.deferred d):=by rw[hkeep k (jDc.1 h).1];exact h
theorem RelSt.heap_eq(h:RelSt H L U w)(hw:w'.heap=w.heap):RelSt H L U w':=by
 have hc:∀a,w'.cell? a=w.cell? a:=fun a=>by simp[World.cell?,hw]
 exact⟨fun b o v hv=>by rw[hc];exact h.pers b o v hv,h.len,fun i l o h1 h2=>(h.obj i l o h1 h2).carry (fun b _=>by rw[hw]) (HLe.refl _) (LLe.refl _) (fun _ _ _=>rfl),h.inj,
  fun i l b h1 h2=>by rw[hw];exact h.lt i l b h1 h2⟩
theorem RelSt.h_lt(h:RelSt H L U w){b o:Nat}{v:Value}(hv:H b o=some v):b<w.heap.size:=World.block_lt_of_cell? w _ (h.pers b o v hv)
def zGW(H:Mem)(B:Nat)(us:wM):Mem:=⟨fun b o=>match H b o with
 |some v=>some v
 |none=>if b=B then us[o]? else none,fun b o v h=>by simp only[H.2 b o v h]⟩
theorem tF{H:Mem}{B:Nat}{us:wM}(h:∀o v,H B o=some v->us[o]?=some v)(b o:Nat):zGW H B us b o=if b=B then us[o]? else H b o:=by
 simp only[zGW];cases hh:H b o with
 |some v =>
  simp only;split
  .rename_i e;subst e;rw[h o v hh]
  .rfl
 |none=>rfl
theorem RelSt.fresh(hs:RelSt H L U w)(us:wM):∀o v,H w.heap.size o=some v->us[o]?=some v:=fun o v hv=>by have:=hs.h_lt hv;omega
theorem zEi(hs:RelSt H L U w)(us:wM)(e:TypeId):Nxt H L w (zGW H w.heap.size us) L U (w.alloc (.cells us.toArray e))/\At (zGW H w.heap.size us) w.heap.size 0 us:=by
 have hA:=tF (hs.fresh us);have hle:HLe H (zGW H w.heap.size us):=fun b o v hv=>by have:=hs.h_lt hv;simp only[hA];rw[if_neg (by omega)];exact hv
 refine⟨⟨⟨fun b o v hv=>?_,hs.len,fun i l o h1 h2=>?_,hs.inj,fun i l b h1 h2=>?_⟩,⟨rfl,rfl,rfl,by simp,fun k hk _=>heap_alloc_old w _ (h:=hk),hle,fun b o v hv=>?_,jA _,pI (heap_alloc_old w _)⟩,LLe.refl _,fun b hb=>.inl hb⟩,?_⟩
 .simp only[hA]at hv;split at hv
  .rename_i hb;subst hb;rw[World.cell?_alloc_new]
   simpa using hv
  .rw[World.cell?_alloc_lt _ _ _ (hs.h_lt hv)];exact hs.pers b o v hv
 .refine(hs.obj i l o h1 h2).carry (fun b hb=>heap_alloc_old w _ (h:=hs.lt i l b h1 hb)) hle (LLe.refl _) (fun b hb o'=>?_);have:=hs.lt i l b h1 hb;simp only[hA];rw[if_neg (by omega)]
 .have:=hs.lt i l b h1 h2;simp;omega
 .simp only[hA]at hv;split at hv
  .rename_i hb;exact .inr (.inr (by omega))
  .exact .inl hv
 .intro i u hu;simp[hA,hu]
theorem zV2(hs:RelSt H L U w){cs:wF}{us:wM}(e:TypeId)(hr:qE H L cs us)(h1:∀u∈us,one u) :
 Nxt H L w H (L++[⟨some w.heap.size,0,0,false⟩]) (U++[.box cs]) (w.alloc (.cells us.toArray e)):=by
 have hll:=LLe.append L [⟨some w.heap.size,0,0,false⟩];have hget:∀{i:Nat} {l:LI},(L++[⟨some w.heap.size,0,0,false⟩])[i]?=some l->L[i]?=some l\/(i=L.length/\l=⟨some w.heap.size,0,0,false⟩):=by
  intro i l h;rcases jB2 i L.length with hi|hi
  .rw[jAp hi]at h;exact .inl h
  .rw[jB9 hi]at h;have h0:i-L.length=0:=by
    rcases Nat.eq_zero_or_pos (i-L.length)with h0|h0
    .exact h0
    .rw[jBf (by simp;omega)]at h;cases h
   rw[h0]at h;simp only[jB8,jA3]at h;exact .inr ⟨by omega,h.symm⟩
 refine⟨⟨fun b o v hv=>?_,by simp[hs.len],fun i l o hL hU=>?_,fun i j l l' b hi hj hb hb'=>?_,fun i l b hL hb=>?_⟩,⟨rfl,rfl,rfl,by simp,fun k hk _=>heap_alloc_old w _ (h:=hk),HLe.refl _,fun b o v hv=>.inl hv,jA _,pI (heap_alloc_old w _)⟩,hll,fun b ⟨i,l,hL,hb⟩=>?_⟩
 .rw[World.cell?_alloc_lt _ _ _ (hs.h_lt hv)];exact hs.pers b o v hv
 .rcases hget hL with hL'|⟨rfl,rfl⟩
  .have hi:i<L.length:=(jA5.1 hL').1;rw[jAp (by rw[<-hs.len];exact hi)]at hU;exact(hs.obj i l o hL' hU).carry (fun b hb=>heap_alloc_old w _ (h:=hs.lt i l b hL' hb)) (HLe.refl _) hll (fun _ _ _=>rfl)
  .rw[jB9 (by rw[hs.len];exact jA _)]at hU;simp only[hs.len,jBn,jB8,jA3]at hU;subst hU;simp only[qB];refine⟨trivial,w.heap.size,us,e,rfl,heap_alloc_new w _,qE.mono (HLe.refl _) hll _ hr,h1,fun o=>?_⟩;cases hH:H w.heap.size o with
   |none=>rfl
   |some v=>have:=hs.h_lt hH;omega
 .rcases hget hi with hi'|⟨rfl,rfl⟩
  .rcases hget hj with hj'|⟨rfl,rfl⟩
   .exact hs.inj i j l l' b hi' hj' hb hb'
   .have:=hs.lt i l b hi' hb;simp only[jA3]at hb';omega
  .rcases hget hj with hj'|⟨rfl,rfl⟩
   .have:=hs.lt j l' b hj' hb';simp only[jA3]at hb;omega
   .rfl
 .rcases hget hL with hL'|⟨rfl,rfl⟩
  .have:=hs.lt i l b hL' hb;simp;omega
  .simp only[jA3]at hb;simp;omega
 .rcases hget hL with hL'|⟨rfl,rfl⟩
  .exact .inl ⟨i,l,hL',hb⟩
  .simp only[jA3]at hb;exact .inr (by omega)
end
end Go.Abs
namespace Go.Abs
section
variable{P:Program}{H:Mem}{L:wO} {U:St}{w:World}{N:Nat}{env:Env}{a:Act}
theorem zAj(hs:RelSt H L U w){l:Nat}{li:LI}{b:Nat}{o:AObj}{H':Mem}{w':World}(hl:L[l]?=some li)(hb:li.block=some b)
 (hos:w'.os=w.os)(htape:w'.tape=w.tape)(hout:w'.output=w.output)(hdr:w'.drawn=w.drawn)(hnd:∀d,w.heap[b]?≠some (.deferred d))(hsz:w'.heap.size=w.heap.size)(hkeep:∀k,k≠b->w'.heap[k]?=w.heap[k]?)
 (hle:HLe H H')(hnew:∀b' o' v,H' b' o'=some v->H b' o'=some v\/b'=b)(hpers:∀o' v,H' b o'=some v->w'.cell? ⟨b,o',none⟩=some v)
 (ho:qB H' L w' li o):Nxt H L w H' L (U.set l o) w':=by
 have hne:∀(i:Nat) l' b',L[i]?=some l'->l'.block=some b'->i≠l->b'≠b:=fun i l' b' h1 h2 hi e=>hi (hs.inj i l l' li b' h1 hl h2 (by rw[hb,e]))
 refine⟨⟨fun b' o' v hv=>?_,by simp[hs.len],fun i l' o' hL hU=>?_,hs.inj,fun i l' b' h1 h2=>by rw[hsz];exact hs.lt i l' b' h1 h2⟩,
  ⟨hos,htape,hout,by rw[hsz];exact jA _,fun k _ hk=>hkeep k (fun e=>hk ⟨l,li,hl,by rw[hb,e]⟩),hle,fun b' o' v hv=>?_,by rw[hdr];exact jA _,zRR hkeep hnd⟩,LLe.refl _,fun _ h=>.inl h⟩
 .by_cases hbb:b'=b
  .subst hbb;exact hpers o' v hv
  .rcases hnew b' o' v hv with h1|h1
   .have:=hs.pers b' o' v h1;simp only[World.cell?]at this ⊢;rw[hkeep b' hbb];exact this
   .exact(hbb h1).elim
 .by_cases hi:i=l
  .subst hi;rw[hl]at hL;cases hL;rw[jAo (by rw[<-hs.len];exact(jA5.1 hl).1)]at hU;cases hU;exact ho
  .rw[jAh (Ne.symm hi)]at hU;refine(hs.obj i l' o' hL hU).carry (fun b' hb'=>hkeep b' (hne i l' b' hL hb' hi)) hle (LLe.refl _) (fun b' hb' o''=>?_);have hbne:=hne i l' b' hL hb' hi;cases h1:H b' o'' with
   |some v=>exact hle _ _ _ h1
   |none =>
    cases h2:H' b' o'' with
    |none=>rfl
    |some v =>
     rcases hnew b' o'' v h2 with h3|h3
     .rw[h1]at h3;cases h3
     .exact(hbne h3).elim
 .rcases hnew b' o' v hv with h1|h1
  .exact .inl h1
  .exact .inr (.inl ⟨l,li,hl,by rw[hb,h1]⟩)
def stA(U:St)(cs:wF):A->Option St
 | .ptr l off=>match U[l]? with
  |some (.box ds)=>if off+cs.length<=ds.length then some (U.set l (.box (ds.take off++cs++ds.drop (off+cs.length))))else none
  |_=>none
 | .rwp l m off=>match U[l]? with
  |some (.row false e sz k ds)=>if m=k/\off+cs.length<=ds.length then some (U.set l (.row false e sz k (ds.take off++cs++ds.drop (off+cs.length))))else none
  |_=>none
 |_=>none
variable{t:TypeId}{i:TypeInfo}
theorem zLp{x:Value}{b off:Nat}{e:TypeId}{cur:Array Value}(hi:P.info? t=some i)(hsz:x.cells.size=i.size)(h1:∀u∈x.cells.toList,one u)
 (hh:w.heap[b]?=some (.cells cur e (0,0)))(hfit:off+x.cells.size<=cur.size) :
 (Instr.storeAt t (.pointer (some ⟨b,off,none⟩)) x).run P w=.ok () (w.setRow b (cur.toList.take off++x.cells.toList++cur.toList.drop (off+x.cells.size)).toArray):=by
 have hst:=run_storeCells_at P b off e x.cells.toList 0 cur w hh (by simpa using hfit) h1;simp only[jCj,jB5]at hst;simp[Instr.storeAt,Instr.sureAddr,storeVar,yM hi,hsz,hst]
theorem zT5{o:Oper}{x v:Operand}{cs:wF} {U':St}(ho:o.op=.store t x v)(hi:P.info? t=some i)(he:qL H L N env a.tmps)(hs:RelSt H L U w)
 (hc:cellsOf (ev env v)=some cs)(hn:cs.length=i.size)(hst:stA U cs (ev env x)=some U') :
 ∃w',(execOp a.eval o).run P w=.ok .skip w'/\Nxt H L w H L U' w':=by
 obtain⟨g1,g2⟩:=xB (qR he v) hc;have hlen:=g1.length;have hx:=qR he x;have hsz:(a.eval v).cells.size=i.size:=by rw[<-jB5,hlen,hn]
 have fin:∀b off e cur,a.eval x=.pointer (some ⟨b,off,none⟩)->w.heap[b]?=some (.cells cur e (0,0))->off+(a.eval v).cells.size<=cur.size ->
  (execOp a.eval o).run P w=.ok .skip (w.setRow b (cur.toList.take off++(a.eval v).cells.toList++cur.toList.drop (off+(a.eval v).cells.size)).toArray):=by
  intro b off e cur hv hh hfit;unfold execOp;simp only[ho,hv,Sem.run_bind,zLp hi hsz g2 hh hfit,Result.andThen_ok,Sem.run_pure]
 unfold stA at hst;split at hst<;>try(cases hst;done)
 .rename_i l off hxe;split at hst<;>try(cases hst;done)
  rename_i ds hds;split at hst<;>try(cases hst;done)
  rename_i hfit;cases hst;rw[hxe]at hx;simp only[Rel]at hx;obtain⟨li,b,e1,e2,e3,hv⟩:=hx;have hob:=hs.obj l li _ e1 hds;simp only[qB]at hob;obtain⟨_,b',vs,e,hb',hh,hr,h1,hH⟩:=hob;rw[e2]at hb';cases hb';have hvl:=hr.length;refine⟨_,fin b off e _ hv hh (by simp only[jC7];omega),?_⟩;refine zAj hs e1 e2 rfl rfl rfl rfl (fun d=>by rw[hh];simp) (by simp) (fun k hk=>setRow_other w b k _ hk) (HLe.refl _) (fun _ _ _ h=>.inl h) (fun o' v hv=>by rw[hH]at hv;cases hv) ?_;simp only[qB];refine⟨e3,b,_,e,e2,setRow_heap w b _ _ e _ hh,?_,?_,hH⟩
  .rw[hsz,<-hn];exact((hr.take off).append g1).append (hr.drop _)
  .intro u hu;simp only[jA6]at hu;rcases hu with (hu|hu)|hu
   .exact h1 u (jBu hu)
   .exact g2 u hu
   .exact h1 u (jC1 hu)
 .rename_i l m off hxe;split at hst<;>try(cases hst;done)
  rename_i e sz k ds hds;split at hst<;>try(cases hst;done)
  rename_i hfit;obtain⟨rfl,hfit⟩:=hfit;cases hst;rw[hxe]at hx;simp only[Rel]at hx;obtain⟨_,li,e1,e2,e3,hv⟩:=hx;have hob:=hs.obj l li _ e1 hds;simp only[qB]at hob;obtain⟨_,hln,hcl,hob⟩:=hob;obtain⟨b,hb,hv⟩:=hv hln.symm;rcases hob with ⟨h0,_⟩|⟨b',cur,hb',hh,k1,k2,k3,k4,k5,k6⟩
  .rw[hb]at h0;cases h0
  .rw[hb]at hb';cases hb';have hmc:m*sz<=cur.size:=by rw[k3];exact jBl _ k1
   have hcs:off+(a.eval v).cells.size<=cur.size:=by rw[hsz,<-hn];omega
   refine⟨_,fin b off e _ hv hh hcs,?_⟩;refine zAj hs e1 hb rfl rfl rfl rfl (fun d=>by rw[hh];simp) (by simp) (fun k hk=>setRow_other w b k _ hk) (HLe.refl _) (fun _ _ _ h=>.inl h) (fun o' v hv=>by rw[k6]at hv;cases hv) ?_;have htake:(cur.toList.take off++(a.eval v).cells.toList++cur.toList.drop (off+(a.eval v).cells.size)).take (m*sz) =
    (cur.toList.take (m*sz)).take off++(a.eval v).cells.toList++(cur.toList.take (m*sz)).drop (off+(a.eval v).cells.size):=by
    have hl1:(cur.toList.take off++(a.eval v).cells.toList).length=off+(a.eval v).cells.size:=by simp;omega
    have hle2:off+(a.eval v).cells.size<=m*sz:=by rw[hsz,<-hn,<-hcl];exact hfit
    rw[List.take_append,hl1,jAl (by rw[hl1];exact hle2),List.take_take,jAx (by omega),List.drop_take]
   simp only[qB];refine⟨e2,hln,by simp;omega,.inr ⟨b,_,hb,setRow_heap w b _ _ e _ hh,k1,k2,by simp;omega,?_,?_,k6⟩⟩
   .rw[htake,hsz,<-hn];exact((k4.take off).append g1).append (k4.drop _)
   .rw[htake];intro u hu;simp only[jA6]at hu;rcases hu with (hu|hu)|hu
    .exact k5 u (jBu hu)
    .exact g2 u hu
    .exact k5 u (jC1 hu)
end
end Go.Abs
namespace Go.Abs
section
variable{P:Program}{H:Mem}{L:wO} {U:St}{w:World}{N:Nat}{env:Env}{a:Act}
theorem tN{l:Nat}{li li':LI}(hl:L[l]?=some li)(h1:li.isRow=true)(h2:li'.isRow=true)(h3:li.len<li'.len):LLe L (L.set l li'):=by
 intro i x hx;by_cases hi:i=l
 .subst hi;rw[hl]at hx;cases hx;exact⟨li',by rw[jAo (jA5.1 hl).1],.inr (.inl ⟨h1,h2,h3⟩)⟩
 .exact⟨x,by rw[jAh (Ne.symm hi)];exact hx,.inl rfl⟩
theorem zCm(hs:RelSt H L U w){l:Nat}{li li':LI}{b:Nat}{o:AObj}{H':Mem}{w':World}(hl:L[l]?=some li)(h1:li.isRow=true)(h2:li'.isRow=true)(h3:li.len<li'.len)
 (hb:li'.block=some b)(hold:li.block=some b\/w.heap.size<=b)(hlt:b<w'.heap.size)
 (hos:w'.os=w.os)(htape:w'.tape=w.tape)(hout:w'.output=w.output)(hdr:w.drawn<=w'.drawn)(hnd:∀d,w.heap[b]?≠some (.deferred d))(hsz:w.heap.size<=w'.heap.size)(hkeep:∀k,k<w.heap.size->k≠b->w'.heap[k]?=w.heap[k]?)
 (hle:HLe H H')(hnew:∀b' o' v,H' b' o'=some v->H b' o'=some v\/b'=b)(hpers:∀o' v,H' b o'=some v->w'.cell? ⟨b,o',none⟩=some v)
 (ho:qB H' (L.set l li') w' li' o):Nxt H L w H' (L.set l li') (U.set l o) w':=by
 have hll:=tN (li':=li') hl h1 h2 h3;have hll1:l<L.length:=(jA5.1 hl).1;have hget:∀{i:Nat} {x:LI},(L.set l li')[i]?=some x->(i=l/\x=li')\/(i≠l/\L[i]?=some x):=by
  intro i x hx;by_cases hi:i=l
  .subst hi;rw[jAo hll1]at hx;cases hx;exact .inl ⟨rfl,rfl⟩
  .rw[jAh (Ne.symm hi)]at hx;exact .inr ⟨hi,hx⟩
 have hne:∀(i:Nat) l' b',L[i]?=some l'->l'.block=some b'->i≠l->b'≠b:=fun i l' b' g1 g2 hi e=>by
  rcases hold with h|h
  .exact hi (hs.inj i l l' li b' g1 hl g2 (by rw[h,e]))
  .have:=hs.lt i l' b' g1 g2;omega
 refine⟨⟨fun b' o' v hv=>?_,by simp[hs.len],fun i l' o' hL hU=>?_,fun i j x y b' hi hj hx hy=>?_,fun i x b' hi hx=>?_⟩,
  ⟨hos,htape,hout,hsz,fun k hk hn=>hkeep k hk (fun e=>?_),hle,fun b' o' v hv=>?_,hdr,fun k d hk=>by
   have hks:=(jDc.1 hk).1;by_cases hkb:k=b
   .subst hkb;exact(hnd d hk).elim
   .rw[hkeep k hks hkb];exact hk⟩,hll,fun b' ⟨i,x,hi,hx⟩=>?_⟩
 .by_cases hbb:b'=b
  .subst hbb;exact hpers o' v hv
  .rcases hnew b' o' v hv with g|g
   .have hc:=hs.pers b' o' v g;have hlt':=hs.h_lt g;simp only[World.cell?]at hc ⊢;rw[hkeep b' hlt' hbb];exact hc
   .exact(hbb g).elim
 .rcases hget hL with ⟨rfl,rfl⟩|⟨hi,hL'⟩
  .rw[jAo (by rw[<-hs.len];exact hll1)]at hU;cases hU;exact ho
  .rw[jAh (Ne.symm hi)]at hU;refine(hs.obj i l' o' hL' hU).carry (fun b' hb'=>hkeep b' (hs.lt i l' b' hL' hb') (hne i l' b' hL' hb' hi)) hle hll (fun b' hb' o''=>?_);have hbne:=hne i l' b' hL' hb' hi;cases g1:H b' o'' with
   |some v=>exact hle _ _ _ g1
   |none =>
    cases g2:H' b' o'' with
    |none=>rfl
    |some v =>
     rcases hnew b' o'' v g2 with g3|g3
     .rw[g1]at g3;cases g3
     .exact(hbne g3).elim
 .rcases hget hi with ⟨rfl,rfl⟩|⟨hi',hi''⟩
  .rcases hget hj with ⟨rfl,rfl⟩|⟨hj',hj''⟩
   .rfl
   .rw[hb]at hx;cases hx;exact(hne j y b hj'' hy hj' rfl).elim
  .rcases hget hj with ⟨rfl,rfl⟩|⟨hj',hj''⟩
   .rw[hb]at hy;cases hy;exact(hne i x b hi'' hx hi' rfl).elim
   .exact hs.inj i j x y b' hi'' hj'' hx hy
 .rcases hget hi with ⟨rfl,rfl⟩|⟨hi',hi''⟩
  .rw[hb]at hx;cases hx;exact hlt
  .exact jCb (hs.lt i x b' hi'' hx) hsz
 .subst e;rcases hold with h|h
  .exact hn ⟨l,li,hl,h⟩
  .omega
 .rcases hnew b' o' v hv with g|g
  .exact .inl g
  .subst g;rcases hold with h|h
   .exact .inr (.inl ⟨l,li,hl,h⟩)
   .exact .inr (.inr h)
 .rcases hget hi with ⟨rfl,rfl⟩|⟨hi',hi''⟩
  .rw[hb]at hx;cases hx;rcases hold with h|h
   .exact .inl ⟨_,li,hl,h⟩
   .exact .inr h
  .exact .inl ⟨i,x,hi'',hx⟩
def fJ(U:St)(sz:Nat):A->Option (Nat×wF)
 | .nil=>some (0,[])
 | .sl m cs=>some (m,cs)
 | .fsl m cs=>some (m,cs)
 | .row l n=>match U[l]? with
  |some (.row _ _ s m cs)=>if n=m/\s=sz then some (m,cs)else none
  |_=>none
 |_=>none
theorem x5(hs:RelSt H L U w){x:A}{v:Value}{sz m:Nat}{cs:wF}(hx:Rel H L x v)(h:fJ U sz x=some (m,cs))(hlen:cs.length=m*sz)(hsz:0<sz) :
 ∃ad cap,v=.slice ad m cap/\(m=0\/∃b o,∃us:wM,ad=some ⟨b,o,none⟩/\qE H L cs us/\us.length=m*sz/\(∀u∈us,one u)/\∀j u,us[j]?=some u->w.cell? ((⟨b,o,none⟩:Addr).add j)=some u):=by
 cases x<;>simp only[fJ]at h<;>try(cases h;done)
 case nil =>
  cases h;simp only[Rel]at hx;exact⟨_,_,hx,.inl rfl⟩
 case sl n ds =>
  cases h;simp only[Rel]at hx;obtain⟨ad,cap,hv,_,_,h3⟩:=hx;refine⟨ad,cap,hv,?_⟩;rcases h3 with ⟨h3,_⟩|⟨b,o,us,rfl,g1,g2,g3⟩
  .exact .inl h3
  .exact .inr ⟨b,o,us,rfl,g1,by rw[g1.length,hlen],g2,fun j u hu=>by rw[Addr.add_lit];exact hs.pers _ _ _ (g3 j u hu)⟩
 case fsl n ds =>
  cases h;simp only[Rel]at hx;obtain⟨ad,hv,_,h3⟩:=hx;refine⟨ad,_,hv,?_⟩;rcases h3 with ⟨h3,_⟩|⟨b,o,us,rfl,g1,g2,g3⟩
  .exact .inl h3
  .exact .inr ⟨b,o,us,rfl,g1,by rw[g1.length,hlen],g2,fun j u hu=>by rw[Addr.add_lit];exact hs.pers _ _ _ (g3 j u hu)⟩
 case row l n =>
  split at h<;>try(cases h;done)
  rename_i fz e s k ds hds;split at h<;>try(cases h;done)
  rename_i hn;obtain⟨rfl,rfl⟩:=hn;cases h;simp only[Rel]at hx;obtain⟨_,li,e1,e2,e3,hv⟩:=hx;have hob:=hs.obj l li _ e1 hds;simp only[qB]at hob;obtain⟨_,hln,hcl,hob⟩:=hob;have hv:=hv hln.symm;rcases hob with ⟨h0,h00⟩|⟨b,cur,hb,hh,k1,k2,k3,k4,k5,_⟩
  .rw[h0]at hv;exact⟨none,0,by rw[hv,h00],.inl h00⟩
  .rw[hb]at hv;refine⟨_,_,hv,.inr ⟨b,0,_,rfl,k4,?_,k5,fun j u hu=>?_⟩⟩
   .simp only[jAv,jB5];rw[k3];exact jAx (jBl _ k1)
   .rw[Addr.add_lit,cell_of_row w b _ cur e (0,0) hh];rw[jBg]at hu;split at hu
    .simpa using hu
    .cases hu
variable{t ty e:TypeId}{i:TypeInfo}
theorem mY(ht:P.underlying t=some (.slice e))(hi:P.info? e=some i)(base:Option Addr)(n cap:Nat)(hc:n<=cap)(ad:Option Addr)(c:Nat) :
 (Builtin.append_ #[t,t] ty #[.slice base n cap,.slice ad 0 c]).run P w=.ok (.slice base n cap) w:=by
 have hf:(Builtin.firstCells i.size 0 (.slice ad 0 c)).run P w=.ok #[] w:=by
  cases ad with
  |none=>simp[Builtin.firstCells]
  |some a=>exact run_firstCells_some (P:=P) w i.size 0 a 0 c [] (by simp) (by simp)
 cases base<;>simp[Builtin.append_,run_underlying ht,sizeOf,typeInfo,hi,Builtin.lenOf,hc,hf,storeCells]
def zAu(H:Mem)(fz:Bool)(b:Nat)(us:wM):Mem:=if fz then zGW H b us else H
theorem zNL{z:Value}(ht:P.underlying t=some (.slice e))(hi:P.info? e=some i)(hz:i.zero=some z)(hzc:aY z.cells.toList=true)(hzs:z.cells.size=i.size)(hsz:0<i.size)
 (hs:RelSt H L U w){l n:Nat}{fz:Bool}{cs:wF}{s y:Value}(hU:U[l]?=some (.row fz e i.size n cs))(hx:Rel H L (.row l n) s)
 {ya:A}{m:Nat}{ys:wF}(hy:Rel H L ya y)(hye:fJ U i.size ya=some (m,ys))(hyl:ys.length=m*i.size)
 (hm:n+m<=maxLen)(hby:(n+m)*i.bytes<=140737488355328) :
 ∃v' w' H' L',(Builtin.append_ #[t,t] ty #[s,y]).run P w=.ok v' w'/\Nxt H L w H' L' (U.set l (.row fz e i.size (n+m) (cs++ys))) w'/\HLe H H'/\Rel H' L' (.row l (n+m)) v':=by
 obtain⟨ad,c,rfl,hels⟩:=x5 hs hy hye hyl hsz;have hx0:=hx;simp only[Rel]at hx;obtain⟨hs1,li,e1,e2,e3,hv⟩:=hx;have hob:=hs.obj l li _ e1 hU;have hob0:=hob;simp only[qB]at hob;obtain⟨_,hln,hcl,hob⟩:=hob;have hv:=hv hln.symm;have hlU : l < U.length:=(jA5.1 hU).1;have hlL:l<L.length:=(jA5.1 e1).1;by_cases hm0:m=0
 .subst hm0;have hys:ys=[]:=jBx (by simpa using hyl);subst hys;have hset : U.set l (.row fz e i.size (n+0) (cs++[])) = U:=by
   simp only[jCj,jAt];apply jCi;intro j;by_cases hj:j=l
   .subst hj;rw[jAo hlU,hU]
   .rw[jAh (Ne.symm hj)]
  refine⟨s,w,H,L,?_,by rw[hset];exact Nxt.refl hs,HLe.refl _,hx0⟩;rw[hv];cases hb:li.block with
  |none=>exact mY ht hi none 0 0 (jA _) ad c
  |some b =>
   rcases hob with ⟨h0,_⟩|⟨b',cur,hb',hh,k1,_⟩
   .rw[hb]at h0;cases h0
   .exact mY ht hi _ n _ k1 ad c
 .rcases hels with h0|⟨yb,yo,us,rfl,g1,g2,g3,g4⟩
  .exact(hm0 h0).elim
  .have hone:∀u∈us,u.oneCell'=true:=g3;have hsm:n+m<=9223372036854775807:=by simp only[maxLen]at hm;omega
   have fresh:∀(olds:wM) (old:Nat),qE H L cs olds->(∀u∈olds,one u)->olds.length=n*i.size->old<n+m ->
    (Builtin.append_ #[t,t] ty #[s,.slice (some ⟨yb,yo,none⟩) m c]).run P w=.ok (.slice (some ⟨w.heap.size,0,none⟩) (n+m) (grownCap w (n+m) old e))
     (w.drew.alloc (.cells (olds.toArray++us.toArray++Builtin.zeroCells z.cells (grownCap w (n+m) old e-(n+m))) e)) ->
    ∃v' w' H' L',(Builtin.append_ #[t,t] ty #[s,.slice (some ⟨yb,yo,none⟩) m c]).run P w=.ok v' w'/\Nxt H L w H' L' (U.set l (.row fz e i.size (n+m) (cs++ys))) w'/\HLe H H'/\Rel H' L' (.row l (n+m)) v':=by
    intro olds old ho1 ho2 ho3 ho4 hrun;have hge:=grownCap_ge w (n+m) old e;have hcm:grownCap w (n+m) old e<=maxLen:=grownCap_le_maxLen w (n+m) old e hm;have hpl:(olds++us).length=(n+m)*i.size:=by rw[jA4,ho3,g2,jB7]
    have hcur:(olds.toArray++us.toArray++Builtin.zeroCells z.cells (grownCap w (n+m) old e-(n+m))).toList.take ((n+m)*i.size)=olds++us:=by simp only[Array.toList_append,jAq];rw[<-jAq,<-hpl];exact List.take_left
    have hA:=tF (hs.fresh (olds++us));have hle:HLe H (zAu H fz w.heap.size (olds++us)):=by
     cases fz
     .exact HLe.refl _
     .intro b o v hv';have:=hs.h_lt hv';simp only[zAu,if_true,hA];rw[if_neg (by omega)];exact hv'
    have hnx:Nxt H L w (zAu H fz w.heap.size (olds++us)) (L.set l ⟨some w.heap.size,grownCap w (n+m) old e,n+m,true⟩) (U.set l (.row fz e i.size (n+m) (cs++ys)))
     (w.drew.alloc (.cells (olds.toArray++us.toArray++Builtin.zeroCells z.cells (grownCap w (n+m) old e-(n+m))) e)):=by
     have hnone:∀o,H w.heap.size o=none:=fun o=>by
      cases hH:H w.heap.size o with
      |none=>rfl
      |some v=>have:=hs.h_lt hH;omega
     have hheap:(w.drew.alloc (.cells (olds.toArray++us.toArray++Builtin.zeroCells z.cells (grownCap w (n+m) old e-(n+m))) e)).heap[w.heap.size]?=some (.cells (olds.toArray++us.toArray++Builtin.zeroCells z.cells (grownCap w (n+m) old e-(n+m))) e (0,0)):=heap_alloc_new w.drew _;refine zCm hs e1 e2 rfl (by simp only;omega) rfl (.inr (jA _)) (by simp) rfl rfl rfl (jCf _) (fun d=>by simp) (by simp) (fun k hk _=>heap_alloc_old w.drew _ (h:=hk)) hle (fun b' o' v hv'=>?_) (fun o' v hv'=>?_) ?_
     .cases fz
      .exact .inl hv'
      .simp only[zAu,if_true,hA]at hv';split at hv'
       .rename_i hbb;exact .inr hbb
       .exact .inl hv'
     .cases fz
      .simp only[zAu]at hv';rw[if_neg (by simp),hnone]at hv';cases hv'
      .simp only[zAu,if_true,hA]at hv';rw[cell_of_row _ _ _ _ _ _ hheap];rw[<-hcur,jBg]at hv';split at hv'
       .rw[<-jD0];exact hv'
       .cases hv'
     .have hll:=tN (li':=⟨some w.heap.size,grownCap w (n+m) old e,n+m,true⟩) e1 e2 rfl (by simp only;omega);simp only[qB];refine⟨trivial,trivial,by rw[jA4,hcl,hyl,jB7],.inr ⟨w.heap.size,_,rfl,hheap,hge,hcm,?_,?_,?_,?_⟩⟩
      .simp only[Array.size_append,jC7,size_zeroCells,hzs,ho3,g2,<-jB7]
       congr 1
       omega
      .rw[hcur];exact qE.mono hle hll _ (ho1.append g1)
      .rw[hcur];intro u hu;rcases jA6.1 hu with hu|hu
       .exact ho2 u hu
       .exact g3 u hu
      .rw[hcur];cases fz
       .exact hnone
       .refine⟨fun j u hu=>by simp[zAu,hA,hu],fun o ho=>?_⟩;simp only[zAu,if_true,hA];exact jBf (by rw[hpl];exact ho)
    refine⟨_,_,_,_,hrun,hnx,hle,?_⟩;simp only[Rel];exact⟨rfl,_,jAo hlL,rfl,jA _,fun _=>rfl⟩
   rcases hob with ⟨h0,rfl⟩|⟨b,cur,hb,hh,k1,k2,k3,k4,k5,k6⟩
   .rw[h0]at hv;have hcs:cs=[]:=jBx (by simpa using hcl);subst hcs;subst hv;have hr:=run_append_nil (P:=P) w t ty e i z ht hi hz ⟨yb,yo,none⟩ m c us g2 g4 (by omega) (by omega) (by simp only[jB1]at hby;omega);refine fresh [] 0 jR (by simp) (by simp) (by omega) ?_
    simpa using hr
   .rw[hb]at hv;simp only at hv;by_cases hroom:n+m<=li.cap
    .have hfit:n*i.size+us.length<=cur.size:=by rw[g2,k3,<-jB7];exact jBl _ hroom
     have hr:=run_append_room (P:=P) w t ty e i ht hi b n li.cap cur hh ⟨yb,yo,none⟩ m c us g2 g4 hone hroom hfit;have hpl:(cur.toList.take (n*i.size)++us).length=(n+m)*i.size:=by rw[jA4,g2,jB7,jAv,jB5,jAx (by omega)]
     have hcur:(cur.toList.take (n*i.size)++us++cur.toList.drop (n*i.size+us.length)).take ((n+m)*i.size)=cur.toList.take (n*i.size)++us:=by rw[<-hpl];exact List.take_left
     have hheap:=setRow_heap w b cur (cur.toList.take (n*i.size)++us++cur.toList.drop (n*i.size+us.length)).toArray e (0,0) hh;have hsame:∀o v,H b o=some v->(cur.toList.take (n*i.size)++us)[o]?=some v:=fun o v hv'=>by
      cases fz
      .simp only at k6;rw[k6]at hv';cases hv'
      .simp only at k6;have ho:o<n*i.size:=by
        rcases jB2 o (n*i.size)with h|h
        .exact h
        .rw[k6.2 o h]at hv';cases hv'
       have hlt:o<(cur.toList.take (n*i.size)).length:=by rw[jAv,jB5,jAx (by omega)];exact ho
       rw[jAp hlt];have:=k6.1 o _ (jA2 hlt);rw[jB1,hv']at this;rw[jA2 hlt];exact this.symm
     have hA:=tF hsame;have hle:HLe H (zAu H fz b (cur.toList.take (n*i.size)++us)):=by
      cases fz
      .exact HLe.refl _
      .intro b' o v hv';simp only[zAu,if_true,hA];split
       .rename_i hbb;subst hbb;simp only at k6;have ho:o<n*i.size:=by
         rcases jB2 o (n*i.size)with h|h
         .exact h
         .rw[k6.2 o h]at hv';cases hv'
        have hlt:o<(cur.toList.take (n*i.size)).length:=by rw[jAv,jB5,jAx (by omega)];exact ho
        rw[jAp hlt];have:=k6.1 o _ (jA2 hlt);rw[jB1,hv']at this;rw[jA2 hlt];exact this.symm
       .exact hv'
     have hnx:Nxt H L w (zAu H fz b (cur.toList.take (n*i.size)++us)) (L.set l ⟨some b,li.cap,n+m,true⟩) (U.set l (.row fz e i.size (n+m) (cs++ys)))
      (w.setRow b (cur.toList.take (n*i.size)++us++cur.toList.drop (n*i.size+us.length)).toArray):=by
      refine zCm hs e1 e2 rfl (by simp only;omega) rfl (.inl hb) (by simp;exact hs.lt l li b e1 hb) rfl rfl rfl (jA _) (fun d=>by rw[hh];simp) (by simp) (fun k _ hk=>setRow_other w b k _ hk) hle (fun b' o' v hv'=>?_) (fun o' v hv'=>?_) ?_
      .cases fz
       .exact .inl hv'
       .simp only[zAu,if_true,hA]at hv';split at hv'
        .rename_i hbb;exact .inr hbb
        .exact .inl hv'
      .cases fz
       .simp only[zAu]at hv';rw[if_neg (by simp)]at hv';simp only at k6;rw[k6]at hv';cases hv'
       .simp only[zAu,if_true,hA]at hv';rw[cell_of_row _ _ _ _ _ _ hheap];rw[<-hcur,jBg]at hv';split at hv'
        .simpa using hv'
        .cases hv'
      .have hll:=tN (li':=⟨some b,li.cap,n+m,true⟩) e1 e2 rfl (by simp only;omega);simp only[qB];refine⟨trivial,trivial,by rw[jA4,hcl,hyl,jB7],.inr ⟨b,_,rfl,hheap,hroom,k2,?_,?_,?_,?_⟩⟩
       .simp only[jC7,jA4,jAv,jCk,jB5];omega
       .rw[hcur];exact qE.mono hle hll _ (k4.append g1)
       .rw[hcur];intro u hu;rcases jA6.1 hu with hu|hu
        .exact k5 u hu
        .exact g3 u hu
       .rw[hcur];cases fz
        .exact k6
        .refine⟨fun j u hu=>by simp[zAu,hA,hu],fun o ho=>?_⟩;simp only[zAu,if_true,hA];exact jBf (by rw[hpl];exact ho)
     refine⟨_,_,_,_,by rw[hv];exact hr,hnx,hle,?_⟩;simp only[Rel];exact⟨rfl,_,jAo hlL,rfl,jA _,fun _=>rfl⟩
    .have hr:=run_append_grow (P:=P) w t ty e i z ht hi hz ⟨b,0,none⟩ n li.cap (cur.toList.take (n*i.size)) (by rw[jAv,jB5,k3];exact jAx (jBl _ k1))
      (fun j u hu=>by
       rw[Addr.add_lit,cell_of_row w b _ cur e (0,0) hh];rw[jBg]at hu;split at hu
       .simpa using hu
       .cases hu) ⟨yb,yo,none⟩ m c us g2 g4 (by omega) (by omega) (growslice_fits (by omega) hby)
     refine fresh (cur.toList.take (n*i.size)) li.cap k4 k5 (by rw[jAv,jB5,k3];exact jAx (jBl _ k1)) (by omega) ?_;rw[hv];exact hr
end
end Go.Abs

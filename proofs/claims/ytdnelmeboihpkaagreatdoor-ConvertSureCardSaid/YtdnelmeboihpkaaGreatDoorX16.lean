/-
  The maker's programs: their definitions have IDs of their own, their bodies have types, their types have few levels.
  Runs: what each step keeps; where the first failure is.
  The generator of programs of records and converters, as data: its programs are sound.
  The law's calls: a definition with a body, and arguments made of numbers.
  The definitions that types reach: met one by one, or in rounds.
  Programs of flat records: evaluation ends, or the fuel does; nothing gets too large.
  trace: notes, and the definitions that types reach.
  trace: environments as maps.
  trace: branches.
  trace: bodies, values, nodes.
  eval: nodes in order, bodies.
  trace: nodes.
  The reference's tracer: lists of nodes, bodies.
  eval: branches.
  trace.Call.
  The reference's evaluator: lists of nodes, bodies.
  The reference's tracer: values.
  The reference: the names in types, and what they reach.
-/
import Derived.Test.YtdnelmeboihpkaaGreatDoorX15
import Derived.Test.YtdnelmeboihpkaaGreatDoorX14
import Derived.Test.YtdnelmeboihpkaaGreatDoorX13
set_option linter.unusedVariables false
set_option maxHeartbeats 8000000
set_option maxRecDepth 100000
set_option linter.unusedSimpArgs false
open Go.Proofs.Tryz (prog)
namespace Go.Proofs.YtdnelmeboihpkaaGreatDoor
open Go.Abs
def zUs (f:Int→Id)(x:Id):Id:=if x.b=0 then f x.c else x
def qOV (f:Int→Id)(b:Bnd):Bnd:={b with id:=zUs f b.id}
def qMJ (f:Int→Id)(env:List Bnd):Prop:=∀b∈env,∀b'∈env,zUs f b.id=zUs f b'.id→b.id=b'.id
theorem zNf:∀l:List Exp,l.length≤(zIp l).length
 | []=>by simp
 | e::l=>by
  have:=zNf l;have h1:1≤(tmps e).length:=by rw[zXi]; simp
  simp only[jAl,zIp,jA7];omega
theorem zLz:∀{l:List Exp} {e:Exp},e∈l→(tmps e).Sublist (zIp l)
 | x::l,e,h=>by
  simp only[zIp];rcases jA6.1 h with rfl | h
  ·exact List.sublist_append_left _ _
  ·exact(zLz h).trans (List.sublist_append_right _ _)
structure Frs (f:Int→Id)(env:List Bnd)(e:Exp):Prop where
 nd:(tmps e).Nodup
 num:e.num0
 inj:∀c∈tmps e,∀c'∈tmps e,f c=f c'→c=c'
 new:∀b∈env,∀c∈tmps e,zUs f b.id≠f c
 len:(tmps e).length≤32768
 ib:qMJ f env
section
variable {f:Int→Id}{env:List Bnd}{i:Id}{k n:Int}{r:Id}{u:Typ}{ks:List Exp}{ns:List ByteArray}
theorem Frs.id (h:Frs f env (.mk i k n r u ks ns)):i=⟨0,0,i.c⟩:=by obtain⟨a,b,c⟩:=i;have:=h.num;simp only[Exp.num0]at this;simp[this.1.1,this.1.2]
theorem Frs.kid (h:Frs f env (.mk i k n r u ks ns)){e:Exp}(he:e∈ks):Frs f env e:=by
 obtain⟨h1,h2,h3,h4,h5,h6⟩:=h;simp only[tmps]at h1 h3 h4 h5;simp only[Exp.num0,zMK]at h2;have hs:=zLz he;have hm:∀c∈tmps e,c∈zIp ks++[i.c]:=fun c hc=>jBh _ (hs.subset hc)
 exact⟨(jCk.1 h1).1.sublist hs,h2.2 e he,fun c hc c' hc'=>h3 c (hm c hc) c' (hm c' hc'),fun b hb c hc=>h4 b hb c (hm c hc),by
  have:=hs.length_le;rw[jA7]at h5;omega,h6⟩
theorem Frs.push (h:Frs f env (.mk i k n r u ks ns)){e:Exp}(he:e∈ks)(m:Int)(t:Typ){env':List Bnd}(hb:env'=env∨∃m' t',env'=env++[⟨i,m',t'⟩]):Frs f (env'++[⟨i,m,t⟩]) e:=by
 have hk:=h.kid he;have hi:=h.id;obtain⟨h1,h2,h3,h4,h5,h6⟩:=h;simp only[tmps]at h1 h3 h4;have hic:i.c∈zIp ks++[i.c]:=by simp
 have hri:zUs f i=f i.c:=by unfold zUs; rw[if_pos (by rw[hi])]
 have hmem:∀b∈env'++[(⟨i,m,t⟩:Bnd)],b∈env∨b.id=i:=by
  intro b hb';rcases jAj.1 hb' with hb' | hb'
  ·rcases hb with rfl | ⟨m',t',rfl⟩
   ·exact .inl hb'
   ·rcases jAj.1 hb' with hb' | hb'
    ·exact .inl hb'
    ·rw[jAp.1 hb']; exact .inr rfl
  ·rw[jAp.1 hb']; exact .inr rfl
 refine⟨hk.nd,hk.num,hk.inj,fun b hb' c hc=>?_,hk.len,fun b hb1 b' hb2 e=>?_⟩
 ·rcases hmem b hb' with h' | h'
  ·exact hk.new b h' c hc
  ·rw[h',hri];intro e;have hc':=(zLz he).subset hc;have:=h3 i.c hic c (jBh _ hc') e;exact(jCk.1 h1).2.2 c hc' i.c (by simp) this.symm
 ·rcases hmem b hb1 with h' | h'<;>rcases hmem b' hb2 with h'' | h''
  ·exact h6 b h' b' h'' e
  ·rw[h'',hri]at e;exact(h4 b h' i.c hic e).elim
  ·rw[h',hri]at e;exact(h4 b' h'' i.c hic e.symm).elim
  ·rw[h',h'']
theorem Frs.fresh (h:Frs f env (.mk i k n r u ks ns)):∀x∈env.map (qOV f),x.id≠f i.c:=by intro x hx;obtain⟨b,hb,rfl⟩:=jAg.1 hx;exact h.new b hb i.c (by simp[tmps])
theorem Frs.kids (h:Frs f env (.mk i k n r u ks ns)):(ks.map (qJv f)).length≤32768:=by have h1:=h.len;have h2:=zNf ks;simp only[tmps,jA7]at h1;rw[jB4];omega
end
def qAW (P:Prg)(hs:List Hd):Prop:=∀(k:Nat) (h:k<hs.length),∃d,qW P.defs hs[k].id=some d∧d.hd=hs[k]
theorem zGw:∀{ds:List Dfn} (_:ds.Pairwise fun a b=>a.id≠b.id) {k:Nat} (hk:k<ds.length),qW ds ds[k].id=some ds[k]
 | d::ds,h,0,_=>by rw[zHi]; simp
 | d::ds,h,k+1,hk=>by
  rw[jBy]at h;have hk':k<ds.length:=by simpa using hk
  rw[zHi];have:=h.1 ds[k] (jA3 hk');simp only[jD9];rw[if_neg this];exact zGw h.2 hk'
structure Fit (P:Prg)(hs:List Hd):Prop where
 heads:P.defs.map Dfn.hd=hs
 len8:P.defs.length≤100
 nd:P.defs.Pairwise fun a b=>a.id≠b.id
 slots:∀d∈P.defs,1≤d.slots.length∧d.slots.length≤6∧(d.kind=0∨d.kind=1→d.slots.length≤3)∧(d.slots.Pairwise fun a b=>a.id≠b.id)∧∀s∈d.slots,TyOk hs 4 s.typ
 kinds:∀d∈P.defs,0≤d.kind∧d.kind≤5
 bods:zUB P
theorem Fit.hd {P:Prg}{hs:List Hd}(h:Fit P hs):qAW P hs:=fun k hk=>by
 have hk':k<P.defs.length:=by rw[←h.heads]at hk; simpa using hk
 have e:hs[k]=P.defs[k].hd:=by simp[←h.heads]
 refine⟨P.defs[k],?_,e.symm⟩;rw[e];exact zGw h.nd hk'
theorem zAu {ds:List Dfn}{r:Id}{d:Dfn}(h:qW ds r=some d):d∈ds∧d.id=r:=⟨List.mem_of_find?_eq_some h,by simpa using List.find?_some h⟩
section
variable {l:List Int}{mods:Int}(hl:∀x∈l,w64 x=x)
include hl
end
theorem TyOk.valid {P:Prg}{hs:List Hd}(hh:qAW P hs){r:Nat}{t:Typ}(h:TyOk hs r t):∀n,r<n→yH P n t=true:=by
 induction h with
 | int r=>intro n hn; obtain⟨m,rfl⟩:∃m,n=m+1:=⟨n-1,by omega⟩; simp[yH]
 | bool r=>intro n hn; obtain⟨m,rfl⟩:∃m,n=m+1:=⟨n-1,by omega⟩; simp[yH]
 | list r t h ih =>
  intro n hn;obtain⟨m,rfl⟩:∃m,n=m+1:=⟨n-1,by omega⟩;simp[yH,ih m (by omega)]
 | dfn r k h h1 h2 h3 h4 ih =>
  intro n hn;obtain⟨m,rfl⟩:∃m,n=m+1:=⟨n-1,by omega⟩;obtain⟨d,hd,hhd⟩:=hh k h;have e1:d.kind=hs[k].kind:=congrArg Hd.kind hhd;simp[yH,zFW,hd,e1];omega
theorem TyOk.validT {P:Prg}{hs:List Hd}(hh:qAW P hs){r:Nat}{t:Typ}(h:TyOk hs r t)(hr:r<24):validT P t=true:=h.valid hh 24 hr
theorem Fit.at_ {P:Prg}{hs:List Hd}(h:Fit P hs)(k:Nat)(hk:k<hs.length):(dfn P hs[k].id).hd=hs[k]∧dfn P hs[k].id∈P.defs:=by
 obtain⟨d,hd,hhd⟩:=h.hd k hk;have:dfn P hs[k].id=d:=by simp[dfn,hd]
 rw[this];exact⟨hhd,(zAu hd).1⟩
theorem zGx {P:Prg}:∀{ts:List Typ} {vs:List Val},zB8 P ts vs=true→∀(j:Nat) (h1:j<ts.length) (h2:j<vs.length),zAL P ts[j] vs[j]=true
 | t::ts,v::vs,h,j,h1,h2=>by
  rw[zB8,jA4]at h;cases j with
  | zero=>exact h.1
  | succ j=>exact zGx h.2 j (by simpa using h1) (by simpa using h2)
theorem zSx {P:Prg}{hs:List Hd}(hf:Fit P hs){r:Nat}{t:Typ}(h:TyOk hs r t):∀v,zAL P t v=true→TyV P t v:=by
 induction h with
 | int r =>
  intro v hv;rw[zCb]at hv;simp at hv;obtain⟨_,⟨⟨h1,h2⟩,h3⟩,h4⟩:=hv;obtain⟨k,n,l⟩:=v;simp only[Val.k,Val.n,Val.kids]at h1 h2 h3 h4;subst h1 h2;exact .int n h3 h4
 | bool r =>
  intro v hv;rw[zCb]at hv;simp at hv;obtain⟨_,⟨h1,h2⟩,h3⟩:=hv;obtain⟨k,n,l⟩:=v;simp only[Val.k,Val.n,Val.kids]at h1 h2 h3;subst h1 h2;exact .bool n h3
 | list r t h ih =>
  intro v hv;rw[zCb]at hv;simp at hv;obtain⟨_,⟨h1,h2⟩,h3⟩:=hv;obtain⟨k,n,l⟩:=v;simp only[Val.k,Val.n,Val.kids]at h1 h2 h3;subst h1 h2;exact .list _ _ fun x hx=>ih x (h3 x hx)
 | dfn r k h h1 h2 h3 h4 ih =>
  intro v hv;obtain⟨d,hd,hhd⟩:=hf.hd k h;have e1:d.kind=hs[k].kind:=congrArg Hd.kind hhd;have e2:d.slots=hs[k].slots:=congrArg Hd.slots hhd;have ed:dfn P hs[k].id=d:=by simp[dfn,hd]
  rw[zCb]at hv;simp only[Typ.k_mk,Typ.id_mk,ed]at hv;obtain⟨kk,n,l⟩:=v;by_cases hk:d.kind=1
  ·simp[hk,Val.k,Val.n,Val.kids]at hv;obtain⟨_,⟨⟨⟨g1,g2⟩,g3⟩,g4⟩,g5⟩:=hv;replace g1:=of_decide_eq_true g1;replace g2:=of_decide_eq_true g2;replace g3:=of_decide_eq_true g3;replace g4:=of_decide_eq_true g4;obtain⟨x,rfl⟩:=List.length_eq_one_iff.1 g4;obtain⟨j,rfl⟩:∃j:Nat,n=j:=⟨n.toNat,by omega⟩;have hj:j<d.slots.length:=by omega
   rw[jCn,jA2 hj,jCg,zOS]at g5;subst g1;exact .case _ d j x hd hk hj (ih d.slots[j] (by rw[←e2]; exact jA3 hj) x g5)
  ·simp[hk,Val.k,Val.n,Val.kids]at hv;obtain⟨_,⟨⟨g1,g2⟩,g3⟩,g4⟩:=hv;replace g1:=of_decide_eq_true g1;replace g2:=of_decide_eq_true g2;replace g3:=of_decide_eq_true g3;subst g1 g2;refine .record _ d l hd (by omega) g3 fun j hj=>?_
   have hjd:j<d.slots.length:=by omega
   have:=zGx g4 j (by simpa using hjd) hj;rw[jBk]at this;exact ih d.slots[j] (by rw[←e2]; exact jA3 hjd) l[j] this
structure InvX (I:XS→Prop):Prop where
 tick:∀e s,I s→¬s.fuel≤0→I (zEc e s)
 dfn:∀(d:Id) s,I s→I {s with ds:=s.ds++[d]}
 fail:∀(x:Int) s,I s→I {s with fail:=x}
section
variable {p:Prg}{ev:Evl}{I:XS→Prop}
theorem zF7 (h:∀e V s,I s→I (ev e V s).2)(V:List EVar):∀(l:List Exp) (s:XS),I s→I (qZ ev V l s).2
 | [],s,hs=>hs
 | e::l,s,hs=>by simp only[qZ]; exact zF7 h V l _ (h e V s hs)
theorem zGy (h:∀e V s,I s→I (ev e V s).2)(V:List EVar)(i:Id)(b:Exp):∀(l:List Val) (r:Val×XS),I r.2→I (yF ev V i b l r).2
 | [],r,hs=>hs
 | e::l,r,hs=>by simp only[yF]; exact zGy h V i b l _ (h _ _ _ hs)
theorem zGr (hI:InvX I)(h:∀e V s,I s→I (ev e V s).2)(d:Dfn)(vs:List Val)(s:XS)(hs:I s):I (zB5 ev d vs s).2:=by
 unfold zB5;split
 ·exact hs
 ·exact h _ _ _ (hI.dfn d.id s hs)
theorem zO3 (h:∀e V s,I s→I (ev e V s).2)(e:Exp)(V:List EVar)(s:XS)(hs:I s):I (zAn ev e V s).2:=by
 unfold zAn;have h0:=h (e.kids.headD .zero) V s hs;generalize ev (e.kids.headD .zero) V s=r at *
 repeat' split
 all_goals first
  | exact h0
  | exact h _ _ _ h0
  | exact zGy h _ _ _ _ _ (h _ _ _ h0)
theorem zRS (hI:InvX I)(h:∀e V s,I s→I (ev e V s).2)(fl:Nat)(e:Exp)(V:List EVar)(s:XS)(hs:I s):I (qV p fl ev e V s).2:=by
 unfold qV;have h0:=zF7 h V e.kids s hs;generalize qZ ev V e.kids s=r at *
 repeat' split
 all_goals first
  | exact hs
  | exact h0
  | exact zO3 h _ _ _ hs
  | exact zGr hI h _ _ _ h0
theorem zE1 (hI:InvX I)(fl:Nat):∀(n:Nat) e V s,I s→I (zAq p fl n e V s).2
 | 0,e,V,s,hs=>by
  rw[zAq];split
  ·exact hs
  ·exact hI.fail _ _ hs
 | n+1,e,V,s,hs=>by
  rw[zAq];split
  ·exact hs
  ·split
   ·exact hI.fail _ _ hs
   ·rename_i h;have:=zRS (p:=p) hI (zE1 hI fl n) fl e V _ (hI.tick e s hs h);show I (zDi _);unfold zDi;split
    ·exact hI.fail _ _ this
    ·exact this
def Fu (F:Int)(s:XS):Prop:=0≤s.fuel∧s.fuel≤F
theorem zK9 (F:Int):InvX (Fu F) :=
 ⟨fun e s h hf=>⟨by unfold zEc; dsimp only; omega,by unfold zEc; have:=h.2; dsimp only; omega⟩,fun d s h=>h,fun x s h=>h⟩
theorem zKa (h:zEq ev)(V:List EVar):∀(l:List Exp) (s:XS) (i k:Nat),i≤k→(qZ ev V (l.take k) s).2.fail=0→(qZ ev V (l.take i) s).2.fail=0
 | [],s,i,k,_,h0=>by simpa using h0
 | e::l,s,0,k,_,h0=>by
  by_cases hs:s.fail=0
  ·simpa [qZ] using hs
  ·rw[zGq h V _ _ hs]at h0;exact(hs h0).elim
 | e::l,s,i+1,0,hik,h0=>by omega
 | e::l,s,i+1,k+1,hik,h0=>by simp only[jCa,qZ]at h0 ⊢;exact zKa h V l _ i k (by omega) h0
theorem zJZ (h:zEq ev)(V:List EVar):∀(l:List Exp) (s:XS),s.fail=0→(qZ ev V l s).2.fail≠0 →
 ∃(k:Nat) (hk:k<l.length),(qZ ev V (l.take k) s).2.fail=0∧(ev l[k] V (qZ ev V (l.take k) s).2).2=(qZ ev V l s).2
 | [],s,hs,hf=>(hf hs).elim
 | e::l,s,hs,hf=>by
  by_cases h0:(ev e V s).2.fail=0
  ·simp only[qZ]at hf;obtain⟨k,hk,h1,h2⟩:=zJZ h V l _ h0 hf;exact⟨k+1,by simpa using hk,by simpa only[jCa,qZ] using h1,by simpa only[jCa,qZ,jD9] using h2⟩
  ·refine⟨0,by simp,hs,?_⟩;simp only[List.take_zero,qZ,jDg];rw[zGq h V l _ h0]
theorem zID (h:zEq ev)(V:List EVar)(x:Id)(b:Exp):∀(l:List Val) (r:Val×XS) (i k:Nat),i≤k→(yF ev V x b (l.take k) r).2.fail=0→(yF ev V x b (l.take i) r).2.fail=0
 | [],r,i,k,_,h0=>by simpa using h0
 | v::l,r,0,k,_,h0=>by
  by_cases hs:r.2.fail=0
  ·simpa [yF] using hs
  ·rw[zD3 h V _ _ _ _ hs]at h0;exact(hs h0).elim
 | v::l,r,i+1,0,hik,h0=>by omega
 | v::l,r,i+1,k+1,hik,h0=>by simp only[jCa,yF]at h0 ⊢;exact zID h V x b l _ i k (by omega) h0
theorem zJt (h:zEq ev)(V:List EVar)(x:Id)(b:Exp):∀(l:List Val) (r:Val×XS),r.2.fail=0→(yF ev V x b l r).2.fail≠0 →
 ∃(k:Nat) (_:k<l.length),(yF ev V x b (l.take k) r).2.fail=0∧(yF ev V x b (l.take (k+1)) r).2=(yF ev V x b l r).2
 | [],r,hs,hf=>(hf hs).elim
 | v::l,r,hs,hf=>by
  simp only[yF]at hf;by_cases h0:(ev b (V++[⟨x,0,v⟩]++[⟨x,1,r.1⟩]) r.2).2.fail=0
  ·obtain⟨k,hk,h1,h2⟩:=zJt h V x b l _ h0 hf;exact⟨k+1,by simpa using hk,by simpa only[jCa,yF] using h1,by simpa only[jCa,yF] using h2⟩
  ·refine⟨0,by simp,hs,?_⟩;simp only[jAr,jCa,List.take_zero,yF];rw[zD3 h V _ _ _ _ h0]
end
def qBh:List ByteArray:=[⟨#[65]⟩,⟨#[66]⟩,⟨#[67]⟩,⟨#[68]⟩]
def xyT:List ByteArray:=[⟨#[120]⟩,⟨#[121]⟩]
def cT:List ByteArray:=[⟨#[99,48]⟩,⟨#[99,49]⟩,⟨#[99,50]⟩,⟨#[99,51]⟩,⟨#[99,52]⟩,⟨#[99,53]⟩,⟨#[99,54]⟩]
section
variable (l:List Int)
def zM1 (i k:Nat)(m:Gm):Slt:=⟨idR ((20+2*i+k:Nat):Int),xyT.getD k ⟨#[]⟩,tK (gN l m 3),0,k⟩
def zAc (i:Nat):Nat→Gm→List Slt×Gm
 | 0,m=>([],m)
 | n+1,m=>((zAc i n m).1++[zM1 l i n (zAc i n m).2],(zAc i n m).2.tick)
def zBc (m:Gm):Nat:=(1+gN l m 2).toNat
def zFv (i:Nat)(m:Gm):Dfn×Gm:=(⟨idR ((1+i:Nat):Int),0,idR 0,qBh.getD i ⟨#[]⟩,(zAc l i (zBc l m) m.tick).1,.zero,.zero,0,[]⟩,(zAc l i (zBc l m) m.tick).2)
def jU:Nat→Gm→List Dfn×Gm
 | 0,m=>([],m)
 | n+1,m=>((jU n m).1++[(zFv l n (jU n m).2).1],(zFv l n (jU n m).2).2)
def zBw (many:Nat)(m:Gm):Nat×Nat×Gm :=
 if gN l m many=gN l m.tick many then
  (if 0<gN l m.tick.tick 3 then ((gN l m many).toNat,((gN l m many).toNat+1) % many,m.tick.tick.tick) else ((gN l m many).toNat,(gN l m many).toNat,m.tick.tick.tick))
 else ((gN l m many).toNat,(gN l m.tick many).toNat,m.tick.tick)
def zBH (a b:Dfn)(s:Id)(m:Gm):Exp×Gm :=
 if gN l (zET l b a s m).2 5=1 then
  yK (zET l b a s (zA8 l a s 1 1 (zET l b a s m).2.tick).2).2 5 0 Id.zero [(zA8 l a s 1 1 (zET l b a s m).2.tick).1,(zET l b a s m).1,(zET l b a s (zA8 l a s 1 1 (zET l b a s m).2.tick).2).1]
 else ((zET l b a s m).1,(zET l b a s m).2.tick)
def zPc (R:List Dfn)(x y:Nat)(s:Id)(m:Gm):Exp×Gm :=
 if x=y then
  (if gN l m 2=1 then yK m.tick 2 0 s [] else zBH l (R.getD x .zero) (R.getD y .zero) s m.tick)
 else zBH l (R.getD x .zero) (R.getD y .zero) s m
def zHQ (R:List Dfn)(i:Nat)(m:Gm):Dfn×Gm :=
 (⟨idR ((6+i:Nat):Int),5,idR 0,cT.getD i ⟨#[]⟩,[⟨idR ((30+i:Nat):Int),⟨#[111,108,100]⟩,jZ (R.getD (zBw l R.length m).1 .zero).id,0,0⟩],jZ (R.getD (zBw l R.length m).2.1 .zero).id,
  (zPc l R (zBw l R.length m).1 (zBw l R.length m).2.1 (idR ((30+i:Nat):Int)) (zBw l R.length m).2.2).1,0,[]⟩,
  (zPc l R (zBw l R.length m).1 (zBw l R.length m).2.1 (idR ((30+i:Nat):Int)) (zBw l R.length m).2.2).2)
def zAb (R:List Dfn):Nat→Gm→List Dfn×Gm
 | 0,m=>([],m)
 | n+1,m=>((zAb R n m).1++[(zHQ l R n (zAb R n m).2).1],(zHQ l R n (zAb R n m).2).2)
def jO:Nat:=(2+atV l 0 3).toNat
def jJ:List Dfn:=(jU l (jO l) ⟨1,40⟩).1++(zAb l (jU l (jO l) ⟨1,40⟩).1 (gN l (jU l (jO l) ⟨1,40⟩).2 8).toNat (jU l (jO l) ⟨1,40⟩).2.tick).1
def zA3:Prg:=⟨[⟨idR 0,⟨#[99,111,114,101]⟩,[],(jJ l).map (·.id)⟩],jJ l⟩
theorem zCg (i:Nat)(m:Gm):∀n,(zAc l i n m).1.length=n
 | 0=>rfl
 | n+1=>by simp[zAc,zCg i m n]
theorem zEU (i:Nat)(m:Gm):∀(n k:Nat) (h:k<(zAc l i n m).1.length),∃m',(zAc l i n m).1[k]=zM1 l i k m'
 | 0,k,h=>by simp[zAc]at h
 | n+1,k,h=>by
  have hl:=zCg l i m n;by_cases hk:k<n
  ·obtain⟨m',h'⟩:=zEU i m n k (by omega);exact⟨m',by simp only[zAc]; rw[jBs (by omega)]; exact h'⟩
  ·have hkn:k=n:=by rw[zCg]at h; omega
   subst hkn;exact⟨(zAc l i k m).2,by simp only[zAc]; rw[jCw (by omega)]; simp[hl]⟩
theorem zBT (m:Gm):∀n,(jU l n m).1.length=n
 | 0=>rfl
 | n+1=>by simp[jU,zBT m n]
theorem zM0 (m:Gm):∀(n k:Nat) (h:k<(jU l n m).1.length),∃m',(jU l n m).1[k]=(zFv l k m').1
 | 0,k,h=>by simp[jU]at h
 | n+1,k,h=>by
  have hl:=zBT l m n;by_cases hk:k<n
  ·obtain⟨m',h'⟩:=zM0 m n k (by omega);exact⟨m',by simp only[jU]; rw[jBs (by omega)]; exact h'⟩
  ·have hkn:k=n:=by rw[zBT]at h; omega
   subst hkn;exact⟨(jU l k m).2,by simp only[jU]; rw[jCw (by omega)]; simp[hl]⟩
theorem zCf (R:List Dfn)(m:Gm):∀n,(zAb l R n m).1.length=n
 | 0=>rfl
 | n+1=>by simp[zAb,zCf R m n]
theorem zKA (R:List Dfn)(m:Gm):∀(n k:Nat) (h:k<(zAb l R n m).1.length),∃m',(zAb l R n m).1[k]=(zHQ l R k m').1
 | 0,k,h=>by simp[zAb]at h
 | n+1,k,h=>by
  have hl:=zCf l R m n;by_cases hk:k<n
  ·obtain⟨m',h'⟩:=zKA R m n k (by omega);exact⟨m',by simp only[zAb]; rw[jBs (by omega)]; exact h'⟩
  ·have hkn:k=n:=by rw[zCf]at h; omega
   subst hkn;exact⟨(zAb l R k m).2,by simp only[zAb]; rw[jCw (by omega)]; simp[hl]⟩
end
theorem zYZ (t:Int):tK t=zAW∨tK t=yZ:=by
 unfold tK;split
 ·exact .inr rfl
 ·exact .inl rfl
theorem zNp {α : Type}{A B C:List α}(e:C=A++B)(k:Nat)(h:k<C.length):(∃h':k<A.length,C[k]=A[k])∨(A.length≤k∧∃h':k-A.length<B.length,C[k]=B[k-A.length]):=by
 subst e;by_cases hk:k<A.length
 ·exact .inl ⟨hk,jBs hk⟩
 ·exact .inr ⟨by omega,by rw[jA7]at h; omega,jCw (by omega)⟩
theorem zCz {α : Type}{L:List α}{i:Nat}(h:i<L.length)(z : α):L.getD i z=L[i]:=by rw[jBm,jA2 h,jBe]
section
variable {l:List Int}(hl:∀x∈l,w64 x=x)
include hl
theorem zDg (m:Gm):1≤zBc l m∧zBc l m≤2:=by have h:0≤gN l m 2∧gN l m 2<2:=zBY hl (by omega);unfold zBc;omega
theorem zCP:2≤jO l∧jO l≤4:=by have h:0≤atV l 0 3∧atV l 0 3<3:=zBY hl (by omega);unfold jO;omega
theorem zJu (many:Nat)(hm:0<many)(m:Gm):(zBw l many m).1<many∧(zBw l many m).2.1<many:=by
 have h1:0≤gN l m many∧gN l m many<many:=zBY hl (by omega);have h2:0≤gN l m.tick many∧gN l m.tick many<many:=zBY hl (by omega);have h3:=Nat.mod_lt ((gN l m many).toNat+1) hm;unfold zBw;split
 ·split
  ·exact⟨by simp only; omega,h3⟩
  ·exact⟨by simp only; omega,by simp only; omega⟩
 ·exact⟨by simp only; omega,by simp only; omega⟩
theorem zMv {p:Prg}{a b:Dfn}(ha:Flat p a)(hb:Flat p b)(s:Id)(m:Gm):WF p [⟨s,0,jZ a.id⟩] (zBH l a b s m).1 (jZ b.id):=by
 unfold zBH;split
 ·exact .ite _ _ _ _ _ _ _ _ _ (zEw hl ha s 1 _ (.inr rfl)) (zN6 hl ha s hb _) (zN6 hl ha s hb _)
 ·exact zN6 hl ha s hb _
theorem zPe {p:Prg}{R:List Dfn}(hR:∀a∈R,Flat p a){x y:Nat}(hx:x<R.length)(hy:y<R.length)(s:Id)(m:Gm):WF p [⟨s,0,jZ (R.getD x .zero).id⟩] (zPc l R x y s m).1 (jZ (R.getD y .zero).id):=by
 have ha:Flat p (R.getD x .zero):=by rw[zCz hx]; exact hR _ (jA3 hx)
 have hb:Flat p (R.getD y .zero):=by rw[zCz hy]; exact hR _ (jA3 hy)
 unfold zPc;split
 ·split
  ·rename_i e _;subst e;exact .var _ _ _ _ _ _ (by simp[zE0]) (.inr (.inr ⟨_,ha,rfl⟩))
  ·exact zMv hl ha hb s _
 ·exact zMv hl ha hb s _
theorem zIE:(jJ l).length≤11∧2≤(jJ l).length:=by have h1:=zCP hl;have h2:0≤gN l (jU l (jO l) ⟨1,40⟩).2 8∧gN l (jU l (jO l) ⟨1,40⟩).2 8<8:=zBY hl (by omega);unfold jJ;rw[jA7,zBT,zCf];omega
theorem zCG (k:Nat)(h:k<(jJ l).length) :
 (k<jO l∧∃m,(jJ l)[k]=(zFv l k m).1)∨(jO l≤k∧k-jO l<7∧∃m,(jJ l)[k]=(zHQ l (jU l (jO l) ⟨1,40⟩).1 (k-jO l) m).1):=by
 have h2:0≤gN l (jU l (jO l) ⟨1,40⟩).2 8∧gN l (jU l (jO l) ⟨1,40⟩).2 8<8:=zBY hl (by omega);have hlen:=zBT l ⟨1,40⟩ (jO l);rcases zNp (show jJ l=_++_ from rfl) k h with ⟨h',e⟩ | ⟨h',h'',e⟩
 ·obtain⟨m,hm⟩:=zM0 l ⟨1,40⟩ (jO l) k h';exact .inl ⟨by omega,m,e.trans hm⟩
 ·obtain⟨m,hm⟩:=zKA l (jU l (jO l) ⟨1,40⟩).1 (jU l (jO l) ⟨1,40⟩).2.tick (gN l (jU l (jO l) ⟨1,40⟩).2 8).toNat _ h'';have e2:=e.trans hm;rw[zCf]at h'';rw[hlen]at h' h'' e2;exact .inr ⟨h',by omega,m,e2⟩
theorem zPf (k:Nat)(h:k<(jJ l).length):(jJ l)[k].id=idR (if k<jO l then ((1+k:Nat):Int) else ((6+(k-jO l):Nat):Int)):=by
 rcases zCG hl k h with ⟨hk,m,e⟩ | ⟨hk,_,m,e⟩
 ·rw[e,if_pos hk]; rfl
 ·rw[e,if_neg (by omega)]; rfl
theorem zKB:(jJ l).Pairwise fun a b=>a.id≠b.id:=by have h1:=zCP hl;rw[jCh];intro i j hi hj hij e;have h11:=zIE hl;rw[zPf hl i hi,zPf hl j hj]at e;have:=zS3 (by split<;>omega) (by split<;>omega) (by split<;>omega) (by split<;>omega) e;split at this<;>split at this<;>omega
theorem zDu {k:Nat}(hk:k<jO l)(h:k<(jJ l).length):Flat (zA3 l) (jJ l)[k]:=by
 rcases zCG hl k h with ⟨_,m,e⟩ | ⟨hk',_⟩
 ·have h2:=zDg hl m;have hf:=zGw (zKB hl) h;have h3:(jJ l)[k].kind=0∧(jJ l)[k].slots=(zAc l k (zBc l m) m.tick).1:=by rw[e]; exact⟨rfl,rfl⟩
  refine⟨hf,h3.1,fun s hs=>?_,?_⟩
  ·rw[h3.2]at hs;obtain⟨j,hj,rfl⟩:=jB0 hs;obtain⟨m',e'⟩:=zEU l k m.tick (zBc l m) j hj;rw[e'];exact zYZ _
  ·rw[h3.2,zCg]; omega
 ·omega
theorem zD4:∀a∈(jU l (jO l) ⟨1,40⟩).1,Flat (zA3 l) a:=by
 intro a ha;obtain⟨k,hk,rfl⟩:=jB0 ha;have hkm:k<jO l:=by rw[zBT]at hk; exact hk
 have hkd:k<(jJ l).length:=by unfold jJ; rw[jA7]; omega
 have:=zDu hl hkm hkd;rcases zNp (show jJ l=(jU l (jO l) ⟨1,40⟩).1++_ from rfl) k hkd with ⟨h',e⟩ | ⟨h',h'',e⟩
 ·rw[e]at this; exact this
 ·omega
theorem zXk {j:Nat}(hj:j<jO l)(h:j<(jJ l).length):TyOk ((jJ l).map Dfn.hd) 4 (jZ (jJ l)[j].id):=by
 have h4:=zDu hl hj h;have hnd:=zKB hl;rw[jCh]at hnd;have e:((jJ l).map Dfn.hd)[j]'(by simpa using h)=(jJ l)[j].hd:=by simp
 have hid:(jJ l)[j].id=(((jJ l).map Dfn.hd)[j]'(by simpa using h)).id:=by rw[e]; rfl
 rw[hid];refine .dfn 3 j (by simpa using h) (fun i hi=>?_) (.inl (by rw[e]; exact h4.kind)) (by rw[e]; exact h4.few) fun s hs=>?_
 ·have:=hnd i j (by omega) h hi
  simpa [Dfn.hd] using this
 ·rw[e]at hs;rcases h4.flat s hs with e | e<;>rw[e]
  ·exact .int _
  ·exact .bool _
theorem zIF:Fit (zA3 l) ((jJ l).map Dfn.hd):=by
 have h11:=zIE hl;have hm:=zCP hl;have hlen:=zBT l ⟨1,40⟩ (jO l);have hend:=fun m=>zJu hl (jU l (jO l) ⟨1,40⟩).1.length (by omega) m
 have hdef:∀j (hj:j<jO l),∃hj':j<(jJ l).length,(jU l (jO l) ⟨1,40⟩).1.getD j .zero=(jJ l)[j]:=by
  intro j hj;have hj':j<(jJ l).length:=by unfold jJ; rw[jA7]; omega
  refine⟨hj',?_⟩;rw[zCz (by omega)];rcases zNp (show jJ l=(jU l (jO l) ⟨1,40⟩).1++_ from rfl) j hj' with ⟨h',e⟩ | ⟨h',h'',e⟩
  ·exact e.symm
  ·omega
 refine⟨rfl,by show (jJ l).length≤100; omega,zKB hl,fun d hd=>?_,fun d hd=>?_,fun r d hd hb=>?_⟩
 ·change d∈jJ l at hd;obtain⟨k,hk,rfl⟩:=jB0 hd;rcases zCG hl k hk with ⟨_,m,e⟩ | ⟨hk',hk7,m,e⟩
  ·have h2:=zDg hl m;have h3:(jJ l)[k].slots=(zAc l k (zBc l m) m.tick).1:=by rw[e]; rfl
   have h4:=zDu hl (by omega) hk;have h5:=zCg l k m.tick (zBc l m);refine⟨by rw[h3]; omega,by rw[h3]; omega,fun _=>by rw[h3]; omega,?_,fun s hs=>?_⟩
   ·rw[h3,jCh];intro i j hi hj hij e;obtain⟨m1,e1⟩:=zEU l k m.tick (zBc l m) i hi;obtain⟨m2,e2⟩:=zEU l k m.tick (zBc l m) j hj;rw[e1,e2]at e;have:=zS3 (by omega) (by omega) (by omega) (by omega) (show idR _=idR _ from e);omega
   ·rcases h4.flat s hs with e | e<;>rw[e]
    ·exact .int _
    ·exact .bool _
  ·obtain⟨hj,ej⟩:=hdef (zBw l (jU l (jO l) ⟨1,40⟩).1.length m).1 (by have:=(hend m).1; omega);have h3:(jJ l)[k].slots=[⟨idR ((30+(k-jO l):Nat):Int),⟨#[111,108,100]⟩,jZ (jJ l)[(zBw l (jU l (jO l) ⟨1,40⟩).1.length m).1].id,0,0⟩]:=by rw[e,←ej]; rfl
   rw[h3];refine⟨by simp,by simp,fun _=>by simp,by simp,fun s hs=>?_⟩;rw[jAp]at hs;subst hs;exact zXk hl (by have:=(hend m).1; omega) hj
 ·change d∈jJ l at hd;obtain⟨k,hk,rfl⟩:=jB0 hd;rcases zCG hl k hk with ⟨_,m,e⟩ | ⟨hk',hk7,m,e⟩<;>(rw[e]; simp[zFv,zHQ])
 ·obtain⟨hd1,rfl⟩:=zAu hd;change d∈jJ l at hd1;obtain⟨k,hk,rfl⟩:=jB0 hd1;rcases zCG hl k hk with ⟨_,m,e⟩ | ⟨hk',hk7,m,e⟩
  ·rw[e]at hb;simp[zGV,zFv]at hb
  ·rw[e];exact(zPe hl (zD4 hl) (hend m).1 (hend m).2 _ _).we
end
inductive Nam:Typ→Id→Prop
 | here (t:Typ) (h:t.k=3):Nam t t.id
 | kid (t k:Typ) (x:Id) (h:k∈t.kids) (hx:Nam k x):Nam t x
inductive Rch (p:Prg)(T:Typ→Prop):Id→Prop
 | base (t:Typ) (x:Id) (ht:T t) (hx:Nam t x):Rch p T x
 | step (y:Id) (s:Slt) (x:Id) (hy:Rch p T y) (hs:s∈(dfn p y).slots) (hx:Nam s.typ x):Rch p T x
theorem Rch.mono {p:Prg}{T T':Typ→Prop}{x:Id}(h:Rch p T x)(hT:∀t,T t→T' t):Rch p T' x:=by
 induction h with
 | base t x ht hx=>exact .base t x (hT t ht) hx
 | step y s x _ hs hx ih=>exact .step y s x ih hs hx
theorem Rch.one {p:Prg}{T:Typ→Prop}{x:Id}(h:Rch p T x):∃t,T t∧Rch p (· = t) x:=by
 induction h with
 | base t x ht hx=>exact⟨t,ht,.base t x rfl hx⟩
 | step y s x _ hs hx ih =>
  obtain⟨t,ht,h⟩:=ih;exact⟨t,ht,.step y s x h hs hx⟩
def zLl (p:Prg):Nat→Typ→List Id→List Id
 | 0,_,L=>L
 | f+1,t,L=>if t.k=3∧t.id∉t.kids.foldl (fun L k=>zLl p f k L) L then (dfn p t.id).slots.foldl (fun L s=>zLl p f s.typ L) (t.kids.foldl (fun L k=>zLl p f k L) L++[t.id])
  else t.kids.foldl (fun L k=>zLl p f k L) L
structure Meets (p:Prg)(T:Typ→Prop)(L L':List Id):Prop where
 sub:∀x∈L,x∈L'
 all:∀t x,T t→Nam t x→x∈L'
 clo:∀x∈L',x∉L→∀s∈(dfn p x).slots,∀y,Nam s.typ y→y∈L'
 snd:∀x∈L',x∈L∨Rch p T x
theorem Meets.trans {p:Prg}{T T':Typ→Prop}{L L' L'':List Id}(h:Meets p T L L')(k:Meets p T' L' L''):Meets p (fun t=>T t∨T' t) L L'':=by
 refine⟨fun x hx=>k.sub x (h.sub x hx),fun t x ht hx=>?_,fun x hx hn s hs y hy=>?_,fun x hx=>?_⟩
 ·rcases ht with ht | ht
  ·exact k.sub x (h.all t x ht hx)
  ·exact k.all t x ht hx
 ·by_cases hx':x∈L'
  ·exact k.sub y (h.clo x hx' hn s hs y hy)
  ·exact k.clo x hx hx' s hs y hy
 ·rcases k.snd x hx with hx | hx
  ·rcases h.snd x hx with hx | hx
   ·exact .inl hx
   ·exact .inr (hx.mono fun _ h=>.inl h)
  ·exact .inr (hx.mono fun _ h=>.inr h)
theorem Meets.congr {p:Prg}{T T':Typ→Prop}{L L':List Id}(h:Meets p T L L')(hT:∀t,T t↔T' t):Meets p T' L L' :=
 ⟨h.sub,fun t x ht hx=>h.all t x ((hT t).2 ht) hx,h.clo,fun x hx=>(h.snd x hx).imp (fun h=>h) fun h=>h.mono fun t=>(hT t).1⟩
def zR4 (p:Prg)(ss:List Slt)(L:List Id):List Id:=ss.foldl (fun L s=>zLl p 10 s.typ L) L
mutual
def zP6:Typ→List Id→List Id
 | .mk k x l,L=>zKX l (if k=3 then zKH L x else L)
def zKX:List Typ→List Id→List Id
 | [],L=>L
 | t::l,L=>zKX l (zP6 t L)
end
mutual
theorem zP7:∀(t:Typ) (L:List Id) (x:Id),x∈zP6 t L↔x∈L∨Nam t x
 | .mk k y l,L,x=>by
  rw[zP6,zMJ l];constructor
  ·rintro(h | ⟨t,ht,h⟩)
   ·split at h
    ·rename_i hk;rcases zEx.1 h with h | h
     ·exact .inl h
     ·subst h; exact .inr (.here (.mk k x l) hk)
    ·exact .inl h
   ·exact .inr (.kid (.mk k y l) t x ht h)
  ·rintro(h | h)
   ·left;split
    ·exact zEx.2 (.inl h)
    ·exact h
   ·generalize hT:Typ.mk k y l=T at h;cases h with
    | here _ h =>
     subst hT;left;show y∈_;rw[if_pos (show k=3 from h)];exact zEx.2 (.inr rfl)
    | kid _ t _ ht hx =>
     subst hT;exact .inr ⟨t,ht,hx⟩
theorem zMJ:∀(l:List Typ) (L:List Id) (x:Id),x∈zKX l L↔x∈L∨∃t∈l,Nam t x
 | [],L,x=>by simp[zKX]
 | t::l,L,x=>by rw[zKX,zMJ l,zP7 t];simp only[jA6,exists_eq_or_imp,or_assoc]
end
mutual
theorem zSF:∀(t:Typ) (L:List Id),SS L→SS (zP6 t L)
 | .mk k y l,L,h=>by
  rw[zP6];refine zP8 l _ ?_;split
  ·exact zND h
  ·exact h
theorem zP8:∀(l:List Typ) (L:List Id),SS L→SS (zKX l L)
 | [],L,h=>h
 | t::l,L,h=>by rw[zKX]; exact zP8 l _ (zSF t L h)
end
def namS (ss:List Slt)(L:List Id):List Id:=ss.foldl (fun L s=>zP6 s.typ L) L
section
variable {p:Prg}{ev:Evl}{B:List Bnd}{V:List EVar}
end
end Go.Proofs.YtdnelmeboihpkaaGreatDoor
namespace Go.Proofs.YtdnelmeboihpkaaGreatDoor
open Go.Abs
def qC4 (l:List Id):List (List Int×A):=l.map fun x=>(zHm x,.lit (.bool true))
@[simp] theorem qLA {rf:Bool→Nat→Nat→A}{g:Nat→Option Nat}(l:List Id):((qC4 l).map fun p=>(p.1,vw rf g p.2))=qC4 l:=by
 simp only[qC4,jC5];refine jBr fun x _=>?_
 simp
@[simp] theorem qLy {a:A}:zEV (.bool false) false (some a)=a:=rfl
@[simp] theorem qLx:zEV (.bool false) false none=.lit (.bool false):=rfl
structure RL (p:Prg)(L:List Id):Prop where
 nd:L.Nodup
 sub:∀x∈L,x∈p.defs.map Dfn.id
theorem RL.len {p:Prg}{hs:List Hd}(hf:Fit p hs){L:List Id}(h:RL p L):L.length≤100:=by
 have:=h.nd.length_le_of_subset (l₂:=p.defs.map Dfn.id) h.sub;have:=hf.len8;simp at *
 omega
theorem RL.fold {p:Prg} {α : Type}(g : α→List Id→List Id):∀(l:List α) (L:List Id),(∀a∈l,∀L,RL p L→RL p (g a L))→RL p L→RL p (l.foldl (fun L a=>g a L) L)
 | [],L,_,h=>h
 | a::l,L,hg,h=>by rw[jBz];exact RL.fold g l _ (fun b hb=>hg b (by simp[hb])) (hg a (by simp) L h)
end Go.Proofs.YtdnelmeboihpkaaGreatDoor
namespace Go.Abs
theorem zHK {ks:List Int}:∀(l m:List (List Int×A)),zB7 ks (l++m)=(zB7 ks l).or (zB7 ks m)
 | [],m=>rfl
 | p::l,m=>by
  simp only[jB9,zB7];split
  ·rfl
  ·exact zHK l m
end Go.Abs
namespace Go.Proofs.YtdnelmeboihpkaaGreatDoor
open Go.Abs
def zKS (l:List EVar):List (List Int×A):=l.map fun b=>([b.id.a,b.id.b,b.id.c,b.n],.agg [.lit (.int .i64 b.v.k),.lit (.int .i64 b.v.n),.sl b.v.kids.length (zJ b.v.kids)])
@[simp] theorem qLB {rf:Bool→Nat→Nat→A}{g:Nat→Option Nat}(l:List EVar):((zKS l).map fun p=>(p.1,vw rf g p.2))=zKS l:=by
 simp only[zKS,jC5];refine jBr fun x _=>?_
 simp
def Fr (V:List EVar)(i:Id)(n:Int):Prop:=∀b∈V,¬(b.id=i∧b.n=n)
theorem qOL {a b:Id}{n m:Int}:[a.a,a.b,a.c,n]=[b.a,b.b,b.c,m]↔a=b∧n=m:=by obtain⟨x,y,z⟩:=a;obtain⟨x',y',z'⟩:=b;simp[and_assoc]
theorem zOQ {i:Id}{n:Int}:∀{V:List EVar},Fr V i n→zB7 [i.a,i.b,i.c,n] (zKS V)=none
 | [],_=>rfl
 | b::V,h=>by
  have h1:=h b (by simp);have ih:=zOQ (V:=V) fun x hx=>h x (by simp[hx])
  simp only[zKS,jA9,zB7]at ih ⊢;rw[if_neg fun e=>h1 (qOL.1 e)];exact ih
def NdV (V:List EVar):Prop:=V.Pairwise fun a b=>¬(a.id=b.id∧a.n=b.n)
theorem NdV.push {V:List EVar}(h:NdV V){i:Id}{n:Int}{v:Val}(hf:Fr V i n):NdV (V++[⟨i,n,v⟩]):=by unfold NdV;rw[jCt];refine⟨h,by simp,fun a ha b hb=>?_⟩;rw[jAp.1 hb];exact hf a ha
theorem Fr.of {V:List EVar}{i:Id}(h:∀b∈V,b.id≠i)(n:Int):Fr V i n:=fun b hb e=>h b hb e.1
theorem Fr.push {V:List EVar}{i:Id}(h:∀b∈V,b.id≠i){n m:Int}(hne:m≠n)(v:Val):Fr (V++[⟨i,m,v⟩]) i n:=fun b hb e=>by
 rcases jAj.1 hb with hb | hb
 ·exact h b hb e.1
 ·rw[jAp.1 hb]at e;exact hne e.2
theorem EnvT.get {p:Prg}{B:List Bnd}{V:List EVar}(h:EnvT p B V)(hn:NdV V){x:Id}{n:Int}{t:Typ}:zE0 B x n=some t →
 zB7 [x.a,x.b,x.c,n] (zKS V)=some (.agg [.lit (.int .i64 (zEu V x n).k),.lit (.int .i64 (zEu V x n).n),.sl (zEu V x n).kids.length (zJ (zEu V x n).kids)]):=by
 induction h with
 | nil=>intro h; simp[zE0]at h
 | snoc B V b v h hi hb ht hz ih =>
  intro hl;unfold NdV at hn;rw[jCt]at hn;have e:zKS (V++[v])=zKS V++zKS [v]:=by simp[zKS]
  rw[e,zHK,zK6];rw[zKR]at hl;by_cases hc:b.id=x∧b.n=n
  ·have hv:v.id=x∧v.n=n:=⟨hi.trans hc.1,hb.trans hc.2⟩;have hfr:Fr V x n:=fun y hy e=>hn.2.2 y hy v (by simp) ⟨e.1.trans hv.1.symm,e.2.trans hv.2.symm⟩
   rw[zOQ hfr,if_pos hv];simp[zKS,zB7,hv.1,hv.2]
  ·rw[if_neg hc]at hl;rw[if_neg (fun e=>hc ⟨hi.symm.trans e.1,hb.symm.trans e.2⟩),ih hn.1 hl];rfl
@[simp] theorem qOF {z:Value}{a:A}:zEV z false (some a)=a:=rfl
@[simp] theorem qLz:zEV (.agg #[(.int .i64 0),(.int .i64 0),(.slice none 0 0)]) true none=.tup [.agg [.lit (.int .i64 0),.lit (.int .i64 0),.nil],.lit (.bool false)]:=by kernel_rfl
def Adm (p:Prg)(e:Exp)(V:List EVar)(s:XS):Prop:=s.fail=0→∃B t,WE p B e t∧EnvT p B V∧NdV V
section
variable {p:Prg}{c:Nat}{m:Int}{ev:Evl}{B:List Bnd}{e:Exp}{V:List EVar}{s:XS}
theorem Adm.of {t:Typ}(h:WE p B e t)(hV:EnvT p B V)(hN:NdV V):Adm p e V s:=fun _=>⟨B,t,h,hV,hN⟩
end
section
variable {p:Prg}{c:Nat}{m:Int}{ev:Evl}{e:Exp}{V:List EVar}{s:XS}
end
abbrev zON (x:Int):Value:=.iface 51 (.int .i64 x)
def eS (p:Prg)(F:Int)(s:XS):St:=[.box (zM p++[int F,int (F-s.fuel)])]
structure RP (f:FuncId)(args:List A)(p:Prg)(F:Int)(s:XS)(r:A)(s':XS):Prop where
 ret:s'.fail=0→Ret prog f args (eS p F s) r (eS p F s')
 pan:s'.fail≠0→Pan prog f args (eS p F s) (zON s'.fail)
abbrev zL7 (p:Prg)(F:Int)(e:Exp)(V:List EVar)(s:XS)(r:Val×XS):Prop:=RP 110 [.ptr 0 0,.agg (zR e),scE V] p F s (.agg (zC r.1)) r.2
structure IhE (p:Prg)(F m:Int)(ev:Evl):Prop where
 stop:zEq ev
 snd:Snd p ev
 fu:∀e V s,Fu m s→Fu m (ev e V s).2
 ok:∀e V s,s.fail=0→Adm p e V s→Fu m s→zL7 p F e V s (ev e V s)
@[simp] theorem qLe:zA prog 110=true:=by kernel_rfl
@[simp] theorem qLf:zA prog 150=true:=by kernel_rfl
@[simp] theorem qLc:zA prog 178=true:=by kernel_rfl
section
variable {p:Prg}{F m:Int}{ev:Evl}{e:Exp}{V:List EVar}{s:XS}
def qAY:K:=G [kMn 6] (G [kMn 7] (Z (G [M 10 1,kN 11 10,kMi 12 0] (K.block 0 (K.loop (G [kB 13 12 11 .lss] (Z (Y 13 ks (K.exit 0)) (Z (K.block 1 (G [kX 14 10 12 15,J 15 14 15,kZ 9 kz1,S 9 15 15] (K.ops [M 16 7,M 17 0,J 18 9 15,M 19 2,kC 20 110 [(kt 17),(kt 18),(kt 19)],kd 21 46 3 1 [ki,ki,kl] [(0,3,(kt 20))],kP 22 46 3 40 16 21,M 7 22]))) (K.ops [kBi 23 12 1 .add,M 12 23]))))))) (G [M 24 7,M 6 24] kr)))
theorem qGY:zO prog Tryz.f176.ntmps (Tryz.f176.body.getD .skip)=some qAY.erase:=by kernel_rfl
@[simp] theorem qNu:zA prog 176=true:=by kernel_rfl
theorem zHD (h:IhE p F m ev)(V:List EVar)(l:List Exp)(hl6:l.length≤32768)(hs:s.fail=0)(hA:∀k∈l,∀s,Adm p k V s)(hB:Fu m s) :
 RP 176 [.ptr 0 0,.sl l.length (jR l),scE V] p F s (.sl l.length (zJ (qZ ev V l s).1)) (qZ ev V l s).2:=by
 have hP:=eP p;have hst:∀i,Fu m (qZ ev V (l.take i) s).2:=fun i=>zF7 h.fu V _ _ hB
 have hln:∀i,i≤l.length→(qZ ev V (l.take i) s).1.length=i:=fun i hi=>by rw[zCq,jB2]; omega
 have h00:qZ ev V [] s=([],s):=rfl;have htk:l.take l.length=l:=jBa;constructor
 ·intro hf;have hpre:∀i,i≤l.length→(qZ ev V (l.take i) s).2.fail=0:=fun i hi=>zKa h.stop V l s i l.length hi (by rw[htk]; exact hf)
  refine zK Tryz.func176 rfl qGY (rs:=[.slot 6]) (by kernel_rfl) ?_;unfold qAY;simp[eS,hP];intro hl;refine jX (S:=Nat) (fun i=>[(0,.ptr 0 0),(2,scE V),(7,.row 1 i),(10,.sl l.length (jR l)),(11,int l.length),(12,int i)])
   (fun i=>eS p F (qZ ev V (l.take i) s).2++[.row false 46 3 i (zJ (qZ ev V (l.take i) s).1)]) (fun i=>i≤l.length) (fun i=>l.length-i) 0 (by simp)
   ((zAS (t:=7) (by simp) 46 3).trans (zP [0,1] 0 (by decide) (by simp) (by simp[eS,hP,h00]) (by simp))) ?_
  intro i hi;by_cases hil:i<l.length
  ·have hsn:=zIy ev V l[i] (l.take i) s;rw[←jAh hil]at hsn;have hp1:=hpre (i+1) hil;rw[hsn]at hp1;have hr:=(h.ok l[i] V (qZ ev V (l.take i) s).2 (hpre i hi) (hA _ (jA3 hil) _) (hst i)).ret hp1;have hdr:=zBi hil;have hln:=hln i hi;generalize hFn:qZ ev V (l.take (i+1)) s=Fn at hsn;subst hsn;generalize hFi:qZ ev V (l.take i) s=Fi at *
   obtain⟨vs,si⟩:=Fi;simp only at *
   generalize ev l[i] V si=rk at *
   obtain⟨v,sk⟩:=rk;simp only at *
   simp[eS,hP,hil,hdr,hFi,zR];refine jN hr [0] (by decide) (by simp[eS,hP]) (by simp[zR]) ?_;simp[eS,hP,zC];refine⟨⟨by simp[maxLen]; omega,by omega⟩,?_⟩;exact zU (i+1) hil (by omega) (zP [0,1] 0 (by decide) (by simp) (by simp[eS,hP,hFn,zAT]) (by simp[qO hil hl]))
  ·have hil:i=l.length:=by omega
   subst hil;rw[htk];generalize qZ ev V l s=Fi at *
   obtain⟨vs,si⟩:=Fi;simp;exact zI [0] 1 (by decide) (by simp) (by simp[eS,hP]) (by simp[eS,hP])
 ·intro hf;obtain⟨k,hk,hk0,hk1⟩:=zJZ h.stop V l s hs hf;have hpre:∀i,i≤k→(qZ ev V (l.take i) s).2.fail=0:=fun i hi=>zKa h.stop V l s i k hi hk0
  rw[←hk1]at hf ⊢;refine zE3 Tryz.func176 rfl qGY (rs:=[.slot 6]) (by kernel_rfl) ?_;unfold qAY wpF;simp[eS,hP];intro hl;refine jX (S:=Nat) (fun i=>[(0,.ptr 0 0),(2,scE V),(7,.row 1 i),(10,.sl l.length (jR l)),(11,int l.length),(12,int i)])
   (fun i=>eS p F (qZ ev V (l.take i) s).2++[.row false 46 3 i (zJ (qZ ev V (l.take i) s).1)]) (fun i=>i≤k) (fun i=>l.length-i) 0 (by simp)
   ((zAS (t:=7) (by simp) 46 3).trans (zP [0,1] 0 (by decide) (by simp) (by simp[eS,hP,h00]) (by simp))) ?_
  intro i hi;have hil:i<l.length:=by omega
  have hdr:=zBi hil;have hok:=h.ok l[i] V (qZ ev V (l.take i) s).2 (hpre i hi) (hA _ (jA3 hil) _) (hst i);by_cases hik:i<k
  ·have hsn:=zIy ev V l[i] (l.take i) s;rw[←jAh hil]at hsn;have hp1:=hpre (i+1) hik;rw[hsn]at hp1;have hr:=hok.ret hp1;have hln:=hln i (by omega);generalize hFn:qZ ev V (l.take (i+1)) s=Fn at hsn;subst hsn;generalize hFi:qZ ev V (l.take i) s=Fi at *
   obtain⟨vs,si⟩:=Fi;simp only at *
   generalize ev l[i] V si=rk at *
   obtain⟨v,sk⟩:=rk;simp only at *
   simp[eS,hP,hil,hdr,hFi,zR];refine jN hr [0] (by decide) (by simp[eS,hP]) (by simp[zR]) ?_;simp[eS,hP,zC];refine⟨⟨by simp[maxLen]; omega,by omega⟩,?_⟩;exact zU (i+1) hik (by omega) (zP [0,1] 0 (by decide) (by simp) (by simp[eS,hP,hFn,zAT]) (by simp[qO hil hl]))
  ·have hik:i=k:=by omega
   subst hik;have hr:=hok.pan hf;generalize hFi:qZ ev V (l.take i) s=Fi at *
   obtain⟨vs,si⟩:=Fi;simp only at *
   simp[eS,hP,hil,hdr,hFi,zR];refine zH6 hr [0] (by decide) (by simp[eS,hP]) (by simp[zR]) fun τ=>?_
   simp
def qAZ:K:=G [kO 4 1,kZ 6 [ki,ki,kl]] (G [⟨none,.mov (some 7) (.const (.pointer none))⟩] (Z (G [D 10 4 8,L 11 10 1,kN 12 11,kMi 13 0] (K.block 0 (K.loop (G [kB 14 13 12 .lss] (Z (Y 14 ks (K.exit 0)) (Z (K.block 1 (G [M 15 13,kX 16 11 13 11,J 17 16 11,kZ 9 kz5,M 8 15,S 9 17 11] (K.dops [(0,0,M 18 7),(1,0,D 19 9 0),(2,0,J 20 19 3),(3,0,M 21 2),(4,0,M 22 8),(5,0,kX 23 21 22 3),(6,0,J 24 23 3),(7,0,kC 25 109 [(kt 18),(kt 20),(kc 0),(kt 24)]),(8,0,M 7 25)]))) (K.ops [kBi 26 13 1 .add,M 13 26]))))))) (G [M 27 0,D 28 4 14,J 29 28 15,M 30 7,kC 31 110 [(kt 27),(kt 29),(kt 30)],S 6 31 3] kr)))
theorem qGZ:zO prog Tryz.f72.ntmps (Tryz.f72.body.getD .skip)=some qAZ.erase:=by kernel_rfl
@[simp] theorem qNx:zA prog 72=true:=by kernel_rfl
theorem zOI (h:IhE p F m ev)(d:Dfn)(vs:List Val)(hl:vs.length=d.slots.length)(hd6:d.slots.length≤6)(hs:s.fail=0)(hA:Adm p d.body (zCF d.slots vs) {s with ds:=s.ds++[d.id]})(hB:Fu m s) :
 RP 72 [.ptr 0 0,.agg (zH d),.sl vs.length (zJ vs)] p F s (.agg (zC (zB5 ev d vs s).1)) (zB5 ev d vs s).2:=by
 have hP:=eP p;have hx:zB5 ev d vs s=ev d.body (zCF d.slots vs) {s with ds:=s.ds++[d.id]}:=by unfold zB5; rw[if_neg (by simp[hs])]
 rw[hx];have he:=h.ok _ _ _ (by exact hs) hA ((zK9 m).dfn d.id s hB);generalize ev d.body (zCF d.slots vs) {s with ds:=s.ds++[d.id]}=r at *
 have hel:=zHF d.slots vs hl;have hall:(zCF d.slots vs).take d.slots.length=zCF d.slots vs:=by rw[←hel]; exact jBa
 constructor
 ·intro hf;refine zK Tryz.func72 rfl qGZ (rs:=[.cell 6 3 true]) (by kernel_rfl) ?_;unfold qAZ;simp[eS,hP,zH];intro hls;refine jX (S:=Nat) (fun i=>[(0,.ptr 0 0),(2,.sl vs.length (zJ vs)),(4,.ptr 1 0),(6,.ptr 2 0),(7,scE ((zCF d.slots vs).take i)),(11,.sl d.slots.length (yN d.slots)),(12,int d.slots.length),(13,int i)])
   (fun i=>eS p F s++[.box (zH d),.box [int 0,int 0,.nil]]) (fun i=>i≤d.slots.length) (fun i=>d.slots.length-i) 0 (by simp)
   (zP [0,1,2] 0 (by decide) (by simp) (by simp[eS,hP,zH]) (by simp)) ?_
  intro i hi;by_cases hil:i<d.slots.length
  ·have hiv:i<vs.length:=by omega
   have hdr:=yB hil;have hdv:=qY hiv;have htk:=zMj hl hil;have hw:=zCw ((zCF d.slots vs).take i).reverse ⟨d.slots[i].id,0,vs[i]⟩;simp[eS,hP,hil,hiv,hdr,hdv,yJ];refine qR hw (by simp[zF,zC]) (by simp) ?_;simp;exact zU (i+1) hil (by omega) (zP [0,1,2] 0 (by decide) (by simp) (by simp[eS,hP,zH]) (by simp[qO hil hls,htk]))
  ·have hil:i=d.slots.length:=by omega
   subst hil;rw[hall];simp[eS,hP,zH];refine jN (he.ret hf) [0] (by decide) (by simp[eS,hP]) (by simp[zR]) ?_;simp[eS,hP,zC];exact zI [0] 0 (by decide) (by simp) (by simp) (by simp[zC])
 ·intro hf;refine zE3 Tryz.func72 rfl qGZ (rs:=[.cell 6 3 true]) (by kernel_rfl) ?_;unfold qAZ wpF;simp[eS,hP,zH];intro hls;refine jX (S:=Nat) (fun i=>[(0,.ptr 0 0),(2,.sl vs.length (zJ vs)),(4,.ptr 1 0),(6,.ptr 2 0),(7,scE ((zCF d.slots vs).take i)),(11,.sl d.slots.length (yN d.slots)),(12,int d.slots.length),(13,int i)])
   (fun i=>eS p F s++[.box (zH d),.box [int 0,int 0,.nil]]) (fun i=>i≤d.slots.length) (fun i=>d.slots.length-i) 0 (by simp)
   (zP [0,1,2] 0 (by decide) (by simp) (by simp[eS,hP,zH]) (by simp)) ?_
  intro i hi;by_cases hil:i<d.slots.length
  ·have hiv:i<vs.length:=by omega
   have hdr:=yB hil;have hdv:=qY hiv;have htk:=zMj hl hil;have hw:=zCw ((zCF d.slots vs).take i).reverse ⟨d.slots[i].id,0,vs[i]⟩;simp[eS,hP,hil,hiv,hdr,hdv,yJ];refine qR hw (by simp[zF,zC]) (by simp) ?_;simp;exact zU (i+1) hil (by omega) (zP [0,1,2] 0 (by decide) (by simp) (by simp[eS,hP,zH]) (by simp[qO hil hls,htk]))
  ·have hil:i=d.slots.length:=by omega
   subst hil;rw[hall];simp[eS,hP,zH];refine zH6 (he.pan hf) [0] (by decide) (by simp[eS,hP]) (by simp[zR]) fun τ=>?_
   simp
end
section
variable {p:Prg}{c:Nat}{m:Int}{ev:Evl}{e:Exp}{V:List EVar}{s:XS}
def qBg (p:Prg):Prop:=∀d∈p.defs,d.slots.length≤6∧d.slots.Pairwise fun a b=>a.id≠b.id
theorem zSp {ss:List Slt}(hnd:ss.Pairwise fun a b=>a.id≠b.id)(vs:List Val)(hl:vs.length=ss.length):NdV (zCF ss vs):=by
 unfold NdV;rw[jCh];intro i j hi hj hij e;have hi':i<ss.length:=by rw[zHF ss vs hl]at hi; exact hi
 have hj':j<ss.length:=by rw[zHF ss vs hl]at hj; exact hj
 have:=jCh.1 hnd i j hi' hj' hij;have e1:(zCF ss vs)[i].id=ss[i].id:=by simp[zCF]
 have e2:(zCF ss vs)[j].id=ss[j].id:=by simp[zCF]
 exact this (by rw[←e1,←e2]; exact e.1)
end
section
variable {p:Prg}{c:Nat}{m:Int}{ev:Evl}{e:Exp}{V:List EVar}{s:XS}
end
def zAA (ev:Evl)(e:Exp)(V:List EVar)(v:Val)(s:XS):Val×XS :=
 if e.k=5 then ev (e.kids.getD (if v.n=1 then 1 else 2) .zero) V s
 else if e.k=6 then ev (e.kids.getD 1 .zero) (V++[⟨e.id,0,v⟩]) s
 else if e.k=8 then (v.kids.getD e.n.toNat vz,s)
 else if e.k=10 then ev (e.kids.getD (1+v.n).toNat .zero) (V++[⟨e.id,v.n,v.kids.headD vz⟩]) s
 else yF ev V e.id (e.kids.getD 2 .zero) v.kids (ev (e.kids.getD 1 .zero) V s)
theorem zTh {ev:Evl}{e:Exp}{V:List EVar}{s:XS}(h:(ev (e.kids.headD .zero) V s).2.fail=0):zAn ev e V s=zAA ev e V (ev (e.kids.headD .zero) V s).1 (ev (e.kids.headD .zero) V s).2:=by unfold zAn zAA;rw[if_neg (fun hn=>hn h)]
section
variable {p:Prg}{F m:Int}{ev:Evl}{B:List Bnd}{e:Exp}{V:List EVar}{v:Val}{s:XS}
def zIw:K:=G [kO 5 1,kO 7 3,kZ 8 [ki,ki,kl]] (Z (G [D 12 5 3,L 13 12 1] (K.block 0 (G [kQi 15 13 5 false,M 14 15] (Y 14 (Z (G [D 16 7 1,L 17 16 1,kQi 18 17 0 true] (Y 18 (G [M 19 0,D 20 5 13,L 21 20 1,kXi 22 21 15 1,J 23 22 15,M 24 2,kC 25 110 [(kt 19),(kt 23),(kt 24)],S 8 25 3] kr) ks)) (G [M 26 0,D 27 5 13,L 28 27 1,kXi 29 28 15 2,J 30 29 15,M 31 2,kC 32 110 [(kt 26),(kt 30),(kt 31)],S 8 32 3] kr)) (G [kQi 34 13 6 false,M 33 34] (Y 33 (Z (K.dops [(0,0,M 35 0),(1,0,D 36 5 13),(2,0,L 37 36 1),(3,0,kXi 38 37 15 1),(4,0,J 39 38 15),(5,0,M 40 2),(6,0,D 41 5 0),(7,0,J 42 41 3),(8,0,J 43 7 3),(9,0,kC 44 109 [(kt 40),(kt 42),(kc 0),(kt 43)]),(10,10,kC 45 110 [(kt 35),(kt 39),(kt 44)]),(11,0,S 8 45 3)]) kr) (G [kQi 47 13 8 false,M 46 47] (Y 46 (G [D 48 7 2,L 49 48 1,D 50 5 4,L 51 50 1,kX 52 49 51 3,J 53 52 3,S 8 53 3] kr) (G [kQi 55 13 10 false,M 54 55] (Y 54 (Z (K.dops [(0,0,M 56 0),(1,0,D 57 5 13),(2,0,L 58 57 1),(3,0,D 59 7 1),(4,0,L 60 59 1),(5,0,⟨none,.bin (some 61) .add (kc 1) (kt 60)⟩),(6,0,kX 62 58 61 15),(7,0,J 63 62 15),(8,0,M 64 2),(9,0,D 65 5 0),(10,0,J 66 65 3),(11,0,D 67 7 1),(12,0,L 68 67 1),(13,0,D 69 7 2),(14,0,L 70 69 1),(15,0,kXi 71 70 3 0),(16,0,J 72 71 3),(17,0,kC 73 109 [(kt 64),(kt 66),(kt 68),(kt 72)]),(18,10,kC 74 110 [(kt 56),(kt 63),(kt 73)]),(19,0,S 8 74 3)]) kr) ks)))))))))) (G [M 75 0,D 76 5 13,L 77 76 1,kXi 78 77 15 1,J 79 78 15,M 80 2,kC 81 110 [(kt 75),(kt 79),(kt 80)],kZ 9 [ki,ki,kl],S 9 81 3] (Z (G [D 82 7 2,
 L 83 82 1,kN 84 83,kMi 85 0] (K.block 1 (K.loop (G [kB 86 85 84 .lss] (Z (Y 86 ks (K.exit 1)) (Z (K.block 2 (G [kX 87 83 85 3,J 88 87 3,kZ 11 [ki,ki,kl],S 11 88 3] (K.dops [(0,0,M 89 0),(1,0,D 90 5 13),(2,0,L 91 90 1),(3,0,kXi 92 91 15 2),(4,0,J 93 92 15),(5,0,M 94 2),(6,0,D 95 5 0),(7,0,J 96 95 3),(8,0,J 97 11 3),(9,0,kC 98 109 [(kt 94),(kt 96),(kc 0),(kt 97)]),(10,0,D 99 5 0),(11,0,J 100 99 3),(12,0,J 101 9 3),(13,0,kC 102 109 [(kt 98),(kt 100),(kc 1),(kt 101)]),(14,10,kC 103 110 [(kt 89),(kt 93),(kt 102)]),(15,0,S 9 103 3)]))) (K.ops [kBi 104 85 1 .add,M 85 104]))))))) (G [J 105 9 3,S 8 105 3] kr))))
def qOH:Nat→Option (List (Nat×Nat)):=fun r=>match r with | 7=>some [(0,0),(1,0),(2,0),(3,0),(4,0),(5,0),(6,0),(7,0),(8,0),(9,0),(10,10),(11,0)] | 11=>some [(0,0),(1,0),(2,0),(3,0),(4,0),(5,0),(6,0),(7,0),(8,0),(9,0),(10,0),(11,0),(12,0),(13,0),(14,0),(15,0),(16,0),(17,0),(18,10),(19,0)] | 16=>some [(0,0),(1,0),(2,0),(3,0),(4,0),(5,0),(6,0),(7,0),(8,0),(9,0),(10,0),(11,0),(12,0),(13,0),(14,10),(15,0)] | _=>none
theorem zJE:qF prog Tryz.f178.ntmps qOH (Tryz.f178.body.getD .skip)=some zIw.erase:=by kernel_rfl
@[simp] theorem qNw:zA prog 178=true:=by kernel_rfl
abbrev BrE (p:Prg)(F:Int)(e:Exp)(V:List EVar)(v:Val)(s:XS)(r:Val×XS):Prop:=RP 178 [.ptr 0 0,.agg (zR e),scE V,.agg (zC v)] p F s (.agg (zC r.1)) r.2
theorem zXM {a b d:Exp}{x:Int}(hx:x=0∨x=1)(hk:e.k=5)(hks:e.kids=[a,b,d])(hb:zL7 p F b V s (ev b V s))(hd:zL7 p F d V s (ev d V s)):BrE p F e V (.mk 1 x []) s (zAA ev e V (.mk 1 x []) s):=by
 have hP:=eP p;have hY:zAA ev e V (.mk 1 x []) s=ev (if x=1 then b else d) V s:=by unfold zAA;rw[hks];rcases hx with rfl | rfl<;>simp[hk,qP]
 rw[hY];rcases hx with rfl | rfl
 ·rw[if_neg (by decide)];generalize ev d V s=r at *
  constructor
  ·intro hf;refine qS Tryz.func178 rfl zJE (rs:=[.cell 8 3 true]) (by kernel_rfl) ?_;unfold zIw;simp[eS,hP,zR,zC,hk,hks,qA,jQ,qP,zV];refine jN (hd.ret hf) [0] (by decide) (by simp[eS,hP]) (by simp[zR]) ?_;simp[eS,hP,zC];exact zI [0] 0 (by decide) (by simp) (by simp) (by simp[zC])
  ·intro hf;refine zAl Tryz.func178 rfl zJE (rs:=[.cell 8 3 true]) (by kernel_rfl) ?_;unfold zIw wpF;simp[eS,hP,zR,zC,hk,hks,qA,jQ,qP,zV];refine zH6 (hd.pan hf) [0] (by decide) (by simp[eS,hP]) (by simp[zR]) fun τ=>?_
   simp
 ·rw[if_pos rfl];generalize ev b V s=r at *
  constructor
  ·intro hf;refine qS Tryz.func178 rfl zJE (rs:=[.cell 8 3 true]) (by kernel_rfl) ?_;unfold zIw;simp[eS,hP,zR,zC,hk,hks,qA,jQ,qP,zV];refine jN (hb.ret hf) [0] (by decide) (by simp[eS,hP]) (by simp[zR]) ?_;simp[eS,hP,zC];exact zI [0] 0 (by decide) (by simp) (by simp) (by simp[zC])
  ·intro hf;refine zAl Tryz.func178 rfl zJE (rs:=[.cell 8 3 true]) (by kernel_rfl) ?_;unfold zIw wpF;simp[eS,hP,zR,zC,hk,hks,qA,jQ,qP,zV];refine zH6 (hb.pan hf) [0] (by decide) (by simp[eS,hP]) (by simp[zR]) fun τ=>?_
   simp
theorem zXN {a b:Exp}(hk:e.k=6)(hks:e.kids=[a,b])(hb:zL7 p F b (V++[⟨e.id,0,v⟩]) s (ev b (V++[⟨e.id,0,v⟩]) s)):BrE p F e V v s (zAA ev e V v s):=by
 have hP:=eP p;have hY:zAA ev e V v s=ev b (V++[⟨e.id,0,v⟩]) s:=by unfold zAA;rw[hks];simp[hk]
 rw[hY];generalize ev b (V++[⟨e.id,0,v⟩]) s=r at *
 have hw:=zCw V.reverse ⟨e.id,0,v⟩;constructor
 ·intro hf;refine qS Tryz.func178 rfl zJE (rs:=[.cell 8 3 true]) (by kernel_rfl) ?_;unfold zIw;simp[eS,hP,zR,zC,hk,hks,qA,jQ,qP,zV];refine qR hw (by simp[zF,zC]) (by simp) ?_;simp[eS,hP];refine zCd (hb.ret hf) [0] (by decide) (by simp[eS,hP]) (by simp[zR]) ?_;simp[eS,hP,zC];exact zI [0] 0 (by decide) (by simp) (by simp) (by simp[zC])
 ·intro hf;refine zAl Tryz.func178 rfl zJE (rs:=[.cell 8 3 true]) (by kernel_rfl) ?_;unfold zIw wpF;simp[eS,hP,zR,zC,hk,hks,qA,jQ,qP,zV];refine qR hw (by simp[zF,zC]) (by simp) ?_;simp[eS,hP];refine zDe (hb.pan hf) [0] (by decide) (by simp[eS,hP]) (by simp[zR]) fun τ=>?_
  simp
theorem zTs {a:Exp}{vs:List Val}{j:Nat}(hk:e.k=8)(hn:e.n=j)(hs:s.fail=0)(hj:j<vs.length)(hks:e.kids=[a]):BrE p F e V (.mk 2 0 vs) s (zAA ev e V (.mk 2 0 vs) s):=by
 have hP:=eP p;have hY:zAA ev e V (.mk 2 0 vs) s=(vs[j],s):=by unfold zAA;simp[hk,hn,zV,hj]
 rw[hY];refine⟨fun _=>?_,fun hf=>(hf hs).elim⟩;refine qS Tryz.func178 rfl zJE (rs:=[.cell 8 3 true]) (by kernel_rfl) ?_;unfold zIw;simp[eS,hP,zR,zC,hk,hks,qA,jQ,qP,zV,hn,hj,qY hj];exact zI [0] 0 (by decide) (by simp) (by simp) (by simp[zC])
theorem zTt {a:Exp}{ks:List Exp}{q:Nat}{x:Val}(hk:e.k=10)(hks:e.kids=a::ks)(hq:q<ks.length)(hl6:ks.length≤32768)(hb:zL7 p F ks[q] (V++[⟨e.id,q,x⟩]) s (ev ks[q] (V++[⟨e.id,q,x⟩]) s)):BrE p F e V (.mk 3 q [x]) s (zAA ev e V (.mk 3 q [x]) s):=by
 have hP:=eP p;have e2:(1+(q:Int)).toNat=q+1:=by omega
 have hw1:IntKind.i64.wrap (1+(q:Int))=((q+1:Nat):Int):=by rw[IntWalk.i64_in _ (by omega)]; omega
 have hY:zAA ev e V (.mk 3 q [x]) s=ev ks[q] (V++[⟨e.id,q,x⟩]) s:=by unfold zAA;rw[hks];simp[hk,qP,zV,e2,hq]
 rw[hY];generalize ev ks[q] (V++[⟨e.id,q,x⟩]) s=r at *
 have hw:=zCw V.reverse ⟨e.id,q,x⟩;have hdr:(jR (a::ks)).drop ((q+1)*15)=zR ks[q]++jR (ks.drop (q+1)):=by
  have:=zBi (l:=a::ks) (i:=q+1) (by simpa using hq)
  simpa using this
 have hlt:q+1<(a::ks).length:=by simpa using hq
 generalize hQ:a::ks=Q at *
 obtain⟨M,hM⟩:∃M,M=q+1:=⟨_,rfl⟩;rw[←hM]at hw1 hdr hlt;constructor
 ·intro hf;refine qS Tryz.func178 rfl zJE (rs:=[.cell 8 3 true]) (by kernel_rfl) ?_;unfold zIw;simp[eS,hP,zR,zC,hk,hks,jQ,qP,zV,hw1,hlt,hdr];refine qR hw (by simp[zF,zC]) (by simp) ?_;simp[eS,hP];refine zCd (hb.ret hf) [0] (by decide) (by simp[eS,hP]) (by simp[zR]) ?_;simp[eS,hP,zC];exact zI [0] 0 (by decide) (by simp) (by simp) (by simp[zC])
 ·intro hf;refine zAl Tryz.func178 rfl zJE (rs:=[.cell 8 3 true]) (by kernel_rfl) ?_;unfold zIw wpF;simp[eS,hP,zR,zC,hk,hks,jQ,qP,zV,hw1,hlt,hdr];refine qR hw (by simp[zF,zC]) (by simp) ?_;simp[eS,hP];refine zDe (hb.pan hf) [0] (by decide) (by simp[eS,hP]) (by simp[zR]) fun τ=>?_
  simp
theorem zV3 {l z b:Exp}{vs:List Val}(h:zEq ev)(hk:e.k=12)(hks:e.kids=[l,z,b])(hz:zL7 p F z V s (ev z V s))(hb:∀x a s',s'.fail=0→(∃i,(yF ev V e.id b (vs.take i) (ev z V s))=(a,s')∧vs[i]?=some x)→zL7 p F b (V++[⟨e.id,0,x⟩]++[⟨e.id,1,a⟩]) s' (ev b (V++[⟨e.id,0,x⟩]++[⟨e.id,1,a⟩]) s')) :
 BrE p F e V (.mk 4 0 vs) s (zAA ev e V (.mk 4 0 vs) s):=by
 have hP:=eP p;have hY:zAA ev e V (.mk 4 0 vs) s=yF ev V e.id b vs (ev z V s):=by unfold zAA;rw[hks];simp[hk,zV]
 rw[hY];have htk:vs.take vs.length=vs:=jBa;generalize ev z V s=r at *
 by_cases hr0:r.2.fail=0
 ·have hz:=hz.ret hr0;constructor
  ·intro hf;have hpre:∀i,i≤vs.length→(yF ev V e.id b (vs.take i) r).2.fail=0:=fun i hi=>zID h V e.id b vs r i vs.length hi (by rw[htk]; exact hf)
   refine qS Tryz.func178 rfl zJE (rs:=[.cell 8 3 true]) (by kernel_rfl) ?_;unfold zIw;simp[eS,hP,zR,zC,hk,hks,qA,jQ,qP,zV];refine jN hz [0] (by decide) (by simp[eS,hP]) (by simp[zR]) ?_;simp[eS,hP,zC];intro hls;refine jX (S:=Nat) (fun i=>[(0,.ptr 0 0),(2,scE V),(5,.ptr 1 0),(8,.ptr 3 0),(9,.ptr 4 0),(83,.sl vs.length (zJ vs)),(84,int vs.length),(85,int i)])
    (fun i=>eS p F (yF ev V e.id b (vs.take i) r).2++[.box (zR e),.box (zC (.mk 4 0 vs)),.box [int 0,int 0,.nil],.box (zC (yF ev V e.id b (vs.take i) r).1)]) (fun i=>i≤vs.length) (fun i=>vs.length-i) 0 (by simp)
    (zP [0,1,2,3,4] 0 (by decide) (by simp) (by simp[eS,hP,zR,zC,hks,qA,hk,yF,jQ,qP,zV]) (by simp)) ?_
   intro i hi;by_cases hil:i<vs.length
   ·have hw0:=zCw V.reverse ⟨e.id,0,vs[i]⟩;have hsn:=zHj ev V e.id b vs[i] (vs.take i) r;rw[←jAh hil]at hsn;have hdr:=qY hil;have HP1:=hpre (i+1) hil;have hok:=hb vs[i] _ _ (hpre i hi) ⟨i,rfl,jA2 hil⟩;generalize hFn:yF ev V e.id b (vs.take (i+1)) r=Fn at hsn HP1;subst hsn;generalize hFi:yF ev V e.id b (vs.take i) r=Fi at *
    obtain⟨acc,si⟩:=Fi;simp only at *
    have hw1:=zCw (⟨e.id,0,vs[i]⟩::V.reverse) ⟨e.id,1,acc⟩;generalize ev b (V++[⟨e.id,0,vs[i]⟩]++[⟨e.id,1,acc⟩]) si=rk at *
    obtain⟨v',sk⟩:=rk;simp only at *
    simp[eS,hP,zR,zC,hil,hdr,hks,qA,hFi,jQ,qP,zV];refine qR hw0 (by simp[zF,zC]) (by simp) ?_;simp[eS,hP];refine qR hw1 (by simp[zF,zC]) (by simp) ?_;simp[eS,hP];refine zCd (hok.ret HP1) [0] (by decide) (by simp[eS,hP]) (by simp[zR]) ?_;simp[eS,hP,zC];exact zU (i+1) hil (by omega) (zP [0,1,2,3,4] 0 (by decide) (by simp) (by simp[eS,hP,zR,zC,hks,qA,hFn,hk,jQ,qP,zV]) (by simp[qO hil hls]))
   ·have hil:i=vs.length:=by omega
    subst hil;rw[htk];simp[eS,hP,zC];exact zI [0] 0 (by decide) (by simp) (by simp) (by simp[zC])
  ·intro hf;obtain⟨k,hk1,hk0,hk2⟩:=zJt h V e.id b vs r hr0 hf;have hpre:∀i,i≤k→(yF ev V e.id b (vs.take i) r).2.fail=0:=fun i hi=>zID h V e.id b vs r i k hi hk0
   rw[←hk2]at hf ⊢;refine zAl Tryz.func178 rfl zJE (rs:=[.cell 8 3 true]) (by kernel_rfl) ?_;unfold zIw wpF;simp[eS,hP,zR,zC,hk,hks,qA,jQ,qP,zV];refine jN hz [0] (by decide) (by simp[eS,hP]) (by simp[zR]) ?_;simp[eS,hP,zC];intro hls;refine jX (S:=Nat) (fun i=>[(0,.ptr 0 0),(2,scE V),(5,.ptr 1 0),(8,.ptr 3 0),(9,.ptr 4 0),(83,.sl vs.length (zJ vs)),(84,int vs.length),(85,int i)])
    (fun i=>eS p F (yF ev V e.id b (vs.take i) r).2++[.box (zR e),.box (zC (.mk 4 0 vs)),.box [int 0,int 0,.nil],.box (zC (yF ev V e.id b (vs.take i) r).1)]) (fun i=>i≤k) (fun i=>vs.length-i) 0 (by simp)
    (zP [0,1,2,3,4] 0 (by decide) (by simp) (by simp[eS,hP,zR,zC,hks,qA,hk,yF,jQ,qP,zV]) (by simp)) ?_
   intro i hi;have hil:i<vs.length:=by omega
   have hw0:=zCw V.reverse ⟨e.id,0,vs[i]⟩;have hsn:=zHj ev V e.id b vs[i] (vs.take i) r;rw[←jAh hil]at hsn;have hdr:=qY hil;have hok:=hb vs[i] _ _ (hpre i hi) ⟨i,rfl,jA2 hil⟩;by_cases hik:i<k
   ·have HP1:=hpre (i+1) hik;generalize hFn:yF ev V e.id b (vs.take (i+1)) r=Fn at hsn HP1;subst hsn;generalize hFi:yF ev V e.id b (vs.take i) r=Fi at *
    obtain⟨acc,si⟩:=Fi;simp only at *
    have hw1:=zCw (⟨e.id,0,vs[i]⟩::V.reverse) ⟨e.id,1,acc⟩;generalize ev b (V++[⟨e.id,0,vs[i]⟩]++[⟨e.id,1,acc⟩]) si=rk at *
    obtain⟨v',sk⟩:=rk;simp only at *
    simp[eS,hP,zR,zC,hil,hdr,hks,qA,hFi,jQ,qP,zV];refine qR hw0 (by simp[zF,zC]) (by simp) ?_;simp[eS,hP];refine qR hw1 (by simp[zF,zC]) (by simp) ?_;simp[eS,hP];refine zCd (hok.ret HP1) [0] (by decide) (by simp[eS,hP]) (by simp[zR]) ?_;simp[eS,hP,zC];exact zU (i+1) hik (by omega) (zP [0,1,2,3,4] 0 (by decide) (by simp) (by simp[eS,hP,zR,zC,hks,qA,hFn,hk,jQ,qP,zV]) (by simp[qO hil hls]))
   ·have hik:i=k:=by omega
    subst hik;have HP1:=hf;generalize hFn:yF ev V e.id b (vs.take (i+1)) r=Fn at hsn HP1;subst hsn;generalize hFi:yF ev V e.id b (vs.take i) r=Fi at *
    obtain⟨acc,si⟩:=Fi;simp only at *
    have hw1:=zCw (⟨e.id,0,vs[i]⟩::V.reverse) ⟨e.id,1,acc⟩;generalize ev b (V++[⟨e.id,0,vs[i]⟩]++[⟨e.id,1,acc⟩]) si=rk at *
    obtain⟨v',sk⟩:=rk;simp only at *
    simp[eS,hP,zR,zC,hil,hdr,hks,qA,hFi,jQ,qP,zV];refine qR hw0 (by simp[zF,zC]) (by simp) ?_;simp[eS,hP];refine qR hw1 (by simp[zF,zC]) (by simp) ?_;simp[eS,hP];refine zDe (hok.pan HP1) [0] (by decide) (by simp[eS,hP]) (by simp[zR]) fun τ=>?_
    simp
 ·have hx:(yF ev V e.id b vs r).2=r.2:=zD3 h V e.id b vs r hr0;unfold BrE;rw[hx];refine⟨fun hf=>(hr0 hf).elim,fun hf=>?_⟩;refine zAl Tryz.func178 rfl zJE (rs:=[.cell 8 3 true]) (by kernel_rfl) ?_;unfold zIw wpF;simp[eS,hP,zR,zC,hk,hks,qA,jQ,qP,zV];refine zH6 (hz.pan hf) [0] (by decide) (by simp[eS,hP]) (by simp[zR]) fun τ=>?_
  simp
end
structure Res where
 v:Val
 ds:List Id
 ns:List Id
 e:Int
def zE4 (p:Prg)(d:Dfn)(vs:List Val)(fuel:Int):Val×XS:=zB5 (zAq p 1 fuel.toNat) d vs ⟨fuel,0,zR4 p d.slots [],[]⟩
theorem zMq {P:Prg}:∀{ts:List Typ} {vs:List Val},vs.length=ts.length→(∀(j:Nat) (h1:j<ts.length) (h2:j<vs.length),zAL P ts[j] vs[j]=true)→zB8 P ts vs=true
 | [],[],_,_=>rfl
 | t::ts,v::vs,hl,h=>by rw[zB8,jA4];exact⟨h 0 (by simp) (by simp),zMq (by simpa using hl) fun j h1 h2=>h (j+1) (by simpa using h1) (by simpa using h2)⟩
 | [],v::vs,hl,_=>by simp at hl
 | t::ts,[],hl,_=>by simp at hl
theorem zTf {d:Dfn}(h:zQ1 d.kind=true):zGV d=true:=by simp[zQ1]at h;simp[zGV];omega
theorem zTg {p:Prg}{hs:List Hd}(hf:Fit p hs):qBg p:=fun d hd=>⟨(hf.slots d hd).2.1,(hf.slots d hd).2.2.2.1⟩
def uS (p:Prg)(F:Int)(s:XS):St:=[.box (zM p++[int F,int (F-s.fuel),int s.fail])]
@[simp] theorem qOv:zA prog 171=true:=by kernel_rfl
@[simp] theorem qOw:zA prog 186=true:=by kernel_rfl
@[simp] theorem qOu:zA prog 142=true:=by kernel_rfl
section
variable {p:Prg}{F:Int}{c:Nat}{m:Int}{ev:Evl}{e:Exp}{V:List EVar}{s:XS}
@[simp] theorem qOp:zA prog 199=true:=by kernel_rfl
@[simp] theorem qOq:zA prog 142=true:=by kernel_rfl
end
section
variable {p:Prg}{c:Nat}{m:Int}{ev:Evl}{e:Exp}{V:List EVar}{s:XS}
section
end
end
theorem zY3 {p:Prg}{hs:List Hd}(hf:Fit p hs){r:Nat}{t:Typ}(ht:TyOk hs r t){x:Id}:Nam t x→x∈p.defs.map Dfn.id:=by
 induction ht with
 | int r=>intro hx; cases hx with
  | here _ h=>simp at h
  | kid _ k x h=>simp at h
 | bool r=>intro hx; cases hx with
  | here _ h=>simp at h
  | kid _ k x h=>simp at h
 | list r t h ih=>intro hx; cases hx with
  | here _ h=>simp at h
  | kid _ k x h hx' =>
   simp only[Typ.kids_mk,jAp]at h;subst h;exact ih hx'
 | dfn r k h h1 h2 h3 h4 ih=>intro hx; cases hx with
  | here _ h' =>
   obtain⟨d,hd,_⟩:=hf.hd k h;obtain⟨a,b⟩:=zAu hd;exact jAg.2 ⟨d,a,b⟩
  | kid _ k x h=>simp at h
structure RS (p:Prg)(L:List Id):Prop where
 ss:SS L
 sub:∀x∈L,x∈p.defs.map Dfn.id
theorem RS.len {p:Prg}{hs:List Hd}(hf:Fit p hs){L:List Id}(h:RS p L):L.length≤100:=by
 have hn:L.Nodup:=by have:=h.ss;unfold SS at this;exact this.imp fun {a b} hab e=>by subst e; simp[zBL]at hab
 have:=hn.length_le_of_subset (l₂:=p.defs.map Dfn.id) h.sub;have:=hf.len8;simp at *
 omega
theorem RS.nam {p:Prg}{hs:List Hd}(hf:Fit p hs){L:List Id}(h:RS p L){r:Nat}{t:Typ}(ht:TyOk hs r t):RS p (zP6 t L) :=
 ⟨zSF t L h.ss,fun x hx=>by
  rcases (zP7 t L x).1 hx with hx | hx
  ·exact h.sub x hx
  ·exact zY3 hf ht hx⟩
theorem RS.fold {p:Prg} {α : Type}(g : α→List Id→List Id):∀(l:List α) (L:List Id),(∀a∈l,∀L,RS p L→RS p (g a L))→RS p L→RS p (l.foldl (fun L a=>g a L) L)
 | [],L,_,h=>h
 | a::l,L,hg,h=>by rw[jBz];exact RS.fold g l _ (fun b hb=>hg b (by simp[hb])) (hg a (by simp) L h)
end Go.Proofs.YtdnelmeboihpkaaGreatDoor

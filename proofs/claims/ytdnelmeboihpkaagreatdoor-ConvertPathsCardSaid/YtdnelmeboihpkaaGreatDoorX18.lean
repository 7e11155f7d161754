/- trace: environments as maps. -/
import Derived.Test.YtdnelmeboihpkaaGreatDoorX17
import Derived.RecoverIn
import Derived.Tactics
import Derived.Tactics2
set_option linter.unusedVariables false
set_option maxHeartbeats 8000000
set_option maxRecDepth 100000
set_option linter.unusedSimpArgs false
namespace Go.Abs
theorem zAE{ks:wB}:∀(l m:List (wB×A)),eU ks (l++m)=(eU ks l).or (eU ks m)
 |[],m=>rfl
 |p::l,m=>by
  simp only[jBa,eU];split
  .rfl
  .exact zAE l m
end Go.Abs
namespace Go.Proofs.YtdnelmeboihpkaaGreatDoor
open Go.Abs
def zDZ(l:wM):List (wB×A):=l.map fun b=>([b.id.a,b.id.b,b.id.c,b.n],.agg [.lit (.int .i64 b.v.k),.lit (.int .i64 b.v.n),.sl b.v.kids.length (zS b.v.kids)])
@[simp]theorem qHR{rf:Bool->Nat->Nat->A}{g:Nat->wC}(l:wM):((zDZ l).map fun p=>(p.1,vw rf g p.2))=zDZ l:=by
 simp only[zDZ,jCg];refine jC3 fun x _=>?_
 simp
def Fr(V:wM)(i:Id)(n:Int):Prop:=∀b∈V,¬(b.id=i/\b.n=n)
theorem qLg{a b:Id}{n m:Int}:[a.a,a.b,a.c,n]=[b.a,b.b,b.c,m]↔a=b/\n=m:=by obtain⟨x,y,z⟩:=a;obtain⟨x',y',z'⟩:=b;simp[and_assoc]
theorem zI2{i:Id}{n:Int}:∀{V:wM},Fr V i n->eU [i.a,i.b,i.c,n] (zDZ V)=none
 |[],_=>rfl
 |b::V,h=>by
  have h1:=h b (by simp);have ih:=zI2 (V:=V) fun x hx=>h x (by simp[hx])
  simp only[zDZ,jAg,eU]at ih ⊢;rw[if_neg fun e=>h1 (qLg.1 e)];exact ih
def NdV(V:wM):Prop:=V.Pairwise fun a b=>¬(a.id=b.id/\a.n=b.n)
variable{V:wM}{i:Id}
theorem NdV.push(h:NdV V){n:Int}{v:Val}(hf:Fr V i n):NdV (V++[⟨i,n,v⟩]):=by unfold NdV;rw[jCt];refine⟨h,by simp,fun a ha b hb=>?_⟩;rw[jAl.1 hb];exact hf a ha
theorem Fr.of(h:∀b∈V,b.id≠i)(n:Int):Fr V i n:=fun b hb e=>h b hb e.1
theorem Fr.push(h:∀b∈V,b.id≠i){n m:Int}(hne:m≠n)(v:Val):Fr (V++[⟨i,m,v⟩]) i n:=fun b hb e=>by
 rcases jAa.1 hb with hb|hb
 .exact h b hb e.1
 .rw[jAl.1 hb]at e;exact hne e.2
variable{p:Prg}{t:Typ}
theorem EnvT.get{B:wI}(h:EnvT p B V)(hn:NdV V){x:Id}{n:Int}:dF B x n=some t ->
 eU [x.a,x.b,x.c,n] (zDZ V)=some (.agg [.lit (.int .i64 (o8 V x n).k),.lit (.int .i64 (o8 V x n).n),.sl (o8 V x n).kids.length (zS (o8 V x n).kids)]):=by
 induction h with
 |nil=>intro h;simp[dF]at h
 |snoc B V b v h hi hb ht hz ih =>
  intro hl;unfold NdV at hn;rw[jCt]at hn;have e:zDZ (V++[v])=zDZ V++zDZ [v]:=by simp[zDZ]
  rw[e,zAE,zDD];rw[r9]at hl;by_cases hc:b.id=x/\b.n=n
  .have hv:v.id=x/\v.n=n:=⟨hi.trans hc.1,hb.trans hc.2⟩;have hfr:Fr V x n:=fun y hy e=>hn.2.2 y hy v (by simp) ⟨e.1.trans hv.1.symm,e.2.trans hv.2.symm⟩
   rw[zI2 hfr,if_pos hv];simp[zDZ,eU,hv.1,hv.2]
  .rw[if_neg hc]at hl;rw[if_neg (fun e=>hc ⟨hi.symm.trans e.1,hb.symm.trans e.2⟩),ih hn.1 hl];rfl
@[simp]theorem qLd{z:Value}{a:A}:rX z false (some a)=a:=rfl
@[simp]theorem qHF:rX (.agg #[(.int .i64 0),(.int .i64 0),(.slice none 0 0)]) true none=.tup [.agg [.lit (.int .i64 0),.lit (.int .i64 0),.nil],.lit (.bool false)]:=by kernel_rfl
def Adm(p:Prg)(e:Exp)(V:wM)(s:XS):Prop:=s.fail=0->∃B t,WE p B e t/\EnvT p B V/\NdV V
section
variable{p:Prg}{c:Nat}{m:Int}{ev:Evl}{B:wI}{e:Exp}{V:wM}{s:XS}
theorem Adm.of{t:Typ}(h:WE p B e t)(hV:EnvT p B V)(hN:NdV V):Adm p e V s:=fun _=>⟨B,t,h,hV,hN⟩
end
section
variable{p:Prg}{c:Nat}{m:Int}{ev:Evl}{e:Exp}{V:wM}{s:XS}
end
abbrev zIz(x:Int):Value:=.iface 51 (.int .i64 x)
def eS(p:Prg)(F:Int)(s:XS):St:=[.box (zT p++[int F,int (F-s.fuel)])]
structure RP(f:FuncId)(args:List A)(p:Prg)(F:Int)(s:XS)(r:A)(s':XS):Prop where
 ret:s'.fail=0->my f args (eS p F s) r (eS p F s')
 pan:s'.fail≠0->Pan Tryz.prog f args (eS p F s) (zIz s'.fail)
abbrev zFa(p:Prg)(F:Int)(e:Exp)(V:wM)(s:XS)(r:Val×XS):Prop:=RP 110 [.ptr 0 0,.agg (zH e),scE V] p F s (.agg (zL r.1)) r.2
structure IhE(p:Prg)(F m:Int)(ev:Evl):Prop where
 stop:oZ ev
 snd:Snd p ev
 fu:∀e V s,Fu m s->Fu m (ev e V s).2
 ok:∀e V s,s.fail=0->Adm p e V s->Fu m s->zFa p F e V s (ev e V s)
section
variable{p:Prg}{F m:Int}{ev:Evl}{e:Exp}{V:wM}{s:XS}
noncomputable def zWz:K:=zY Tryz.prog Tryz.f176 qB []
theorem qCH:ky Tryz.f176 zWz:=m_ (by kernel_rfl)
theorem zA3(h:IhE p F m ev)(V:wM)(l:wG)(hl6:l.length<=32768)(hs:s.fail=0)(hA:∀k∈l,∀s,Adm p k V s)(hB:Fu m s) :
 RP 176 [.ptr 0 0,.sl l.length (qL l),scE V] p F s (.sl l.length (zS (jP ev V l s).1)) (jP ev V l s).2:=by
 have hP:=eP p;have hst:∀i,Fu m (jP ev V (l.take i) s).2:=fun i=>tB h.fu V _ _ hB
 have hln:∀i,i<=l.length->(jP ev V (l.take i) s).1.length=i:=fun i hi=>by rw[hU,jAq];omega
 have h00:jP ev V [] s=([],s):=rfl;have htk:l.take l.length=l:=jAr;constructor
 .intro hf;have hpre:∀i,i<=l.length->(jP ev V (l.take i) s).2.fail=0:=fun i hi=>zDk h.stop V l s i l.length hi (by rw[htk];exact hf)
  refine zJ Tryz.func176 rfl qCH (rs:=[.slot 6]) (by kernel_rfl) ?_
  (conv in zWz=>cbv)
  simp[eS,hP];intro hl;refine qM (S:=Nat) (fun i=>[(0,.ptr 0 0),(2,scE V),(7,.row 1 i),(10,.sl l.length (qL l)),(11,int l.length),(12,int i)])
   (fun i=>eS p F (jP ev V (l.take i) s).2++[.row false 46 3 i (zS (jP ev V (l.take i) s).1)]) (fun i=>i<=l.length) (fun i=>l.length-i) 0 (by simp)
   ((jW (t:=7) (by simp) 46 3).trans (mw [0,1] 0 (by rfl) (by simp[eS,hP,h00]))) ?_
  intro i hi;by_cases hil:i<l.length
  .have hsn:=zBt ev V l[i] (l.take i) s;rw[<-jA8 hil]at hsn;have hp1:=hpre (i+1) hil;rw[hsn]at hp1;have hr:=(h.ok l[i] V (jP ev V (l.take i) s).2 (hpre i hi) (hA _ (jA3 hil) _) (hst i)).ret hp1;have hdr:=yT hil;have hln:=hln i hi;generalize hFn:jP ev V (l.take (i+1)) s=Fn at hsn;subst hsn;generalize hFi:jP ev V (l.take i) s=Fi at *
   obtain⟨vs,si⟩:=Fi;simp only at *
   generalize ev l[i] V si=rk at *
   obtain⟨v,sk⟩:=rk;simp only at *
   simp[eS,hP,hil,hdr,hFi,zH];refine mr hr [0] (by simp[eS,hP,zH]) ?_;simp[eS,hP,zL];refine⟨⟨by simp[maxLen];omega,by omega⟩,?_⟩;exact zN (i+1) hil (by omega) (mw [0,1] 0 (by rfl) (by simp[eS,hP,hFn,cU,z6 hil hl]))
  .have hil:i=l.length:=by omega
   subst hil;rw[htk];generalize jP ev V l s=Fi at *
   obtain⟨vs,si⟩:=Fi;simp;exact mv [0] 1 (by rfl) (by simp[eS,hP])
 .intro hf;obtain⟨k,hk,hk0,hk1⟩:=zDj h.stop V l s hs hf;have hpre:∀i,i<=k->(jP ev V (l.take i) s).2.fail=0:=fun i hi=>zDk h.stop V l s i k hi hk0
  rw[<-hk1]at hf ⊢;refine pM Tryz.func176 rfl qCH (rs:=[.slot 6]) (by kernel_rfl) ?_
  (conv in zWz=>cbv);unfold wpF
  simp[eS,hP];intro hl;refine qM (S:=Nat) (fun i=>[(0,.ptr 0 0),(2,scE V),(7,.row 1 i),(10,.sl l.length (qL l)),(11,int l.length),(12,int i)])
   (fun i=>eS p F (jP ev V (l.take i) s).2++[.row false 46 3 i (zS (jP ev V (l.take i) s).1)]) (fun i=>i<=k) (fun i=>l.length-i) 0 (by simp)
   ((jW (t:=7) (by simp) 46 3).trans (mw [0,1] 0 (by rfl) (by simp[eS,hP,h00]))) ?_
  intro i hi;have hil:i<l.length:=by omega
  have hdr:=yT hil;have hok:=h.ok l[i] V (jP ev V (l.take i) s).2 (hpre i hi) (hA _ (jA3 hil) _) (hst i);by_cases hik:i<k
  .have hsn:=zBt ev V l[i] (l.take i) s;rw[<-jA8 hil]at hsn;have hp1:=hpre (i+1) hik;rw[hsn]at hp1;have hr:=hok.ret hp1;have hln:=hln i (by omega);generalize hFn:jP ev V (l.take (i+1)) s=Fn at hsn;subst hsn;generalize hFi:jP ev V (l.take i) s=Fi at *
   obtain⟨vs,si⟩:=Fi;simp only at *
   generalize ev l[i] V si=rk at *
   obtain⟨v,sk⟩:=rk;simp only at *
   simp[eS,hP,hil,hdr,hFi,zH];refine mr hr [0] (by simp[eS,hP,zH]) ?_;simp[eS,hP,zL];refine⟨⟨by simp[maxLen];omega,by omega⟩,?_⟩;exact zN (i+1) hik (by omega) (mw [0,1] 0 (by rfl) (by simp[eS,hP,hFn,cU,z6 hil hl]))
  .have hik:i=k:=by omega
   subst hik;have hr:=hok.pan hf;generalize hFi:jP ev V (l.take i) s=Fi at *
   obtain⟨vs,si⟩:=Fi;simp only at *
   simp[eS,hP,hil,hdr,hFi,zH];refine zAw hr [0] (by decide) (by simp[eS,hP]) (by simp[zH]) fun τ=>?_
   simp
noncomputable def zW0:K:=zY Tryz.prog Tryz.f72 qB []
theorem qCI:ky Tryz.f72 zW0:=m_ (by kernel_rfl)
theorem zIu(h:IhE p F m ev)(d:Dfn)(vs:wH)(hl:vs.length=d.slots.length)(hd6:d.slots.length<=6)(hs:s.fail=0)(hA:Adm p d.body (i5 d.slots vs) {s with ds:=s.ds++[d.id]})(hB:Fu m s) :
 RP 72 [.ptr 0 0,.agg (zI d),.sl vs.length (zS vs)] p F s (.agg (zL (eO ev d vs s).1)) (eO ev d vs s).2:=by
 have hP:=eP p;have hx:eO ev d vs s=ev d.body (i5 d.slots vs) {s with ds:=s.ds++[d.id]}:=by unfold eO;rw[if_neg (by simp[hs])]
 rw[hx];have he:=h.ok _ _ _ (by exact hs) hA ((zDI m).dfn d.id s hB);generalize ev d.body (i5 d.slots vs) {s with ds:=s.ds++[d.id]}=r at *
 have hel:=zA5 d.slots vs hl;have hall:(i5 d.slots vs).take d.slots.length=i5 d.slots vs:=by rw[<-hel];exact jAr
 constructor
 .intro hf;refine zJ Tryz.func72 rfl qCI (rs:=[.cell 6 3 true]) (by kernel_rfl) ?_
  (conv in zW0=>cbv)
  simp[eS,hP,zI];intro hls;refine qM (S:=Nat) (fun i=>[(0,.ptr 0 0),(2,.sl vs.length (zS vs)),(4,.ptr 1 0),(6,.ptr 2 0),(7,scE ((i5 d.slots vs).take i)),(11,.sl d.slots.length (jF d.slots)),(12,int d.slots.length),(13,int i)])
   (fun i=>eS p F s++[.box (zI d),.box [int 0,int 0,.nil]]) (fun i=>i<=d.slots.length) (fun i=>d.slots.length-i) 0 (by simp)
   (mw [0,1,2] 0 (by rfl) (by simp[eS,hP,zI])) ?_
  intro i hi;by_cases hil:i<d.slots.length
  .have hiv:i<vs.length:=by omega
   have hdr:=jN hil;have hdv:=jY hiv;have htk:=zFC hl hil;have hw:=iF ((i5 d.slots vs).take i).reverse ⟨d.slots[i].id,0,vs[i]⟩;simp[eS,hP,hil,hiv,hdr,hdv,j4];refine zZ hw (by simp[zG,zL]) (by simp) ?_;simp;exact zN (i+1) hil (by omega) (mw [0,1,2] 0 (by rfl) (by simp[eS,hP,zI,z6 hil hls,htk]))
  .have hil:i=d.slots.length:=by omega
   subst hil;rw[hall];simp[eS,hP,zI];refine mr (he.ret hf) [0] (by simp[eS,hP,zH]) ?_;simp[eS,hP,zL];exact mv [0] 0 (by rfl) (by simp[zL])
 .intro hf;refine pM Tryz.func72 rfl qCI (rs:=[.cell 6 3 true]) (by kernel_rfl) ?_
  (conv in zW0=>cbv);unfold wpF
  simp[eS,hP,zI];intro hls;refine qM (S:=Nat) (fun i=>[(0,.ptr 0 0),(2,.sl vs.length (zS vs)),(4,.ptr 1 0),(6,.ptr 2 0),(7,scE ((i5 d.slots vs).take i)),(11,.sl d.slots.length (jF d.slots)),(12,int d.slots.length),(13,int i)])
   (fun i=>eS p F s++[.box (zI d),.box [int 0,int 0,.nil]]) (fun i=>i<=d.slots.length) (fun i=>d.slots.length-i) 0 (by simp)
   (mw [0,1,2] 0 (by rfl) (by simp[eS,hP,zI])) ?_
  intro i hi;by_cases hil:i<d.slots.length
  .have hiv:i<vs.length:=by omega
   have hdr:=jN hil;have hdv:=jY hiv;have htk:=zFC hl hil;have hw:=iF ((i5 d.slots vs).take i).reverse ⟨d.slots[i].id,0,vs[i]⟩;simp[eS,hP,hil,hiv,hdr,hdv,j4];refine zZ hw (by simp[zG,zL]) (by simp) ?_;simp;exact zN (i+1) hil (by omega) (mw [0,1,2] 0 (by rfl) (by simp[eS,hP,zI,z6 hil hls,htk]))
  .have hil:i=d.slots.length:=by omega
   subst hil;rw[hall];simp[eS,hP,zI];refine zAw (he.pan hf) [0] (by decide) (by simp[eS,hP]) (by simp[zH]) fun τ=>?_
   simp
end
section
variable{p:Prg}{c:Nat}{m:Int}{ev:Evl}{e:Exp}{V:wM}{s:XS}
def zW8(p:Prg):Prop:=∀d∈p.defs,d.slots.length<=6/\d.slots.Pairwise fun a b=>a.id≠b.id
theorem zM4{ss:List Slt}(hnd:ss.Pairwise fun a b=>a.id≠b.id)(vs:wH)(hl:vs.length=ss.length):NdV (i5 ss vs):=by
 unfold NdV;rw[jCr];intro i j hi hj hij e;have hi':i<ss.length:=by rw[zA5 ss vs hl]at hi;exact hi
 have hj':j<ss.length:=by rw[zA5 ss vs hl]at hj;exact hj
 have:=jCr.1 hnd i j hi' hj' hij;have e1:(i5 ss vs)[i].id=ss[i].id:=by simp[i5]
 have e2:(i5 ss vs)[j].id=ss[j].id:=by simp[i5]
 exact this (by rw[<-e1,<-e2];exact e.1)
end
section
variable{p:Prg}{c:Nat}{m:Int}{ev:Evl}{e:Exp}{V:wM}{s:XS}
end
def cD(ev:Evl)(e:Exp)(V:wM)(v:Val)(s:XS):Val×XS :=
 if e.k=5 then ev (e.kids.getD (if v.n=1 then 1 else 2) .zero) V s
 else if e.k=6 then ev (e.kids.getD 1 .zero) (V++[⟨e.id,0,v⟩]) s
 else if e.k=8 then (v.kids.getD e.n.toNat vz,s)
 else if e.k=10 then ev (e.kids.getD (1+v.n).toNat .zero) (V++[⟨e.id,v.n,v.kids.headD vz⟩]) s
 else yR ev V e.id (e.kids.getD 2 .zero) v.kids (ev (e.kids.getD 1 .zero) V s)
variable{s:XS}
theorem zN3{ev:Evl}{e:Exp}(h:(ev (e.kids.headD .zero) V s).2.fail=0):bD ev e V s=cD ev e V (ev (e.kids.headD .zero) V s).1 (ev (e.kids.headD .zero) V s).2:=by unfold bD cD;rw[if_neg (fun hn=>hn h)]
section
variable{p:Prg}{F m:Int}{ev:Evl}{B:wI}{e:Exp}{V:wM}{v:Val}{s:XS}
def qEf:Nat->Option wD:=fun|7=>k_ [0,0,0,0,0,0,0,0,0,0,10,0] | 11=>k_ [0,0,0,0,0,0,0,0,0,0,0,0,0,0,0,0,0,0,10,0] | 16=>k_ [0,0,0,0,0,0,0,0,0,0,0,0,0,0,10,0]|_=>none
noncomputable def zBq:K:=zY Tryz.prog Tryz.f178 qEf []
theorem zCM:kx Tryz.f178 qEf zBq:=mz (by kernel_rfl)
abbrev BrE(p:Prg)(F:Int)(e:Exp)(V:wM)(v:Val)(s:XS)(r:Val×XS):Prop:=RP 178 [.ptr 0 0,.agg (zH e),scE V,.agg (zL v)] p F s (.agg (zL r.1)) r.2
variable{a b:Exp}
theorem zSX{d:Exp}{x:Int}(hx:x=0\/x=1)(hk:e.k=5)(hks:e.kids=[a,b,d])(hb:zFa p F b V s (ev b V s))(hd:zFa p F d V s (ev d V s)):BrE p F e V (.mk 1 x []) s (cD ev e V (.mk 1 x []) s):=by
 have hP:=eP p;have hY:cD ev e V (.mk 1 x []) s=ev (if x=1 then b else d) V s:=by unfold cD;rw[hks];rcases hx with rfl|rfl<;>simp[hk,jE]
 rw[hY];rcases hx with rfl|rfl
 .rw[if_neg (by decide)];generalize ev d V s=r at *
  constructor
  .intro hf;refine zO Tryz.func178 rfl zCM (rs:=[.cell 8 3 true]) (by kernel_rfl) ?_
   (conv in zBq=>cbv)
   simp[eS,hP,zH,zL,hk,hks,zM,j3,jE,qE];refine mr (hd.ret hf) [0] (by simp[eS,hP,zH]) ?_;simp[eS,hP,zL];exact mv [0] 0 (by rfl) (by simp[zL])
  .intro hf;refine aZ Tryz.func178 rfl zCM (rs:=[.cell 8 3 true]) (by kernel_rfl) ?_
   (conv in zBq=>cbv);unfold wpF
   simp[eS,hP,zH,zL,hk,hks,zM,j3,jE,qE];refine zAw (hd.pan hf) [0] (by decide) (by simp[eS,hP]) (by simp[zH]) fun τ=>?_
   simp
 .rw[if_pos rfl];generalize ev b V s=r at *
  constructor
  .intro hf;refine zO Tryz.func178 rfl zCM (rs:=[.cell 8 3 true]) (by kernel_rfl) ?_
   (conv in zBq=>cbv)
   simp[eS,hP,zH,zL,hk,hks,zM,j3,jE,qE];refine mr (hb.ret hf) [0] (by simp[eS,hP,zH]) ?_;simp[eS,hP,zL];exact mv [0] 0 (by rfl) (by simp[zL])
  .intro hf;refine aZ Tryz.func178 rfl zCM (rs:=[.cell 8 3 true]) (by kernel_rfl) ?_
   (conv in zBq=>cbv);unfold wpF
   simp[eS,hP,zH,zL,hk,hks,zM,j3,jE,qE];refine zAw (hb.pan hf) [0] (by decide) (by simp[eS,hP]) (by simp[zH]) fun τ=>?_
   simp
theorem zSY(hk:e.k=6)(hks:e.kids=[a,b])(hb:zFa p F b (V++[⟨e.id,0,v⟩]) s (ev b (V++[⟨e.id,0,v⟩]) s)):BrE p F e V v s (cD ev e V v s):=by
 have hP:=eP p;have hY:cD ev e V v s=ev b (V++[⟨e.id,0,v⟩]) s:=by unfold cD;rw[hks];simp[hk]
 rw[hY];generalize ev b (V++[⟨e.id,0,v⟩]) s=r at *
 have hw:=iF V.reverse ⟨e.id,0,v⟩;constructor
 .intro hf;refine zO Tryz.func178 rfl zCM (rs:=[.cell 8 3 true]) (by kernel_rfl) ?_
  (conv in zBq=>cbv)
  simp[eS,hP,zH,zL,hk,hks,zM,j3,jE,qE];refine zZ hw (by simp[zG,zL]) (by simp) ?_;simp[eS,hP];refine gG (hb.ret hf) [0] (by decide) (by simp[eS,hP]) (by simp[zH]) ?_;simp[eS,hP,zL];exact mv [0] 0 (by rfl) (by simp[zL])
 .intro hf;refine aZ Tryz.func178 rfl zCM (rs:=[.cell 8 3 true]) (by kernel_rfl) ?_
  (conv in zBq=>cbv);unfold wpF
  simp[eS,hP,zH,zL,hk,hks,zM,j3,jE,qE];refine zZ hw (by simp[zG,zL]) (by simp) ?_;simp[eS,hP];refine mE (hb.pan hf) [0] (by decide) (by simp[eS,hP]) (by simp[zH]) fun τ=>?_
  simp
theorem zNG{vs:wH}{j:Nat}(hk:e.k=8)(hn:e.n=j)(hs:s.fail=0)(hj:j<vs.length)(hks:e.kids=[a]):BrE p F e V (.mk 2 0 vs) s (cD ev e V (.mk 2 0 vs) s):=by
 have hP:=eP p;have hY:cD ev e V (.mk 2 0 vs) s=(vs[j],s):=by unfold cD;simp[hk,hn,qE,hj]
 rw[hY];refine⟨fun _=>?_,fun hf=>(hf hs).elim⟩;refine zO Tryz.func178 rfl zCM (rs:=[.cell 8 3 true]) (by kernel_rfl) ?_
 (conv in zBq=>cbv)
 simp[eS,hP,zH,zL,hk,hks,zM,j3,jE,qE,hn,hj,jY hj];exact mv [0] 0 (by rfl) (by simp[zL])
theorem zNH{ks:wG}{q:Nat}{x:Val}(hk:e.k=10)(hks:e.kids=a::ks)(hq:q<ks.length)(hl6:ks.length<=32768)(hb:zFa p F ks[q] (V++[⟨e.id,q,x⟩]) s (ev ks[q] (V++[⟨e.id,q,x⟩]) s)):BrE p F e V (.mk 3 q [x]) s (cD ev e V (.mk 3 q [x]) s):=by
 have hP:=eP p;have e2:(1+(q:Int)).toNat=q+1:=by omega
 have hw1:IntKind.i64.wrap (1+(q:Int))=((q+1:Nat):Int):=by rw[IntWalk.i64_in _ (by omega)];omega
 have hY:cD ev e V (.mk 3 q [x]) s=ev ks[q] (V++[⟨e.id,q,x⟩]) s:=by unfold cD;rw[hks];simp[hk,jE,qE,e2,hq]
 rw[hY];generalize ev ks[q] (V++[⟨e.id,q,x⟩]) s=r at *
 have hw:=iF V.reverse ⟨e.id,q,x⟩;have hdr:(qL (a::ks)).drop ((q+1)*15)=zH ks[q]++qL (ks.drop (q+1)):=by
  have:=yT (l:=a::ks) (i:=q+1) (by simpa using hq)
  simpa using this
 have hlt:q+1<(a::ks).length:=by simpa using hq
 generalize hQ:a::ks=Q at *
 obtain⟨M,hM⟩:∃M,M=q+1:=⟨_,rfl⟩;rw[<-hM]at hw1 hdr hlt;constructor
 .intro hf;refine zO Tryz.func178 rfl zCM (rs:=[.cell 8 3 true]) (by kernel_rfl) ?_
  (conv in zBq=>cbv)
  simp[eS,hP,zH,zL,hk,hks,j3,jE,qE,hw1,hlt,hdr];refine zZ hw (by simp[zG,zL]) (by simp) ?_;simp[eS,hP];refine gG (hb.ret hf) [0] (by decide) (by simp[eS,hP]) (by simp[zH]) ?_;simp[eS,hP,zL];exact mv [0] 0 (by rfl) (by simp[zL])
 .intro hf;refine aZ Tryz.func178 rfl zCM (rs:=[.cell 8 3 true]) (by kernel_rfl) ?_
  (conv in zBq=>cbv);unfold wpF
  simp[eS,hP,zH,zL,hk,hks,j3,jE,qE,hw1,hlt,hdr];refine zZ hw (by simp[zG,zL]) (by simp) ?_;simp[eS,hP];refine mE (hb.pan hf) [0] (by decide) (by simp[eS,hP]) (by simp[zH]) fun τ=>?_
  simp
theorem zQl{l z:Exp}{vs:wH}(h:oZ ev)(hk:e.k=12)(hks:e.kids=[l,z,b])(hz:zFa p F z V s (ev z V s))(hb:∀x a s',s'.fail=0->(∃i,(yR ev V e.id b (vs.take i) (ev z V s))=(a,s')/\vs[i]?=some x)->zFa p F b (V++[⟨e.id,0,x⟩]++[⟨e.id,1,a⟩]) s' (ev b (V++[⟨e.id,0,x⟩]++[⟨e.id,1,a⟩]) s')) :
 BrE p F e V (.mk 4 0 vs) s (cD ev e V (.mk 4 0 vs) s):=by
 have hP:=eP p;have hY:cD ev e V (.mk 4 0 vs) s=yR ev V e.id b vs (ev z V s):=by unfold cD;rw[hks];simp[hk,qE]
 rw[hY];have htk:vs.take vs.length=vs:=jAr;generalize ev z V s=r at *
 by_cases hr0:r.2.fail=0
 .have hz:=hz.ret hr0;constructor
  .intro hf;have hpre:∀i,i<=vs.length->(yR ev V e.id b (vs.take i) r).2.fail=0:=fun i hi=>zBF h V e.id b vs r i vs.length hi (by rw[htk];exact hf)
   refine zO Tryz.func178 rfl zCM (rs:=[.cell 8 3 true]) (by kernel_rfl) ?_
   (conv in zBq=>cbv)
   simp[eS,hP,zH,zL,hk,hks,zM,j3,jE,qE];refine mr hz [0] (by simp[eS,hP,zH]) ?_;simp[eS,hP,zL];intro hls;refine qM (S:=Nat) (fun i=>[(0,.ptr 0 0),(2,scE V),(5,.ptr 1 0),(8,.ptr 3 0),(9,.ptr 4 0),(83,.sl vs.length (zS vs)),(84,int vs.length),(85,int i)])
    (fun i=>eS p F (yR ev V e.id b (vs.take i) r).2++[.box (zH e),.box (zL (.mk 4 0 vs)),.box [int 0,int 0,.nil],.box (zL (yR ev V e.id b (vs.take i) r).1)]) (fun i=>i<=vs.length) (fun i=>vs.length-i) 0 (by simp)
    (mw [0,1,2,3,4] 0 (by rfl) (by simp[eS,hP,zH,zL,hks,zM,hk,yR,j3,jE,qE])) ?_
   intro i hi;by_cases hil:i<vs.length
   .have hw0:=iF V.reverse ⟨e.id,0,vs[i]⟩;have hsn:=xW ev V e.id b vs[i] (vs.take i) r;rw[<-jA8 hil]at hsn;have hdr:=jY hil;have HP1:=hpre (i+1) hil;have hok:=hb vs[i] _ _ (hpre i hi) ⟨i,rfl,jA0 hil⟩;generalize hFn:yR ev V e.id b (vs.take (i+1)) r=Fn at hsn HP1;subst hsn;generalize hFi:yR ev V e.id b (vs.take i) r=Fi at *
    obtain⟨acc,si⟩:=Fi;simp only at *
    have hw1:=iF (⟨e.id,0,vs[i]⟩::V.reverse) ⟨e.id,1,acc⟩;generalize ev b (V++[⟨e.id,0,vs[i]⟩]++[⟨e.id,1,acc⟩]) si=rk at *
    obtain⟨v',sk⟩:=rk;simp only at *
    simp[eS,hP,zH,zL,hil,hdr,hks,zM,hFi,j3,jE,qE];refine zZ hw0 (by simp[zG,zL]) (by simp) ?_;simp[eS,hP];refine zZ hw1 (by simp[zG,zL]) (by simp) ?_;simp[eS,hP];refine gG (hok.ret HP1) [0] (by decide) (by simp[eS,hP]) (by simp[zH]) ?_;simp[eS,hP,zL];exact zN (i+1) hil (by omega) (mw [0,1,2,3,4] 0 (by rfl) (by simp[eS,hP,zH,zL,hks,zM,hFn,hk,j3,jE,qE,z6 hil hls]))
   .have hil:i=vs.length:=by omega
    subst hil;rw[htk];simp[eS,hP,zL];exact mv [0] 0 (by rfl) (by simp[zL])
  .intro hf;obtain⟨k,hk1,hk0,hk2⟩:=zC0 h V e.id b vs r hr0 hf;have hpre:∀i,i<=k->(yR ev V e.id b (vs.take i) r).2.fail=0:=fun i hi=>zBF h V e.id b vs r i k hi hk0
   rw[<-hk2]at hf ⊢;refine aZ Tryz.func178 rfl zCM (rs:=[.cell 8 3 true]) (by kernel_rfl) ?_
   (conv in zBq=>cbv);unfold wpF
   simp[eS,hP,zH,zL,hk,hks,zM,j3,jE,qE];refine mr hz [0] (by simp[eS,hP,zH]) ?_;simp[eS,hP,zL];intro hls;refine qM (S:=Nat) (fun i=>[(0,.ptr 0 0),(2,scE V),(5,.ptr 1 0),(8,.ptr 3 0),(9,.ptr 4 0),(83,.sl vs.length (zS vs)),(84,int vs.length),(85,int i)])
    (fun i=>eS p F (yR ev V e.id b (vs.take i) r).2++[.box (zH e),.box (zL (.mk 4 0 vs)),.box [int 0,int 0,.nil],.box (zL (yR ev V e.id b (vs.take i) r).1)]) (fun i=>i<=k) (fun i=>vs.length-i) 0 (by simp)
    (mw [0,1,2,3,4] 0 (by rfl) (by simp[eS,hP,zH,zL,hks,zM,hk,yR,j3,jE,qE])) ?_
   intro i hi;have hil:i<vs.length:=by omega
   have hw0:=iF V.reverse ⟨e.id,0,vs[i]⟩;have hsn:=xW ev V e.id b vs[i] (vs.take i) r;rw[<-jA8 hil]at hsn;have hdr:=jY hil;have hok:=hb vs[i] _ _ (hpre i hi) ⟨i,rfl,jA0 hil⟩;by_cases hik:i<k
   .have HP1:=hpre (i+1) hik;generalize hFn:yR ev V e.id b (vs.take (i+1)) r=Fn at hsn HP1;subst hsn;generalize hFi:yR ev V e.id b (vs.take i) r=Fi at *
    obtain⟨acc,si⟩:=Fi;simp only at *
    have hw1:=iF (⟨e.id,0,vs[i]⟩::V.reverse) ⟨e.id,1,acc⟩;generalize ev b (V++[⟨e.id,0,vs[i]⟩]++[⟨e.id,1,acc⟩]) si=rk at *
    obtain⟨v',sk⟩:=rk;simp only at *
    simp[eS,hP,zH,zL,hil,hdr,hks,zM,hFi,j3,jE,qE];refine zZ hw0 (by simp[zG,zL]) (by simp) ?_;simp[eS,hP];refine zZ hw1 (by simp[zG,zL]) (by simp) ?_;simp[eS,hP];refine gG (hok.ret HP1) [0] (by decide) (by simp[eS,hP]) (by simp[zH]) ?_;simp[eS,hP,zL];exact zN (i+1) hik (by omega) (mw [0,1,2,3,4] 0 (by rfl) (by simp[eS,hP,zH,zL,hks,zM,hFn,hk,j3,jE,qE,z6 hil hls]))
   .have hik:i=k:=by omega
    subst hik;have HP1:=hf;generalize hFn:yR ev V e.id b (vs.take (i+1)) r=Fn at hsn HP1;subst hsn;generalize hFi:yR ev V e.id b (vs.take i) r=Fi at *
    obtain⟨acc,si⟩:=Fi;simp only at *
    have hw1:=iF (⟨e.id,0,vs[i]⟩::V.reverse) ⟨e.id,1,acc⟩;generalize ev b (V++[⟨e.id,0,vs[i]⟩]++[⟨e.id,1,acc⟩]) si=rk at *
    obtain⟨v',sk⟩:=rk;simp only at *
    simp[eS,hP,zH,zL,hil,hdr,hks,zM,hFi,j3,jE,qE];refine zZ hw0 (by simp[zG,zL]) (by simp) ?_;simp[eS,hP];refine zZ hw1 (by simp[zG,zL]) (by simp) ?_;simp[eS,hP];refine mE (hok.pan HP1) [0] (by decide) (by simp[eS,hP]) (by simp[zH]) fun τ=>?_
    simp
 .have hx:(yR ev V e.id b vs r).2=r.2:=nA h V e.id b vs r hr0;unfold BrE;rw[hx];refine⟨fun hf=>(hr0 hf).elim,fun hf=>?_⟩;refine aZ Tryz.func178 rfl zCM (rs:=[.cell 8 3 true]) (by kernel_rfl) ?_
  (conv in zBq=>cbv);unfold wpF
  simp[eS,hP,zH,zL,hk,hks,zM,j3,jE,qE];refine zAw (hz.pan hf) [0] (by decide) (by simp[eS,hP]) (by simp[zH]) fun τ=>?_
  simp
end
def pR(p:Prg)(d:Dfn)(vs:wH)(fuel:Int):Val×XS:=eO (bG p 1 fuel.toNat) d vs ⟨fuel,0,zL9 p d.slots [],[]⟩
theorem zFH{P:Prg}:∀{ts:wQ} {vs:wH},vs.length=ts.length->(∀(j:Nat) (h1:j<ts.length) (h2:j<vs.length),eV P ts[j] vs[j]=true)->gD P ts vs=true
 |[],[],_,_=>rfl
 |t::ts,v::vs,hl,h=>by rw[gD,jA6];exact⟨h 0 (by simp) (by simp),zFH (by simpa using hl) fun j h1 h2=>h (j+1) (by simpa using h1) (by simpa using h2)⟩
 |[],v::vs,hl,_=>by simp at hl
 |t::ts,[],hl,_=>by simp at hl
theorem zNz{d:Dfn}(h:zKs d.kind=true):fA d=true:=by simp[zKs]at h;simp[fA];omega
variable{hs:wO}
theorem zN0(hf:Fit p hs):zW8 p:=fun d hd=>⟨(hf.slots d hd).2.1,(hf.slots d hd).2.2.2.1⟩
def uS(p:Prg)(F:Int)(s:XS):St:=[.box (zT p++[int F,int (F-s.fuel),int s.fail])]
section
variable{p:Prg}{F:Int}{c:Nat}{m:Int}{ev:Evl}{e:Exp}{V:wM}{s:XS}
end
section
variable{p:Prg}{c:Nat}{m:Int}{ev:Evl}{e:Exp}{V:wM}{s:XS}
section
end
end
theorem zTE(hf:Fit p hs){r:Nat}(ht:TyOk hs r t){x:Id}:Nam t x->x∈p.defs.map Dfn.id:=by
 induction ht with
 |int r=>intro hx;cases hx with
  |here _ h=>simp at h
  |kid _ k x h=>simp at h
 |bool r=>intro hx;cases hx with
  |here _ h=>simp at h
  |kid _ k x h=>simp at h
 |list r t h ih=>intro hx;cases hx with
  |here _ h=>simp at h
  |kid _ k x h hx' =>
   simp only[Typ.kids_mk,jAl]at h;subst h;exact ih hx'
 |dfn r k h h1 h2 h3 h4 ih=>intro hx;cases hx with
  |here _ h' =>
   obtain⟨d,hd,_⟩:=hf.hd k h;obtain⟨a,b⟩:=y6 hd;exact jAk.2 ⟨d,a,b⟩
  |kid _ k x h=>simp at h
structure RS(p:Prg)(L:List Id):Prop where
 ss:SS L
 sub:∀x∈L,x∈p.defs.map Dfn.id
variable{L:wF}
theorem RS.len(hf:Fit p hs)(h:RS p L):L.length<=100:=by
 have hn:L.Nodup:=by have:=h.ss;unfold SS at this;exact this.imp fun {a b} hab e=>by subst e;simp[bP]at hab
 have:=hn.length_le_of_subset (l₂:=p.defs.map Dfn.id) h.sub;have:=hf.len8;simp at *
 omega
theorem RS.nam(hf:Fit p hs)(h:RS p L){r:Nat}(ht:TyOk hs r t):RS p (zJu t L) :=
 ⟨zMW t L h.ss,fun x hx=>by
  rcases (zJv t L x).1 hx with hx|hx
  .exact h.sub x hx
  .exact zTE hf ht hx⟩
theorem RS.fold{p:Prg} {α:Type}(g : α->List Id->wF):∀(l:List α) (L:wF),(∀a∈l,∀L,RS p L->RS p (g a L))->RS p L->RS p (l.foldl (fun L a=>g a L) L)
 |[],L,_,h=>h
 |a::l,L,hg,h=>by rw[jBk];exact RS.fold g l _ (fun b hb=>hg b (by simp[hb])) (hg a (by simp) L h)
section
variable{p:Prg}{F m:Int}{ev:Evl}{B:wI}{e:Exp}{V:wM}{v:Val}{s:XS}
def qEh:Nat->Option wD:=fun|10=>k_ [0,2,0,0,0,0,10,10,0] | 12=>k_ [2,2,0,0,0,0,10,0,0] | 16=>k_ [2,2,0,0,0,0,10,0,0] | 19=>k_ [0,2,0,0,0,0,0,0,0,10,10,0]|_=>none
noncomputable def sU:K:=K.chg [43,53,71,87] [] (zY Tryz.prog Tryz.f150 qEh [(9,[2,3,4,5,6])])
theorem tE:kx Tryz.f150 qEh sU:=mz (by kernel_rfl)
abbrev VaE(p:Prg)(F:Int)(e:Exp)(V:wM)(s:XS)(r:Val×XS):Prop:=RP 150 [.ptr 0 0,.agg (zH e),scE V] p F s (.agg (zL r.1)) r.2
abbrev AlE(p:Prg)(F:Int)(e:Exp)(V:wM)(s:XS)(r:wH×XS):Prop:=RP 176 [.ptr 0 0,.sl e.kids.length (qL e.kids),scE V] p F s (.sl e.kids.length (zS r.1)) r.2
@[simp]theorem zZN{U:St}:nK 2 U = []:=rfl
theorem zTg(hs:s.fail=0)(hk:e.k=0):VaE p F e V s (.mk 0 e.n [],s):=by
 have hP:=eP p;refine⟨fun _=>?_,fun hf=>(hf hs).elim⟩;refine zO Tryz.func150 rfl tE (rs:=[.cell 6 3 true]) (by kernel_rfl) ?_
 (conv in sU=>cbv)
 simp[eS,hP,zH,hk];exact mv [0] 0 (by rfl) (by simp[zL,j3,jE,qE])
theorem zQ1(hs:s.fail=0)(hk:e.k=1)(hn:e.n=0\/e.n=1):VaE p F e V s (.mk 1 e.n [],s):=by
 have hP:=eP p;have ht:fN (decide (¬e.n=0))=.mk 1 e.n []:=by rcases hn with h|h<;>rw[h]<;>rfl
 refine⟨fun _=>?_,fun hf=>(hf hs).elim⟩;have hb:=eH (decide (¬e.n=0));rw[ht]at hb;refine zO Tryz.func150 rfl tE (rs:=[.cell 6 3 true]) (by kernel_rfl) ?_
 (conv in sU=>cbv)
 simp[eS,hP,zH,hk];refine mu hb (by simp[zL]) ?_;simp[eS,hP,zL];exact mv [0] 0 (by rfl) (by simp[zL,j3,jE,qE])
theorem zTi(hs:s.fail=0)(hk:e.k=2):VaE p F e V s (o8 V e.ref e.n,s):=by
 have hP:=eP p;have hfi:=zQt V.reverse e.ref e.n;have hfe:zCw V.reverse e.ref e.n=o8 V e.ref e.n:=rfl;rw[hfe]at hfi;generalize o8 V e.ref e.n=v at *
 refine⟨fun _=>?_,fun hf=>(hf hs).elim⟩;refine zO Tryz.func150 rfl tE (rs:=[.cell 6 3 true]) (by kernel_rfl) ?_
 (conv in sU=>cbv)
 simp[eS,hP,zH,hk];refine mu hfi (by simp[zG,zL]) ?_;simp[eS,hP,zL];exact mv [0] 0 (by rfl) (by simp[zL,j3,jE,qE])
variable{r:Val×XS}
theorem zX7{a:Exp}{ks:wG}(hk:e.k=5\/e.k=6\/e.k=8\/e.k=10\/e.k=12)(hks:e.kids=a::ks){r1:Val×XS}(ha:zFa p F a V s r1)(hb:r1.2.fail=0->BrE p F e V r1.1 r1.2 r)(hx:r1.2.fail≠0->r.2=r1.2):VaE p F e V s r:=by
 have hP:=eP p;have hk0:¬e.k=0:=by omega
 have hk1:¬e.k=1:=by omega
 have hk2:¬e.k=2:=by omega
 have hk3:¬e.k=3:=by omega
 have hk4:¬e.k=4:=by omega
 have hk7:¬e.k=7:=by omega
 have hk9:¬e.k=9:=by omega
 have hk11:¬e.k=11:=by omega
 have h15:=zM a ks;by_cases h1:r1.2.fail=0
 .have hb:=hb h1;have ha:=ha.ret h1;constructor
  .intro hf;refine zO Tryz.func150 rfl tE (rs:=[.cell 6 3 true]) (by kernel_rfl) ?_
   (conv in sU=>cbv)
   simp[eS,hP,zH,hk0,hk1,hk2,hk3,hk4,hk7,hk9,hk11];refine⟨_,_,zK (l:=[(0,.ptr 0 0),(2,scE V),(4,.rptr [int e.id.a,int e.id.b,int e.id.c,int e.k,int e.n,int e.ref.a,int e.ref.b,int e.ref.c,int e.typ.k,int e.typ.id.a,int e.typ.id.b,int e.typ.id.c,.sl e.typ.kids.length (jG e.typ.kids),.sl e.kids.length (qL e.kids),.sl e.names.length (yI e.names)]),(6,.ptr 1 0)]) (U':=eS p F s++[.box [int 0,int 0,.nil]]) [0,2] 1 (by decide) (by simp) (by simp[eS,hP]) (by simp[eS,hP,zH]),?_⟩;simp[eS,hP,zH,hks,h15];refine gG ha [0] (by decide) (by simp[eS,hP]) (by simp[zH]) ?_;simp[eS,hP,zL];refine gG (hb.ret hf) [0] (by decide) (by simp[eS,hP]) (by simp[zH,zL,hks,h15]) ?_;simp[eS,hP,zL];exact mv [0] 0 (by rfl) (by simp[zL,j3,jE,qE])
  .intro hf;refine aZ Tryz.func150 rfl tE (rs:=[.cell 6 3 true]) (by kernel_rfl) ?_
   (conv in sU=>cbv);unfold wpF
   simp[eS,hP,zH,hk0,hk1,hk2,hk3,hk4,hk7,hk9,hk11];refine⟨_,_,zK (l:=[(0,.ptr 0 0),(2,scE V),(4,.rptr [int e.id.a,int e.id.b,int e.id.c,int e.k,int e.n,int e.ref.a,int e.ref.b,int e.ref.c,int e.typ.k,int e.typ.id.a,int e.typ.id.b,int e.typ.id.c,.sl e.typ.kids.length (jG e.typ.kids),.sl e.kids.length (qL e.kids),.sl e.names.length (yI e.names)]),(6,.ptr 1 0)]) (U':=eS p F s++[.box [int 0,int 0,.nil]]) [0,2] 1 (by decide) (by simp) (by simp[eS,hP]) (by simp[eS,hP,zH]),?_⟩;simp[eS,hP,zH,hks,h15];refine gG ha [0] (by decide) (by simp[eS,hP]) (by simp[zH]) ?_;simp[eS,hP,zL];refine mE (hb.pan hf) [0] (by decide) (by simp[eS,hP]) (by simp[zH,zL,hks,h15]) fun τ=>?_
   simp
 .unfold VaE;rw[hx h1];refine⟨fun hf=>(h1 hf).elim,fun hf=>?_⟩;refine aZ Tryz.func150 rfl tE (rs:=[.cell 6 3 true]) (by kernel_rfl) ?_
  (conv in sU=>cbv);unfold wpF
  simp[eS,hP,zH,hk0,hk1,hk2,hk3,hk4,hk7,hk9,hk11];refine⟨_,_,zK (l:=[(0,.ptr 0 0),(2,scE V),(4,.rptr [int e.id.a,int e.id.b,int e.id.c,int e.k,int e.n,int e.ref.a,int e.ref.b,int e.ref.c,int e.typ.k,int e.typ.id.a,int e.typ.id.b,int e.typ.id.c,.sl e.typ.kids.length (jG e.typ.kids),.sl e.kids.length (qL e.kids),.sl e.names.length (yI e.names)]),(6,.ptr 1 0)]) (U':=eS p F s++[.box [int 0,int 0,.nil]]) [0,2] 1 (by decide) (by simp) (by simp[eS,hP]) (by simp[eS,hP,zH]),?_⟩;simp[eS,hP,zH,hks,h15];refine mE (ha.pan hf) [0] (by decide) (by simp[eS,hP]) (by simp[zH]) fun τ=>?_
  simp
variable{vs:wH}{s1:XS}
theorem zTh(hk:e.k=7)(hl:vs.length=e.kids.length)(ha:AlE p F e V s (vs,s1)):VaE p F e V s (.mk 2 0 vs,s1):=by
 have hP:=eP p;constructor
 .intro hf;refine zO Tryz.func150 rfl tE (rs:=[.cell 6 3 true]) (by kernel_rfl) ?_
  (conv in sU=>cbv)
  simp[eS,hP,zH,hk];refine mr (ha.ret hf) [0] (by simp[eS,hP]) ?_;simp[eS,hP,zL];exact mv [0] 0 (by rfl) (by simp[zL,j3,jE,qE,hl])
 .intro hf;refine aZ Tryz.func150 rfl tE (rs:=[.cell 6 3 true]) (by kernel_rfl) ?_
  (conv in sU=>cbv);unfold wpF
  simp[eS,hP,zH,hk];refine zAw (ha.pan hf) [0] (by decide) (by simp[eS,hP]) (by simp) fun τ=>?_
  simp
theorem zQ4(hk:e.k=11)(hl:vs.length=e.kids.length)(ha:AlE p F e V s (vs,s1)):VaE p F e V s (.mk 4 0 vs,s1):=by
 have hP:=eP p;constructor
 .intro hf;refine zO Tryz.func150 rfl tE (rs:=[.cell 6 3 true]) (by kernel_rfl) ?_
  (conv in sU=>cbv)
  simp[eS,hP,zH,hk];refine mr (ha.ret hf) [0] (by simp[eS,hP]) ?_;simp[eS,hP,zL];exact mv [0] 0 (by rfl) (by simp[zL,j3,jE,qE,hl])
 .intro hf;refine aZ Tryz.func150 rfl tE (rs:=[.cell 6 3 true]) (by kernel_rfl) ?_
  (conv in sU=>cbv);unfold wpF
  simp[eS,hP,zH,hk];refine zAw (ha.pan hf) [0] (by decide) (by simp[eS,hP]) (by simp) fun τ=>?_
  simp
theorem zQ3(hk:e.k=9)(hl:vs.length=e.kids.length)(ha:AlE p F e V s (vs,s1)):VaE p F e V s (.mk 3 e.n vs,s1):=by
 have hP:=eP p;constructor
 .intro hf;refine zO Tryz.func150 rfl tE (rs:=[.cell 6 3 true]) (by kernel_rfl) ?_
  (conv in sU=>cbv)
  simp[eS,hP,zH,hk];refine⟨_,_,zK (l:=[(0,.ptr 0 0),(2,scE V),(4,.rptr [int e.id.a,int e.id.b,int e.id.c,int e.k,int e.n,int e.ref.a,int e.ref.b,int e.ref.c,int e.typ.k,int e.typ.id.a,int e.typ.id.b,int e.typ.id.c,.sl e.typ.kids.length (jG e.typ.kids),.sl e.kids.length (qL e.kids),.sl e.names.length (yI e.names)]),(6,.ptr 1 0)]) (U':=eS p F s++[.box [int 0,int 0,.nil]]) [0,2] 1 (by decide) (by simp) (by simp[eS,hP]) (by simp[eS,hP,zH,hk]),?_⟩;simp[eS,hP,zH,hk];refine gG (ha.ret hf) [0] (by decide) (by simp[eS,hP]) (by simp) ?_;simp[eS,hP,zL];exact mv [0] 0 (by rfl) (by simp[zL,j3,jE,qE,hl])
 .intro hf;refine aZ Tryz.func150 rfl tE (rs:=[.cell 6 3 true]) (by kernel_rfl) ?_
  (conv in sU=>cbv);unfold wpF
  simp[eS,hP,zH,hk];refine⟨_,_,zK (l:=[(0,.ptr 0 0),(2,scE V),(4,.rptr [int e.id.a,int e.id.b,int e.id.c,int e.k,int e.n,int e.ref.a,int e.ref.b,int e.ref.c,int e.typ.k,int e.typ.id.a,int e.typ.id.b,int e.typ.id.c,.sl e.typ.kids.length (jG e.typ.kids),.sl e.kids.length (qL e.kids),.sl e.names.length (yI e.names)]),(6,.ptr 1 0)]) (U':=eS p F s++[.box [int 0,int 0,.nil]]) [0,2] 1 (by decide) (by simp) (by simp[eS,hP]) (by simp[eS,hP,zH,hk]),?_⟩;simp[eS,hP,zH,hk];refine mE (ha.pan hf) [0] (by decide) (by simp[eS,hP]) (by simp) fun τ=>?_
  simp
theorem zX8{ts:wQ}{t:Typ}(hk:e.k=4)(ho:s1.fail=0->OpT e.n ts t/\TyL p ts vs/\∀v∈vs,qN v<=256)(hl:vs.length=e.kids.length)(ha:AlE p F e V s (vs,s1)):VaE p F e V s (opV e.n vs,s1):=by
 have hP:=eP p;constructor
 .intro hf;obtain⟨ho,hv,hs⟩:=ho hf;have hop:=zX4 ho hv hs;generalize opV e.n vs=r at *
  refine zO Tryz.func150 rfl tE (rs:=[.cell 6 3 true]) (by kernel_rfl) ?_
  (conv in sU=>cbv)
  simp[eS,hP,zH,hk];refine⟨_,_,zK (l:=[(0,.ptr 0 0),(2,scE V),(4,.rptr [int e.id.a,int e.id.b,int e.id.c,int e.k,int e.n,int e.ref.a,int e.ref.b,int e.ref.c,int e.typ.k,int e.typ.id.a,int e.typ.id.b,int e.typ.id.c,.sl e.typ.kids.length (jG e.typ.kids),.sl e.kids.length (qL e.kids),.sl e.names.length (yI e.names)]),(6,.ptr 1 0)]) (U':=eS p F s++[.box [int 0,int 0,.nil]]) [0,2] 1 (by decide) (by simp) (by simp[eS,hP]) (by simp[eS,hP,zH,hk]),?_⟩;simp[eS,hP,zH,hk];refine gG (ha.ret hf) [0] (by decide) (by simp[eS,hP]) (by simp) ?_;simp[eS,hP];refine zZ hop (by simp[hl]) (by simp[zL]) ?_;simp[eS,hP,zL];exact mv [0] 0 (by rfl) (by simp[zL,j3,jE,qE])
 .intro hf;refine aZ Tryz.func150 rfl tE (rs:=[.cell 6 3 true]) (by kernel_rfl) ?_
  (conv in sU=>cbv);unfold wpF
  simp[eS,hP,zH,hk];refine⟨_,_,zK (l:=[(0,.ptr 0 0),(2,scE V),(4,.rptr [int e.id.a,int e.id.b,int e.id.c,int e.k,int e.n,int e.ref.a,int e.ref.b,int e.ref.c,int e.typ.k,int e.typ.id.a,int e.typ.id.b,int e.typ.id.c,.sl e.typ.kids.length (jG e.typ.kids),.sl e.kids.length (qL e.kids),.sl e.names.length (yI e.names)]),(6,.ptr 1 0)]) (U':=eS p F s++[.box [int 0,int 0,.nil]]) [0,2] 1 (by decide) (by simp) (by simp[eS,hP]) (by simp[eS,hP,zH,hk]),?_⟩;simp[eS,hP,zH,hk];refine mE (ha.pan hf) [0] (by decide) (by simp[eS,hP]) (by simp) fun τ=>?_
  simp
theorem zQ2{d:Dfn}(hk:e.k=3)(hd:qI p.defs e.ref=some d)(hl:vs.length=e.kids.length)(ha:AlE p F e V s (vs,s1))
 (hb:s1.fail=0->RP 72 [.ptr 0 0,.agg (zI d),.sl vs.length (zS vs)] p F s1 (.agg (zL r.1)) r.2)(hx:s1.fail≠0->r.2=s1):VaE p F e V s r:=by
 have hP:=eP p;by_cases h1:s1.fail=0
 .have hb:=hb h1;have ha:=ha.ret h1;rw[hl]at hb;constructor
  .intro hf;refine zO Tryz.func150 rfl tE (rs:=[.cell 6 3 true]) (by kernel_rfl) ?_
   (conv in sU=>cbv)
   simp[eS,hP,zH,hk];refine aO (mY p e.ref) (by simp[zT,zG]) (by simp[dL]) ?_;simp[dL,hd,zI];refine⟨_,_,zK (l:=[(0,.ptr 0 0),(2,scE V),(4,.rptr [int e.id.a,int e.id.b,int e.id.c,int e.k,int e.n,int e.ref.a,int e.ref.b,int e.ref.c,int e.typ.k,int e.typ.id.a,int e.typ.id.b,int e.typ.id.c,.sl e.typ.kids.length (jG e.typ.kids),.sl e.kids.length (qL e.kids),.sl e.names.length (yI e.names)]),(6,.ptr 1 0),(7,.rptr (zI d))]) (U':=eS p F s++[.box [int 0,int 0,.nil]]) [0,2] 1 (by decide) (by simp) (by simp[eS,hP]) (by simp[eS,hP,zH,zI,hk]),?_⟩;simp[eS,hP,zH,zI,hk];refine gG ha [0] (by decide) (by simp[eS,hP]) (by simp) ?_;simp[eS,hP];refine gG (hb.ret hf) [0] (by decide) (by simp[eS,hP]) (by simp[zI]) ?_;simp[eS,hP,zL];exact mv [0] 0 (by rfl) (by simp[zL,j3,jE,qE])
  .intro hf;refine aZ Tryz.func150 rfl tE (rs:=[.cell 6 3 true]) (by kernel_rfl) ?_
   (conv in sU=>cbv);unfold wpF
   simp[eS,hP,zH,hk];refine aO (mY p e.ref) (by simp[zT,zG]) (by simp[dL]) ?_;simp[dL,hd,zI];refine⟨_,_,zK (l:=[(0,.ptr 0 0),(2,scE V),(4,.rptr [int e.id.a,int e.id.b,int e.id.c,int e.k,int e.n,int e.ref.a,int e.ref.b,int e.ref.c,int e.typ.k,int e.typ.id.a,int e.typ.id.b,int e.typ.id.c,.sl e.typ.kids.length (jG e.typ.kids),.sl e.kids.length (qL e.kids),.sl e.names.length (yI e.names)]),(6,.ptr 1 0),(7,.rptr (zI d))]) (U':=eS p F s++[.box [int 0,int 0,.nil]]) [0,2] 1 (by decide) (by simp) (by simp[eS,hP]) (by simp[eS,hP,zH,zI,hk]),?_⟩;simp[eS,hP,zH,zI,hk];refine gG ha [0] (by decide) (by simp[eS,hP]) (by simp) ?_;simp[eS,hP];refine mE (hb.pan hf) [0] (by decide) (by simp[eS,hP]) (by simp[zI]) fun τ=>?_
   simp
 .unfold VaE;rw[hx h1];refine⟨fun hf=>(h1 hf).elim,fun hf=>?_⟩;refine aZ Tryz.func150 rfl tE (rs:=[.cell 6 3 true]) (by kernel_rfl) ?_
  (conv in sU=>cbv);unfold wpF
  simp[eS,hP,zH,hk];refine aO (mY p e.ref) (by simp[zT,zG]) (by simp[dL]) ?_;simp[dL,hd,zI];refine⟨_,_,zK (l:=[(0,.ptr 0 0),(2,scE V),(4,.rptr [int e.id.a,int e.id.b,int e.id.c,int e.k,int e.n,int e.ref.a,int e.ref.b,int e.ref.c,int e.typ.k,int e.typ.id.a,int e.typ.id.b,int e.typ.id.c,.sl e.typ.kids.length (jG e.typ.kids),.sl e.kids.length (qL e.kids),.sl e.names.length (yI e.names)]),(6,.ptr 1 0),(7,.rptr (zI d))]) (U':=eS p F s++[.box [int 0,int 0,.nil]]) [0,2] 1 (by decide) (by simp) (by simp[eS,hP]) (by simp[eS,hP,zH,zI,hk]),?_⟩;simp[eS,hP,zH,zI,hk];refine mE (ha.pan hf) [0] (by decide) (by simp[eS,hP]) (by simp) fun τ=>?_
  simp
end
section
variable{p:Prg}{F:Int}{c:Nat}{m:Int}{ev:Evl}{e:Exp}{V:wM}{s:XS}
section
variable{A:wH×XS}(hA:my 199 [.ptr 0 0,.sl e.kids.length (qL e.kids),.sl V.length (mD V)] (uS p F s) (.sl A.1.length (zS A.1)) (uS p F A.2))
include hA
end
end
section
variable{p:Prg}{c:Nat}{m:Int}{ev:Evl}{e:Exp}{V:wM}{s:XS}
end
def zNs(d:Dfn)(L:wF):wF:=if d.id∈L then namS d.slots L else L
theorem RS.namS(hf:Fit p hs){ss:List Slt}(h:∀s∈ss,TyOk hs 4 s.typ)(hL:RS p L):RS p (namS ss L) :=
 RS.fold (fun(s:Slt) L=>zJu s.typ L) ss L (fun s hs' L hL=>hL.nam hf (h s hs')) hL
theorem RS.turn(hf:Fit p hs){d:Dfn}(hd:d∈p.defs)(hL:RS p L):RS p (zNs d L):=by
 unfold zNs;split
 .exact hL.namS hf (hf.slots d hd).2.2.2.2
 .exact hL
theorem RS.rnd(hf:Fit p hs){ds:wP}(hd:∀d∈ds,d∈p.defs)(hL:RS p L):RS p (ds.foldl (fun L d=>zNs d L) L) :=
 RS.fold zNs ds L (fun d hd' L hL=>hL.turn hf (hd d hd')) hL
structure RelX(k:Int)(s s':XS):Prop where
 fuel:s'.fuel=s.fuel-k
 fail:s'.fail=s.fail
 ds:s'.ds=s.ds
 ns:s'.ns=s.ns
def oJ(s' s:XS):Prop:=(∀x∈s'.ds,x∈s.ds)/\∀x∈s'.ns,x∈s.ns
theorem oJ.rfl'(s:XS):oJ s s:=⟨fun _ h=>h,fun _ h=>h⟩
theorem oJ.trans{a b c:XS}(h:oJ a b)(k:oJ b c):oJ a c:=⟨fun x hx=>k.1 x (h.1 x hx),fun x hx=>k.2 x (h.2 x hx)⟩
theorem RelX.sub{k:Int}{s':XS}(h:RelX k s s'):oJ s' s:=⟨fun x hx=>by rw[<-h.ds];exact hx,fun x hx=>by rw[<-h.ns];exact hx⟩
theorem zSk(s:XS):InvX (oJ s) :=
 ⟨fun e t h _=>⟨h.1,fun x hx=>jBj _ (h.2 x hx)⟩,fun d t h=>⟨fun x hx=>jBj _ (h.1 x hx),h.2⟩,fun x t h=>h⟩
def Grow(ev:Evl):Prop:=∀e V s,oJ s (ev e V s).2
def qCb{α:Type}(k:Int)(r r' : α×XS):Prop:=(RelX k r.2 r'.2/\r'.1=r.1)\/(r'.2.fail≠0/\oJ r'.2 r.2)
theorem qCb.grow{α:Type}{k:Int}{r r' : α×XS}{t : α}(h:r'.2.fail≠0/\oJ r'.2 r.2)(hs:oJ r.2 s):qCb k (t,s) r':=.inr ⟨h.1,h.2.trans hs⟩
section
variable{p:Prg}{k:Int}{ev ev':Evl}
theorem Grow.all(hg:Grow ev)(V:wM)(l:wG)(s:XS):oJ s (jP ev V l s).2:=tB (I:=oJ s) (fun e V t ht=>ht.trans (hg e V t)) V l s (oJ.rfl' s)
theorem Grow.fold(hg:Grow ev)(V:wM)(i:Id)(b:Exp)(l:wH)(r:Val×XS):oJ r.2 (yR ev V i b l r).2:=vB (I:=oJ r.2) (fun e V t ht=>ht.trans (hg e V t)) V i b l r (oJ.rfl' r.2)
theorem Grow.body(hg:Grow ev)(d:Dfn)(vs:wH)(s:XS):oJ s (eO ev d vs s).2:=u4 (I:=oJ s) (zSk s) (fun e V t ht=>ht.trans (hg e V t)) d vs s (oJ.rfl' s)
end
theorem zMw(C:Int):InvX (fun s=>s.ns.length+s.fuel=C) :=
 ⟨fun e s h hf=>by unfold oI;simp only[jA5,jAx];have:(s.ns.length:Int)+s.fuel=C:=h;omega,fun d s h=>h,fun x s h=>h⟩
theorem zRQ(p:Prg)(d:Dfn)(vs:wH)(fuel:Int):((pR p d vs fuel).2.ns.length:Int)+(pR p d vs fuel).2.fuel=fuel :=
 u4 (zMw fuel) (pK (zMw fuel) 1 _) d vs _ (by simp)
theorem zUd(p:Prg)(d:Dfn)(vs:wH)(fuel:Int)(h:0<=fuel):0<=(pR p d vs fuel).2.fuel :=
 (u4 (zDI fuel) (pK (zDI fuel) 1 _) d vs _ ⟨h,jAe _⟩:Fu fuel (pR p d vs fuel).2).1
theorem RP.congr{f:FuncId}{args:wE}{F:Int}{s':XS}{r r':A}(h:RP f args p F s r s')(hr:s'.fail=0->r=r'):RP f args p F s r' s' :=
 ⟨fun hf=>by rw[<-hr hf];exact h.ret hf,h.pan⟩
section
variable{p:Prg}{F m:Int}{ev:Evl}{B:wI}{e:Exp}{t:Typ}{V:wM}{s:XS}
noncomputable def zPn:K:=zY Tryz.prog Tryz.f110 qB []
theorem zSK:ky Tryz.f110 zPn:=m_ (by kernel_rfl)
theorem zF9(hu:s.fuel<=0):zFa p F e V s (vz,{s with fail:=tP}):=by
 have hP:=eP p;refine⟨fun hf=>absurd (show tP=0 from hf) (by decide),fun _=>?_⟩;have hc:F<=F-s.fuel:=by omega
 refine pM Tryz.func110 rfl zSK (rs:=[.cell 6 3 true]) (by kernel_rfl) ?_
 (conv in zPn=>cbv);unfold wpF
 simp[eS,hP,zH,hc]
theorem zQw{r:Val×XS}(hF:F<=1000000)(hs:s.fail=0)(hu:¬s.fuel<=0)(hB:Fu F s)(hv:VaE p F e V (oI e s) r):zFa p F e V s (zIy 1 r):=by
 have hP:=eP p;obtain⟨b1,b2⟩:=hB;have hc:¬F<=F-s.fuel:=by omega
 have hw:IntKind.i64.wrap (F-s.fuel+1)=F-(s.fuel-1):=by rw[IntWalk.i64_in _ (by omega)];omega
 have he:zIy 1 r=(r.1,mG r):=by simp[zIy,zf]
 have ht:(oI e s).fuel=s.fuel-1:=rfl;rw[he];by_cases h0:r.2.fail=0
 .have hv:=hv.ret h0;by_cases hbig:zCL r.1
  .have hl:mG r={r.2 with fail:=zGQ}:=by unfold mG;rw[if_pos ⟨h0,hbig⟩]
   rw[hl];refine⟨fun hf=>absurd (show zGQ=0 from hf) (by decide),fun _=>?_⟩;refine pM Tryz.func110 rfl zSK (rs:=[.cell 6 3 true]) (by kernel_rfl) ?_
   (conv in zPn=>cbv);unfold wpF
   simp[eS,hP,zH,hc,hw];refine mr hv [0] (by simp[eS,hP,ht,zH]) ?_;simp[eS,hP,zL];refine mu (zHB r.1) (by simp[zL]) ?_;by_cases h1:256<uV r.1
   .simp[h1]
   .have h2:24<mZ r.1:=hbig.resolve_left h1;simp[h1];refine mu (zBA r.1) (by simp[zL]) ?_;simp[h2]
  .have hl:mG r=r.2:=by unfold mG;rw[if_neg fun h=>hbig h.2]
   have h1:¬256<uV r.1:=fun h=>hbig (.inl h)
   have h2:¬24<mZ r.1:=fun h=>hbig (.inr h)
   rw[hl];refine⟨fun _=>?_,fun hf=>(hf h0).elim⟩;refine zJ Tryz.func110 rfl zSK (rs:=[.cell 6 3 true]) (by kernel_rfl) ?_
   (conv in zPn=>cbv)
   simp[eS,hP,zH,hc,hw];refine mr hv [0] (by simp[eS,hP,ht,zH]) ?_;simp[eS,hP,zL];refine mu (zHB r.1) (by simp[zL]) ?_;simp[h1];refine mu (zBA r.1) (by simp[zL]) ?_;simp[h2];exact mv [0] 0 (by rfl) (by simp[zL])
 .have hl:mG r=r.2:=by unfold mG;rw[if_neg fun h=>h0 h.1]
  rw[hl];refine⟨fun hf=>(h0 hf).elim,fun _=>?_⟩;refine pM Tryz.func110 rfl zSK (rs:=[.cell 6 3 true]) (by kernel_rfl) ?_
  (conv in zPn=>cbv);unfold wpF
  simp[eS,hP,zH,hc,hw];refine zAw (hv.pan h0) [0] (by decide) (by simp[eS,hP,ht]) (by simp[zH]) fun τ=>?_
  simp
theorem zD4(h:IhE p F m ev){a:Exp}{ks:wG}{u:Typ}(hk:e.k=5\/e.k=6\/e.k=8\/e.k=10\/e.k=12)(hks:e.kids=a::ks)(ha:WE p B a u)(hV:EnvT p B V)(hN:NdV V)(hs:s.fail=0)(hB:Fu m s)
 (hb:∀v s1,s1.fail=0->Fu m s1->TyV p u v/\qN v<=256->BrE p F e V v s1 (cD ev e V v s1)):VaE p F e V s (bD ev e V s):=by
 have hh:e.kids.headD .zero=a:=by rw[hks];rfl
 refine zX7 hk hks (h.ok a V s hs (.of ha hV hN) hB) (fun h1=>?_) fun h1=>?_
 .rw[zN3 (by rw[hh];exact h1),hh];exact hb _ _ h1 (h.fu a V s hB) (h.snd a B V s u ha hV h1)
 .unfold bD;rw[hh,if_pos h1]
theorem zNN(hp:zPj p)(hsl:zW8 p)(h:IhE p F m ev)(he:WE p B e t)(hV:EnvT p B V)(hN:NdV V)(hs:s.fail=0)(hB:Fu m s):VaE p F e V s (jI p 1 ev e V s):=by
 cases he with
 |int _ i n r u ns h1 h2=>exact zTg hs rfl
 |bool _ i n r u ns h1=>exact zQ1 hs rfl h1
 |var _ i n r u ns _ hl=>exact zTi hs rfl
 |call _ i n r u ks ns hn d hd hk hl hw =>
  have e1:jI p 1 ev (.mk i 3 n r u ks ns) V s=eO ev d (jP ev V ks s).1 (jP ev V ks s).2:=by simp[jI,dfn,hd]
  rw[e1];have hdm:=(y6 hd).1;have hal:=zA3 h V ks hn hs (fun k hk s=>by obtain⟨j,hj,rfl⟩:=jAn hk;exact .of (hw j hj) hV hN) hB;have hll:=hU ev V ks s;refine zQ2 (e:=.mk i 3 n r u ks ns) (vs:=(jP ev V ks s).1) (s1:=(jP ev V ks s).2) rfl hd hll hal (fun hf=>?_) fun hf=>?_
  .obtain⟨ht,hz⟩:=p9 h.stop h.snd hV ks _ s hl hw hf;have hlen:=ht.len;rw[jAd]at hlen;exact zIu h d _ hlen (hsl d hdm).1 hf (fun _=>⟨_,_,hp r d hd (by simp[fA,hk]),EnvT.args ht hz,zM4 (hsl d hdm).2 _ hlen⟩) (tB h.fu V ks s hB)
  .unfold eO;rw[if_pos hf]
 |op _ i n r u ks ns hn ts _ ho hl hw =>
  have e1:jI p 1 ev (.mk i 4 n r u ks ns) V s=(zf true (jP ev V ks s).2 (opV n (jP ev V ks s).1),(jP ev V ks s).2):=by simp[jI]
  rw[e1];have hal:=zA3 h V ks hn hs (fun k hk s=>by obtain⟨j,hj,rfl⟩:=jAn hk;exact .of (hw j hj) hV hN) hB;refine RP.congr (zX8 (e:=.mk i 4 n r u ks ns) (ts:=ts) (t:=t) (vs:=(jP ev V ks s).1) rfl (fun hf=>?_) (hU ev V ks s) hal) fun hf=>by rw[sT hf];rfl
  obtain⟨ht,hz⟩:=p9 h.stop h.snd hV ks _ s hl hw hf;exact⟨ho,ht,hz⟩
 |record _ i n r u ks ns hn d hd hk hl hw =>
  have e1:jI p 1 ev (.mk i 7 n r u ks ns) V s=(zf true (jP ev V ks s).2 (.mk 2 0 (jP ev V ks s).1),(jP ev V ks s).2):=by simp[jI]
  rw[e1];have hal:=zA3 h V ks hn hs (fun k hk s=>by obtain⟨j,hj,rfl⟩:=jAn hk;exact .of (hw j hj) hV hN) hB;exact RP.congr (zTh (e:=.mk i 7 n r u ks ns) rfl (hU ev V ks s) hal) fun hf=>by rw[sT hf]
 |case _ i r u a ns d j hd hk hj ha =>
  have e1:jI p 1 ev (.mk i 9 j r u [a] ns) V s=(zf true (jP ev V [a] s).2 (.mk 3 j (jP ev V [a] s).1),(jP ev V [a] s).2):=by simp[jI]
  rw[e1];have hal:=zA3 h V [a] (by simp) hs (fun k hk s=>by rw[jAl.1 hk];exact .of ha hV hN) hB;exact RP.congr (zQ3 (e:=.mk i 9 j r u [a] ns) rfl (hU ev V [a] s) hal) fun hf=>by rw[sT hf];rfl
 |list _ i n r u ks ns t hn hw =>
  have e1:jI p 1 ev (.mk i 11 n r u ks ns) V s=(zf true (jP ev V ks s).2 (.mk 4 0 (jP ev V ks s).1),(jP ev V ks s).2):=by simp[jI]
  rw[e1];have hal:=zA3 h V ks hn hs (fun k hk s=>by obtain⟨j,hj,rfl⟩:=jAn hk;exact .of (hw j hj) hV hN) hB;exact RP.congr (zQ4 (e:=.mk i 11 n r u ks ns) rfl (hU ev V ks s) hal) fun hf=>by rw[sT hf]
 |ite _ i n r u a b c ns _ ha hb hc =>
  have e1:jI p 1 ev (.mk i 5 n r u [a,b,c] ns) V s=bD ev (.mk i 5 n r u [a,b,c] ns) V s:=by simp[jI]
  rw[e1];refine zD4 h (.inl rfl) rfl ha hV hN hs hB fun v s1 h1 hB1 hty=>?_
  obtain⟨x,rfl,hx⟩:=hty.1.bool_inv;exact zSX hx rfl rfl (h.ok b V s1 h1 (.of hb hV hN) hB1) (h.ok c V s1 h1 (.of hc hV hN) hB1)
 |lets _ i n r u a b ns v _ hfr ha hb =>
  have e1:jI p 1 ev (.mk i 6 n r u [a,b] ns) V s=bD ev (.mk i 6 n r u [a,b] ns) V s:=by simp[jI]
  rw[e1];refine zD4 h (.inr (.inl rfl)) rfl ha hV hN hs hB fun v s1 h1 hB1 hty=>?_
  exact zSY rfl rfl (h.ok b _ s1 h1 (.of hb (hV.push hty) (hN.push (.of (hV.ids hfr) 0))) hB1)
 |field _ i r u a ns d j hd hk hj ha =>
  have e1:jI p 1 ev (.mk i 8 j r u [a] ns) V s=bD ev (.mk i 8 j r u [a] ns) V s:=by simp[jI]
  rw[e1];refine zD4 h (.inr (.inr (.inl rfl))) rfl ha hV hN hs hB fun v s1 h1 hB1 hty=>?_
  obtain⟨_,vs,hl,rfl,_⟩:=(hty.1.def_inv hd).resolve_right (fun h=>by omega);exact zNG rfl rfl h1 (by omega) rfl
 |mtch _ i n r u a ks ns d _ hfr hd hk hl ha hw =>
  have e1:jI p 1 ev (.mk i 10 n r u (a::ks) ns) V s=bD ev (.mk i 10 n r u (a::ks) ns) V s:=by simp[jI]
  rw[e1];refine zD4 h (.inr (.inr (.inr (.inl rfl)))) rfl ha hV hN hs hB fun v s1 h1 hB1 hty=>?_
  obtain⟨_,q,x,hm,rfl,hxt⟩:=(hty.1.def_inv hd).resolve_left (fun h=>by omega);have hq:q<ks.length:=by omega
  exact zNH rfl rfl hq (by have:=(hsl d (y6 hd).1).1;omega) (h.ok ks[q] _ s1 h1 (.of (hw q hq) (hV.push ⟨hxt,pJ hty.2 (by simp[qE])⟩) (hN.push (.of (hV.ids hfr) q))) hB1)
 |fold _ i n r u l z b ns v _ hfr hl' hs' hb =>
  have e1:jI p 1 ev (.mk i 12 n r u [l,z,b] ns) V s=bD ev (.mk i 12 n r u [l,z,b] ns) V s:=by simp[jI]
  rw[e1];refine zD4 h (.inr (.inr (.inr (.inr rfl)))) rfl hl' hV hN hs hB fun v s1 h1 hB1 hty=>?_
  obtain⟨vs,rfl,hvs⟩:=hty.1.list_inv;have hfv:=hV.ids hfr;have ht2:=h.snd z B V s1 _ hs' hV;refine zQl h.stop rfl rfl (h.ok z V s1 h1 (.of hs' hV hN) hB1) fun x a s2 h2 ⟨j,hj,hx⟩=>?_
  have hxm:=jC2 hx;have hty2:=zDH h.stop h.snd hV hb (vs.take j) (ev z V s1) (fun x hx=>⟨hvs x (jCd hx),pJ hty.2 (jCd hx)⟩) ht2;have hfu:=vB h.fu V i b (vs.take j) (ev z V s1) (h.fu z V s1 hB1);rw[show (Exp.mk i 12 n r u [l,z,b] ns).id=i from rfl]at hj;rw[hj]at hty2 hfu;exact h.ok b _ s2 h2 (.of hb ((hV.push ⟨hvs x hxm,pJ hty.2 hxm⟩).push (hty2 h2)) ((hN.push (.of hfv 0)).push (.push hfv (by decide) _))) hfu
theorem zM5(hp:zPj p)(hsl:zW8 p)(hF:F<=1000000):∀n:Nat,(n:Int)<=F->IhE p F n (bG p 1 n)
 | 0,_=>⟨nF p 1 0,zAR hp 1 0,pK (zDI _) 1 0,fun e V s hs hA hB=>by rw[bG,if_neg (by simp[hs])];exact zF9 hB.2⟩
 |n+1,hn=>⟨nF p 1 (n+1),zAR hp 1 (n+1),pK (zDI _) 1 (n+1),fun e V s hs hA hB=>by
  rw[bG,if_neg (by simp[hs])];split
  .rename_i hu;exact zF9 hu
  .rename_i hu;obtain⟨B,t,he,hV,hN⟩:=hA hs;obtain⟨b1,b2⟩:=hB;exact zQw hF hs hu ⟨b1,by omega⟩ (zNN hp hsl (zM5 hp hsl hF n (by omega)) he hV hN (by exact hs) ⟨by show 0<=s.fuel-1;omega,by show s.fuel-1<=_;omega⟩)⟩
end
section
variable{p:Prg}{F:Int}{c:Nat}{m:Int}{ev:Evl}{e:Exp}{V:wM}{s:XS}
end
end Go.Proofs.YtdnelmeboihpkaaGreatDoor
namespace Go.Proofs.YtdnelmeboihpkaaGreatDoor
open Go Go.Abs
theorem zNJ(pv ps pe:Value)(w:World) :
 CallsDIn Fence.wide 0 Tryz.prog 107 #[pv,ps,pe] .returning w fun e u' w'=>e=.returned (.tuple #[])/\u'=.returning/\w'=w:=by
 refine callsDIn_of_wpSIn Tryz.func107 rfl trivial fun c₀ cs hu=>?_
 apply wpSIn_seq;apply wpSIn_region;simp[wpOpsSIn,go_sem,recoverD,hu,Tryz.ntmps107,Exit.thenS];apply wpSIn_seq;apply wpSIn_region;simp[wpOpsSIn,go_sem,Exit.thenS];refine wpSIn_cond (t:=false) (by simp[Act.eval,Array.replicate]) ?_;simp only[jAi,if_false];refine wpSIn_of_wpIn rfl (wpIn_skip ?_);cases c₀;simp_all [bodyPostS,results,Tryz.results107]
theorem zUe(k:Int)(w:World):(Instr.typeAssert (zIz k) 20 51 true).run Tryz.prog w=.ok (.tuple #[.int .i64 k,.bool true]) w:=by
 have hu:Tryz.prog.underlying 51=some (.int .i64):=by kernel_rfl
 simp[Instr.typeAssert,run_underlying hu]
def qBy:List KG:=[⟨none,.build (some 17) [(.int .i64 0),(.int .i64 0),(.slice none 0 0)] []⟩,⟨none,.mov (some 18) (.tmp 4)⟩,⟨none,.st none (.tmp 0) (.tmp 17) 3⟩,⟨none,.st none (.tmp 1) (.const (.int .i64 0)) 1⟩,⟨none,.st none (.tmp 2) (.tmp 18) 1⟩]
theorem zIw{H:Mem}{L:wL} {U:St}{w:World}{vs:wK}{q0 q1 q2:Nat}{k:Int}{older:List PanicEntry}(hs:RelSt H L U w)(hv:z8 H L [.ptr q0 0,.ptr q1 0,.ptr q2 0] vs)
 {x0 y0 z0 x1 x2:A}(b0 : U[q0]?=some (.box [x0,y0,z0]))(b1 : U[q1]?=some (.box [x1]))(b2 : U[q2]?=some (.box [x2]))(n1:q0≠q1)(n2:q0≠q2)(n3:q1≠q2) :
 CallsDIn Fence.wide 0 Tryz.prog 107 vs.toArray (.panicking ({v:=zIz k,recovered:=false}::older)) w fun e u' w'=>e=.returned (.tuple #[])/\u'=.panicking ({v:=zIz k,recovered:=true}::older) /\
  ∃H' L',Nxt H L w H' L' (((U.set q0 (.box [int 0,int 0,.nil])).set q1 (.box [int 0])).set q2 (.box [int k])) w':=by
 obtain⟨pv,vs',rfl,h0,hv⟩:=qC hv;obtain⟨ps,vs',rfl,h1,hv⟩:=qC hv;obtain⟨pe,vs',rfl,h2,hv⟩:=qC hv;rw[jK hv];refine callsDIn_of_wpSIn Tryz.func107 rfl trivial fun c₀ cs hu=>?_
 apply wpSIn_seq;apply wpSIn_region;simp[wpOpsSIn,go_sem,recoverD,hu,Tryz.ntmps107,Exit.thenS];apply wpSIn_seq;apply wpSIn_region;simp[wpOpsSIn,go_sem,Exit.thenS];refine wpSIn_cond (t:=true) (by simp[Act.eval,Array.replicate]) ?_;simp only[if_true];apply wpSIn_seq;apply wpSIn_region;simp[wpOpsSIn,go_sem,Exit.thenS,zUe];apply wpSIn_seq;apply wpSIn_seq;apply wpSIn_region;simp[wpOpsSIn,go_sem,Exit.thenS];refine wpSIn_cond (t:=false) (by simp[Act.eval,Array.replicate]) ?_;simp only[jAi,if_false];refine wpSIn_of_wpIn rfl (wpIn_skip ?_);simp only[Exit.thenS];refine wpSIn_of_wpIn rfl ?_;refine zE4 (n0:=L.length) (hint:=qB) (l:=qBy) (by kernel_rfl) (Q:=fun x env τ=>x=.norm/\τ = ((U.set q0 (.box [int 0,int 0,.nil])).set q1 (.box [int 0])).set q2 (.box [int k])) (N:=19) (env:=qK [(0,.ptr q0 0),(1,.ptr q1 0),(2,.ptr q2 0),(4,int k)]) ?_ hs ?_ fun e a' w' hp=>?_
 .refine⟨by simp,fun t=>?_⟩;rcases mR [(0,.ptr q0 0),(1,.ptr q1 0),(2,.ptr q2 0),(4,int k)] t with h|h
  .rw[h];simp[Rel]
  .generalize qK [(0,.ptr q0 0),(1,.ptr q1 0),(2,.ptr q2 0),(4,int k)] t=a at h;simp only[jA1,jBt,jAu,or_false]at h;rcases h with ⟨rfl,rfl⟩|⟨rfl,rfl⟩|⟨rfl,rfl⟩|⟨rfl,rfl⟩
   .simpa using h0
   .simpa using h1
   .simpa using h2
   .simp[Rel,Array.getElem?_append]
 .unfold qBy;simp[b0,b1,b2,n1,n2,n3,jDn]
 .obtain⟨x,env',τ,H',L',rfl,g2,g3,g4,rfl,rfl⟩:=hp;refine⟨g2,_,rfl,.tuple #[],?_,rfl,rfl,H'.1,H'.2,L',g4⟩;simp[results,Tryz.results107]
end Go.Proofs.YtdnelmeboihpkaaGreatDoor
namespace Go.Proofs.YtdnelmeboihpkaaGreatDoor
open Go.Abs
def Fl(s:XS):Prop:=s.fail=0\/s.fail=4\/s.fail=18
section
variable{p:Prg}{ev:Evl}
theorem zMn(h:∀e V s,Fl s->Fl (ev e V s).2)(V:wM):∀(l:wG) (s:XS),Fl s->Fl (jP ev V l s).2
 |[],s,hs=>hs
 |e::l,s,hs=>by simp only[jP];exact zMn h V l _ (h e V s hs)
theorem zIA(h:∀e V s,Fl s->Fl (ev e V s).2)(V:wM)(i:Id)(b:Exp):∀(l:wH) (r:Val×XS),Fl r.2->Fl (yR ev V i b l r).2
 |[],r,hs=>hs
 |e::l,r,hs=>by simp only[yR];exact zIA h V i b l _ (h _ _ _ hs)
theorem zIb(h:∀e V s,Fl s->Fl (ev e V s).2)(d:Dfn)(vs:wH)(s:XS)(hs:Fl s):Fl (eO ev d vs s).2:=by
 unfold eO;split
 .exact hs
 .exact h _ _ _ hs
theorem zKt(h:∀e V s,Fl s->Fl (ev e V s).2)(e:Exp)(V:wM)(s:XS)(hs:Fl s):Fl (bD ev e V s).2:=by
 unfold bD;have h0:=h (e.kids.headD .zero) V s hs;generalize ev (e.kids.headD .zero) V s=r at *
 repeat' split
 all_goals first
  |exact h0
  |exact h _ _ _ h0
  |exact zIA h _ _ _ _ _ (h _ _ _ h0)
theorem zPf(h:∀e V s,Fl s->Fl (ev e V s).2)(fl:Nat)(e:Exp)(V:wM)(s:XS)(hs:Fl s):Fl (jI p fl ev e V s).2:=by
 unfold jI;have h0:=zMn h V e.kids s hs;generalize jP ev V e.kids s=r at *
 repeat' split
 all_goals first
  |exact hs
  |exact h0
  |exact zKt h _ _ _ hs
  |exact zIb h _ _ _ h0
theorem zT7{r:Val×XS}(h:Fl r.2):Fl (mG r):=by
 unfold mG;split
 .exact .inr (.inl rfl)
 .exact h
theorem zJy(fl:Nat):∀(n:Nat) e V s,Fl s->Fl (bG p fl n e V s).2
 | 0,e,V,s,hs=>by
  rw[bG];split
  .exact hs
  .exact .inr (.inr rfl)
 |n+1,e,V,s,hs=>by
  rw[bG];split
  .exact hs
  .split
   .exact .inr (.inr rfl)
   .exact zT7 (zPf (zJy fl n) fl e V _ hs)
end
def s5(p:Prg)(d:Dfn)(vs:wH)(fuel:Int):Val×XS:=eO (bG p 2 fuel.toNat) d vs ⟨fuel,0,[],[]⟩
def y7(p:Prg)(id:Id)(vs:wH)(fuel:Int):Val×Int×Int:=match qI p.defs id with
 |none=>(vz,0,6)
 |some d=>if zKs d.kind=false then (vz,0,6)else if vs.length≠d.slots.length then (vz,0,1)
  else if gD p (d.slots.map Slt.typ) vs=false then (vz,0,1)else if (s5 p d vs fuel).2.fail≠0 then (vz,0,(s5 p d vs fuel).2.fail)else ((s5 p d vs fuel).1,fuel-(s5 p d vs fuel).2.fuel,0)
def rM(r:Val×Int×Int):A:=.tup [.agg (zL r.1),int r.2.1,int r.2.2]
end Go.Proofs.YtdnelmeboihpkaaGreatDoor
namespace Go.Proofs.YtdnelmeboihpkaaGreatDoor
open Go Go.Abs
def qE2:List KG:=[⟨none,.box (some 3) (.tmp 0)⟩,⟨none,.alloc (some 6) [(.int .i64 0),(.int .i64 0),(.slice none 0 0)]⟩,⟨none,.alloc (some 7) [(.int .i64 0)]⟩,⟨none,.alloc (some 8) [(.int .i64 0)]⟩]
def qE3:List KG:=[⟨none,.ld (some 10) (.tmp 3) 2 true⟩,⟨none,.mov (some 11) (.tmp 1)⟩,⟨none,.mm (some 12) true [(.tmp 11),(.const (.int .i64 0))]⟩,
 ⟨none,.build (some 13) [(.slice none 0 0),(.slice none 0 0),(.int .i64 0),(.int .i64 0)] [(0,2,(.tmp 10)),(2,1,(.tmp 12))]⟩,⟨none,.box (some 14) (.tmp 13)⟩,⟨none,.mov (some 9) (.tmp 14)⟩]
def zT4:List KG:=[⟨none,.mov (some 16) (.tmp 2)⟩,⟨none,.mov (some 17) (.tmp 9)⟩,⟨none,.call (some 18) (.tmp 16) [(.tmp 17)]⟩,⟨none,.st none (.tmp 6) (.tmp 18) 3⟩]
def qE4:List KG:=[⟨none,.addr (some 19) (.tmp 6) 2⟩,⟨none,.ld (some 20) (.tmp 19) 1 false⟩,⟨none,.call (some 21) (.func 108) [(.tmp 20)]⟩,⟨none,.addr (some 22) (.tmp 6) 2⟩,⟨none,.st none (.tmp 22) (.tmp 21) 1⟩]
def qE5:List (Nat×Nat×KG):=[(0,0,⟨none,.ld (some 23) (.tmp 6) 3 true⟩),(1,0,⟨none,.mov (some 24) (.tmp 9)⟩),(2,0,⟨none,.nilc (some 25) (.tmp 24)⟩),(3,2,⟨none,.addr (some 26) (.tmp 25) 3⟩),(4,2004,⟨none,.ld (some 27) (.tmp 26) 1 false⟩),
 (5,1004,⟨none,.st none (.tmp 6) (.tmp 23) 3⟩),(6,0,⟨none,.st none (.tmp 7) (.tmp 27) 1⟩),(7,0,⟨none,.st none (.tmp 8) (.const (.int .i64 0)) 1⟩)]
def hDo:Nat->Option wD:=fun|5=>k_ [0,0,0,2,2004,1004,0,0]|_=>none
def dfr(pv ps pe:Value):Deferred:={target:=.fn (.func 107) #[pv,ps,pe],args:=#[]}
abbrev sDo(D:St)(p:Prg)(F:Int)(v:Val)(n e:Int)(s:XS):St:=D++[.box (zT p),.box (zL v),.box [int n],.box [int e]]++eS p F s
def zHv(F:Int)(r:Val×XS):A:=if r.2.fail=0 then .tup [.agg (zL r.1),int (F-r.2.fuel),int 0]else .tup [.agg (zL vz),int 0,int r.2.fail]
noncomputable def zW1:K:=zY Tryz.prog Tryz.f71 qB []
theorem qCJ:ky Tryz.f71 zW1:=m_ (by kernel_rfl)
section
variable{p:Prg}{F:Int}{d:Dfn}{us:wH}{s:XS}{r:Val×XS}
abbrev dA(d:Dfn)(us:wH):St:=[.box (zI d),.box [.sl us.length (zS us)]]
abbrev qLi(G:Int):List (Nat×A):=[(1,int G),(2,.clo 71 [] [.ptr 0 0,.ptr 1 0]),(3,.ptr 2 0),(6,.ptr 3 0),(7,.ptr 4 0),(8,.ptr 5 0)]
abbrev zLi:List (Nat×A):=[(2,.clo 71 [] [.ptr 0 0,.ptr 1 0]),(6,.ptr 3 0),(7,.ptr 4 0),(8,.ptr 5 0),(9,.ptr 6 0)]
theorem zX0{G:Int}(hG:F=max G 0)(hs:s.fuel=F)(hz:r.2.fail=0->qN r.1<=256)
 (hret:r.2.fail=0->my 71 [.ptr 0 0,.ptr 1 0,.ptr 2 0] (eS p F s++dA d us) (.agg (zL r.1)) (eS p F r.2++dA d us))
 (hpan:r.2.fail≠0->aH Tryz.prog 71 [.ptr 0 0,.ptr 1 0,.ptr 2 0] (eS p F s++dA d us) fun o U'=>o=.pan (zIz r.2.fail)/\U'[1]?=some (.box (zI d))/\U'[2]?=some (.box [.sl us.length (zS us)])) :
 my 70 [.agg (zT p),int G,.clo 71 [] [.ptr 0 0,.ptr 1 0]] (dA d us) (zHv F r) (dA d us):=by
 have hP:=eP p;refine zAg (fun H L w vs hst hargs=>?_);have hL:L.length=2:=hst.len
 suffices h:∀R:Ending->World->Prop,(∀(v:Value) (U':St) (H':Mem) (L':wL) (w':World) (r':A),Rel H' L' r' v->Nxt H L w H' L' U' w'->s8 2 (zHv F r) (dA d us) (.ret r') U'->R (.returned v) w')->CallsIn Fence.wide 0 Tryz.prog 70 vs.toArray w R from
  callsIn_wide.1 (h _ fun v U' H' L' w' r' g1 g2 g3=>⟨.ret r',U',H',L',⟨v,rfl,g1⟩,g2,g3⟩)
 intro R hR;refine callsIn_of_wp_defers (n:=0) (F:=Fence.wide) Tryz.func70 rfl trivial ?_;refine zBe (n0:=2) (hint:=hDo) (l:=qE2) (N:=28) (by kernel_rfl) (zCk hargs _) hst (Q:=fun x env τ=>x=.norm/\bQ 2 (qK (qLi G))
  (dA d us++[.box (zT p),.box (zL vz),.box [int 0],.box [int 0]]) env τ) ?_ (fun env' τ H' L' w' a' hd' he' hn' hq'=>?_) (fun x _ _ _ _ _ _ hx _ _ _ hq=>(hx hq.1).elim)
 .unfold qE2;simp[hP];exact mw [0,1,2,3,4,5] 0 (by rfl) (by simp[zL,j3,jE,qE])
 obtain⟨H',L',hn',he'⟩:=hq'.2 _ _ _ _ _ _ _ _ hL hn' he';refine zBe (n0:=2) (hint:=hDo) (l:=qE3) (N:=28) (by kernel_rfl) he' hn'.st (Q:=fun x env τ=>x=.norm/\bQ 2 (qK zLi) (sDo (dA d us) p F vz 0 0 s) env τ)
  ?_ (fun env' τ H1 L1 w' a' hd'' he1 hn1 hq1=>?_) (fun x _ _ _ _ _ _ hx _ _ _ hq=>(hx hq.1).elim)
 .unfold qE3;simp[hP];exact kf [0,1,2,3,4,5,6] 0 (by rfl) (by simp[zL,j3,jE,qE,eS,hP,hs];omega) (by simp)
 rw[hd']at hd'';obtain⟨H',L',hn',he'⟩:=hq1.2 _ _ _ _ _ _ _ _ hL (hn'.trans hn1) he1;have hmf:∀(fn:Fn) (first cap:Array Value) (w:World),(Instr.makeFunc fn first cap).run Tryz.prog w=.ok (.func fn first cap) w:=fun _ _ _ _=>rfl
 have hsz:28<=a'.tmps.size:=he'.1;have hsz':15<a'.tmps.size:=by omega
 refine wpIn_seq (wpIn_region_list ?_);simp only[wpListIn];simp[Region.wanted,Oper.wpIn,Oper.uponIn,go_sem,hmf,Exit.then,hsz',hd'',wpListIn];have h6:=he'.2 6;have h7:=he'.2 7;have h8:=he'.2 8;rw[jDv]at h6 h7 h8;have he3:∀X,qG H' L' 28 (qK zLi) (a'.tmps.setIfInBounds 15 X):=fun X=>by
  have:=he'.put (a:=a') (d:=some 15) (fun x hx=>by cases hx;omega) (r:=.any) (v:=X) (by simp[Rel]);have h15:Env.put (qK zLi) (some 15) .any=qK zLi:=by
   funext t;simp only[Env.put];split
   .rename_i ht;subst ht;rfl
   .rfl
  rw[h15]at this;exact this
 generalize a'.tmps[6]?.getD undef=pv at *
 generalize a'.tmps[7]?.getD undef=ps at *
 generalize a'.tmps[8]?.getD undef=pe at *
 have he3:=he3 (Value.func (Fn.func 107) #[] #[pv,ps,pe]);generalize a'.tmps.setIfInBounds 15 (Value.func (Fn.func 107) #[] #[pv,ps,pe])=tm at *
 have idle:∀(pv ps pe:Value) (tm:Array Value) (w3:World) (v:Value),(results Tryz.f70 tm).run Tryz.prog w3=.ok v w3->R (.returned v) w3->LeavesIn Fence.wide 0 Tryz.prog Tryz.f70 tm R [dfr pv ps pe] .returning w3:=fun pv ps pe tm w3 v g1 g2=>by refine leavesIn_cons (f:=107) (args:=#[pv,ps,pe]) (by simp) (by simp[Fence.wide]) (by simp[go_sem]) (fun _ _=>trivial) ?_;refine(zNJ pv ps pe w3).mono ?_;rintro e u' w'' ⟨rfl,rfl,rfl⟩;exact⟨v,g1,g2⟩
 by_cases hf:r.2.fail=0
 .refine zBe (n0:=2) (hint:=hDo) (l:=zT4) (N:=28) (by kernel_rfl) he3 hn'.st (Q:=fun x env τ=>x=.norm/\bQ 2 (qK zLi) (sDo (dA d us) p F r.1 0 0 r.2) env τ) ?_
   (fun env' τ H1 L1 w1 a1 hd1 he1 hn1 hq1=>?_) (fun x _ _ _ _ _ _ hx _ _ _ hq=>(hx hq.1).elim)
  .unfold zT4;simp[eS,hP];refine mr (hret hf) [6,0,1] (by simp[eS,hP]) ?_;simp[eS,hP,zL];exact mw [0,1,2,3,4,5,6] 0 (by rfl) (by simp[zL])
  obtain⟨H',L',hn',he'⟩:=hq1.2 _ _ _ _ _ _ _ _ hL (hn'.trans hn1) he1;have hco:=xK r.1.kids (by have:=hz hf;have:=iP r.1;omega);refine zBe (n0:=2) (hint:=hDo) (l:=qE4) (N:=28) (by kernel_rfl) he' hn'.st (Q:=fun x env τ=>x=.norm/\bQ 2 (qK zLi) (sDo (dA d us) p F r.1 0 0 r.2) env τ) ?_
   (fun env' τ H1 L1 w1 a1 hd2 he1 hn1 hq1=>?_) (fun x _ _ _ _ _ _ hx _ _ _ hq=>(hx hq.1).elim)
  .unfold qE4;simp[eS,hP,zL];refine mu hco (by simp) ?_;simp[eS,hP,zL];exact mw [0,1,2,3,4,5,6] 0 (by rfl) (by simp[zL])
  obtain⟨H',L',hn',he'⟩:=hq1.2 _ _ _ _ _ _ _ _ hL (hn'.trans hn1) he1;refine zRT (n0:=2) (hint:=hDo) (l:=qE5) (N:=28) (by kernel_rfl) he' hn'.st (Q:=fun x env τ=>x=.norm/\bQ 2 (qK zLi) (sDo (dA d us) p F r.1 (F-r.2.fuel) 0 r.2) env τ) ?_
   (fun env' τ H1 L1 w1 a1 hd3 he1 hn1 hq1=>?_) (fun x _ _ _ _ _ _ hx _ _ _ hq=>(hx hq.1).elim)
  .unfold qE5;simp[eS,hP,zL]
   try refine⟨(vM (by decide) (by decide)).2 (by simp[eX]),(zHF (by decide) (by decide)).2 (by simp[vE]),?_⟩
   exact mw [0,1,2,3,4,5,6] 0 (by rfl) (by simp[zL])
  obtain⟨H',L',hn',he'⟩:=hq1.2 _ _ _ _ _ _ _ _ hL (hn'.trans hn1) he1;have hds:a1.defers=[dfr pv ps pe]:=hd3.trans (hd2.trans hd1);refine wpIn_ret ?_;show LeavesIn Fence.wide 0 Tryz.prog Tryz.f70 a1.tmps R a1.defers .returning w1;rw[hds];obtain⟨v,g1,g2⟩:=uR (P:=Tryz.prog) (fn:=Tryz.f70) (rs:=[.cell 6 3 true,.cell 7 1 false,.cell 8 1 false]) (by kernel_rfl) he' hn'.st (a:=.tup [.agg (zL r.1),int (F-r.2.fuel),int 0]) (by simp[zOT,cR,oF,ldA,zL]);exact idle pv ps pe _ _ v g1 (hR v _ _ _ _ _ g2 hn' (mv [0,1] 0 (by rfl) (by simp[zHv,hf,zL])))
 .refine zBe (n0:=2) (hint:=hDo) (l:=zT4) (N:=28) (by kernel_rfl) he3 hn'.st (Q:=fun x env τ=>x=.pan (zIz r.2.fail)/\(env 6=.ptr 3 0/\env 7=.ptr 4 0/\env 8=.ptr 5 0)/\τ[0]?=some (.box (zI d))/\τ[1]?=some (.box [.sl us.length (zS us)]) /\
   τ[3]?=some (.box [int 0,int 0,.sl 0 []])/\τ[4]?=some (.box [int 0])/\τ[5]?=some (.box [int 0])) ?_ (fun env' τ H1 L1 w1 a1 hd1 he1 hn1 hq1=>by cases hq1.1) (fun x env' τ H1 L1 w1 a1 hx hd1 he1 hn1 hq1=>?_)
  .unfold zT4;simp[eS,hP];refine zBz (C:=fun vs w R=>Calls Tryz.prog _ vs.toArray w R) (xI Tryz.prog _) (hpan hf) [6,0,1] (by decide) (by simp[eS,hP]) (by simp) fun o U1 h0=>?_
   obtain⟨rfl,g1,g2⟩:=h0;have hlen:∀n,3<=(U1.map (bX [6,0,1] n)).length:=fun n=>by rw[jAd];exact(jA4.1 g2).1
   refine⟨rfl,⟨rfl,rfl,rfl⟩,?_,?_,?_,?_,?_⟩
   .rw[mS (js:=[6,0,1]) (hlen _) (by decide) (by simp) (i:=1) rfl,jC];simp[g1,bX,vwO]
   .rw[mS (js:=[6,0,1]) (hlen _) (by decide) (by simp) (i:=2) rfl,jC];simp[g2,bX,vwO]
   .rw[i9 (by simp) (by simp)];simp[zL,j3,jE,qE]
   .rw[i9 (by simp) (by simp)];simp
   .rw[i9 (by simp) (by simp)];simp
  .obtain⟨rfl,⟨e6,e7,e8⟩,t0,t1,t3,t4,t5⟩:=hq1;have l3:=(jA4.1 t3).1;have l4:=(jA4.1 t4).1;have l5:=(jA4.1 t5).1;have hds:a1.defers=[dfr pv ps pe]:=hd1;show LeavesIn Fence.wide 0 Tryz.prog Tryz.f70 a1.tmps R a1.defers (.panicking [{v:=zIz r.2.fail,recovered:=false}]) w1;rw[hds];refine leavesIn_cons (f:=107) (args:=#[pv,ps,pe]) (by simp) (by simp[Fence.wide]) (by simp[go_sem]) (fun _ _=>trivial) ?_;refine(zIw (vs:=[pv,ps,pe]) hn1.st (qV (Rel.mono hn1.step.hle hn1.lle _ h6) (qV (Rel.mono hn1.step.hle hn1.lle _ h7) (qV (Rel.mono hn1.step.hle hn1.lle _ h8) jR))) t3 t4 t5 (by decide) (by decide) (by decide)).mono ?_;rintro e u' w'' ⟨rfl,rfl,H2,L2,hn2⟩;obtain⟨v,g1,g2⟩:=uR (P:=Tryz.prog) (fn:=Tryz.f70) (rs:=[.cell 6 3 true,.cell 7 1 false,.cell 8 1 false]) (by kernel_rfl) (he1.mono hn2.step.hle hn2.lle) hn2.st (a:=.tup [.agg [int 0,int 0,.nil],int 0,int r.2.fail])
    (by simp[zOT,cR,oF,ldA,e6,e7,e8,jDn,l3,l4,l5])
   exact⟨v,g1,hR v _ _ _ _ _ g2 (hn'.trans (hn1.trans hn2)) (mv [0,1] 0 (by rfl) (by simp[t0,t1,zHv,hf,zL,j3,jE,qE]))⟩
end
end Go.Proofs.YtdnelmeboihpkaaGreatDoor
namespace Go.Proofs.YtdnelmeboihpkaaGreatDoor
open Go.Abs
theorem zUn(p:Prg)(d:Dfn)(vs:wH)(fuel:Int):Fl (s5 p d vs fuel).2:=zIb (zJy 2 fuel.toNat) d vs _ (.inl rfl)
end Go.Proofs.YtdnelmeboihpkaaGreatDoor

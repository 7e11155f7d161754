/- What is proved: the maker of programs returns a typed program, whose nodes have IDs of the -/
import Derived.Test.YtolkhapmieigcaaGreatDoorX15
set_option linter.unusedVariables false
set_option maxHeartbeats 8000000
set_option maxRecDepth 100000
set_option linter.unusedSimpArgs false
open Go.Proofs.Tryz
namespace Go.Proofs.YtolkhapmieigcaaGreatDoor
open Go.Abs
theorem zWT{hs:wQ}{n:Nat}{ms:Nat->Mk}(hf:∀i<n,zNB hs i (ms i) (ms (i+1))):∀i≤n,(ms 0).temp<=(ms i).temp/\(∀j,i<=j->(ms i).defs[j]?=(ms 0).defs[j]?) /\
 ∀j<i,∀d,(ms 0).defs[j]?=some d->(dG d=false/\(ms i).defs[j]?=some d)\/(dG d=true/\∃e lo,(ms i).defs[j]?=some (d.wb e)/\BGood hs j d lo (ms i).temp e/\(ms 0).temp<=lo)
 | 0,_=>⟨jCg _,fun _ _=>rfl,fun j hj=>by omega⟩
 |i+1,hi=>by
  obtain⟨t,c1,c2⟩:=zWT hf i (by omega);obtain⟨d,hd,ht,hc⟩:=hf i (by omega);have hlt:=(jA5.1 hd).1;have hd0:=c1 i (jA _);rw[hd]at hd0;rcases hc with ⟨hk,he⟩|⟨⟨hk0,hk1⟩,e,he,hg⟩
  .have hbd:dG d=false:=by rcases hk with h|h<;>simp[dG,h]
   refine⟨by omega,fun j hj=>by rw[he];exact c1 j (by omega),fun j hj d' hd'=>?_⟩;rw[he];by_cases e:j=i
   .subst e;rw[<-hd0]at hd';cases hd';exact .inl ⟨hbd,hd⟩
   .rcases c2 j (by omega) d' hd' with h|⟨h,e,lo,h1,h2,h3⟩
    .exact .inl h
    .exact .inr ⟨h,e,lo,h1,⟨h2.wt,h2.seg.mono (jCg _) ht,h2.num,h2.len⟩,h3⟩
  .have hbd:dG d=true:=by simp[dG,hk0,hk1]
   refine⟨by omega,fun j hj=>by rw[he,jAh (by omega)];exact c1 j (by omega),fun j hj d' hd'=>?_⟩;rw[he];by_cases e:j=i
   .subst e;rw[<-hd0]at hd';cases hd';exact .inr ⟨hbd,_,_,jAo hlt,hg,t⟩
   .rw[jAh (Ne.symm e)];rcases c2 j (by omega) d' hd' with h|⟨h,e,lo,h1,h2,h3⟩
    .exact .inl h
    .exact .inr ⟨h,e,lo,h1,⟨h2.wt,h2.seg.mono (jCg _) ht,h2.num,h2.len⟩,h3⟩
theorem zO7(l:wC)(hl:∀x∈l,w64 x=x):∃P:Prg,PrgOk l P/\my 10 [.sl l.length (aQ l)] [] (.agg (zI P)) []:=by
 obtain⟨hnm,hnm2⟩:=zJe l hl;generalize hN:nmV l=nm at *
 have m1:1<=(nm:Int):=by omega
 have m2:(nm:Int)<=2:=by omega
 generalize hps:qD l nm=ps;have h8:=(bR l nm).2;have h6:=eA l nm m1 m2 hl;rw[hps]at h8 h6;have hnr:=iI (mods:=nm) (ps:=ps) (by omega) (fun p hp=>(h6 p hp).t6) ps.length;generalize hM:zCg nm ps=M;obtain⟨m0,hm0⟩:∃m0:Mk,m0={mods:=M,defs:=pH nm ps,l:=l,at_:=24,temp:=0,left:=0,own:=0,home:=Id.zero,name:=0}:=⟨_,rfl⟩;have hi0:BInv l nm 0 m0:=by rw[hm0];exact⟨by rw[hsV,hps];rfl,by rw[hps,hM],rfl,by simp,by simp,by simp,by simp⟩
 obtain⟨ms,b0,b1,b2⟩:=zPd m1 m2 hl m0 hi0;rw[hps]at b1 b2;have hds0:(ms 0).defs=pH nm ps:=by rw[b0,hm0]
 have ht0:(ms 0).temp=0:=by rw[b0,hm0]
 have hlen:∀i≤ps.length,(ms i).defs.length=ps.length:=fun i hi=>by
  have:=congrArg List.length (b1 i hi).heads
  simpa[hps]using this
 have hslots:∀i≤ps.length,∀d∈(ms i).defs,d.slots.length<=6:=fun i hi d hd=>by obtain⟨j,hj,rfl⟩:=jAe hd;have:=zAU m1 m2 hl (i:=j) (d:=(ms i).defs[j]) (by rw[<-(b1 i hi).heads,jBi,jA2 hj];rfl) 0;have h6:=this.2.2.1;rw[vK]at h6;exact h6
 obtain⟨c0,_,c2⟩:=zWT (fun i hi=>(b2 i hi).2) ps.length (jA _);rw[ht0]at c0 c2;have htn:=(b1 ps.length (jA _)).temp1;obtain⟨N,hNn⟩:∃N:Nat,(ms ps.length).temp=N:=⟨(ms ps.length).temp.toNat,by omega⟩;have hhd:=(b1 ps.length (jA _)).heads;have hbody:∀(k:Nat) (d:Dfn),(ms ps.length).defs[k]?=some d->(dG d=false/\d.body=Exp.zero)\/(dG d=true/\WT (hsV l nm) k (cN d) d.body d.res/\(tmps d.body).Nodup/\d.body.num0/\(tmps d.body).length<=32768/\∀c∈tmps d.body,0<=c/\c<N):=fun k d hd=>by
  have hk:=(jA5.1 hd).1;rw[hlen _ (jA _)]at hk;have hd0:(ms 0).defs[k]?=some (zFm nm (bH nm ps k) k ps[k]):=by rw[hds0,jA2 (by simpa using hk),xZ nm ps hk]
  rcases c2 k hk _ hd0 with ⟨h1,h2⟩|⟨h1,e,lo,h2,h3,h4⟩
  .rw[h2]at hd;cases hd;exact .inl ⟨h1,rfl⟩
  .rw[h2]at hd;cases hd;refine .inr ⟨h1,h3.wt,h3.seg.nd,h3.num,h3.len,fun c hc=>?_⟩;have:=h3.seg.rng c hc;omega
 have hunder:∀d∈(ms ps.length).defs,dG d=true->d.body.under N/\(∀c∈tmps d.body,0<=c/\c<N)/\(tmps d.body).length<=1000000:=fun d hd hbd=>by
  obtain⟨k,hk,rfl⟩:=jAe hd;have hg:(ms ps.length).defs[k]?=some (ms ps.length).defs[k]:=jA2 hk;rcases hbody k _ hg with ⟨h,_⟩|⟨_,h1,h2,h3,h4,h5⟩
  .rw[hbd]at h;cases h
  .refine⟨zTI h1 (fun b hb h0=>?_) h5 (by omega),h5,by omega⟩;have:=(zAU m1 m2 hl (i:=k) (d:=(ms ps.length).defs[k]) (by rw[<-hhd,jBi,hg];rfl) 0).1.new b hb h0;exfalso;have hn:=(zAU m1 m2 hl (i:=k) (d:=(ms ps.length).defs[k]) (by rw[<-hhd,jBi,hg];rfl) (b.id.c-0)).1.new b hb h0;omega
 have hnames:∀d∈(ms ps.length).defs,NmD d:=fun d hd=>by
  obtain⟨k,hk,rfl⟩:=jAe hd;have hk':=hk;rw[hlen _ (jA _)]at hk';have hd0:(ms 0).defs[k]?=some (zFm nm (bH nm ps k) k ps[k]):=by rw[hds0,jA2 (by simpa using hk'),xZ nm ps hk']
  have hq:NmD (zFm nm (bH nm ps k) k ps[k]):=zMu (zJq l nm _ (by rw[hps];exact jA0 hk'));have hg:(ms ps.length).defs[k]?=some (ms ps.length).defs[k]:=jA2 hk;rcases c2 k hk' _ hd0 with ⟨h1,h2⟩|⟨h1,e,lo,h2,h3,h4⟩
  .rw[h2]at hg;rw[<-jAy hg];exact hq
  .rw[h2]at hg;rw[<-jAy hg];exact hq
 obtain⟨s,hs⟩:∃s:NSt,s=⟨(ms ps.length).defs,cJ N,bH nm ps ps.length⟩:=⟨_,rfl⟩;have hsd:s.ds=(ms ps.length).defs:=by rw[hs]
 have hsi:s.ids.length=N:=by rw[hs];simp[cJ]
 have hsn:s.next=bH nm ps ps.length:=by rw[hs]
 refine⟨⟨M,(dY s ps.length).ds⟩,⟨by rw[hN,hps,hM],?_,?_,fun k=>(dY s k).next,?_,fun k d hd=>?_⟩,?_⟩
 .rw[hN,zFL,hsd,hhd]
 .exact zFM s (by rw[hsd];exact hnames) ps.length
 .rw[hN,hps];exact hsn
 .rw[hN];have hk:=(jA5.1 hd).1;have hl1:=(vZ s ps.length).1;rw[hsd,hlen _ (jA _)]at hl1;simp only at hk hd;rw[hl1]at hk;rw[zHP s ps.length hk]at hd;have hg:s.ds[k]?=some ((ms ps.length).defs[k]'(by rw[hlen _ (jA _)];exact hk)):=by rw[hsd];exact jA2 _
  have hst:=zDi s hg;have hcur:(dY s k).ds[k]?=s.ds[k]?:=tP s k k (jA _);rw[hg]at hcur;have hil:=(vZ s k).2;rw[hsi]at hil;have hb:=hbody k _ (jA2 (by rw[hlen _ (jA _)];exact hk));generalize (ms ps.length).defs[k]'(by rw[hlen _ (jA _)];exact hk)=d' at *
  dsimp only
  rw[hst]at hd ⊢;rcases hb with ⟨h1,h2⟩|⟨h1,h2,h3,h4,h5,h6⟩
  .rw[if_neg (by simp[h1])]at hd ⊢;rw[hcur]at hd;cases hd;exact .inl ⟨h1,h2,rfl⟩
  .rw[if_pos h1]at hd ⊢;simp only at hd ⊢;rw[jAo (jA5.1 hcur).1]at hd;cases hd;refine .inr ⟨h1,d'.body,_,⟨rfl,h2,h3,h4,h5,fun j hj=>?_⟩,rfl⟩;exact zL2 _ _ _ h3 (fun x hx=>by rw[hil];exact h6 x hx) j hj
 .have hp6:∀p∈ps,p.types.length<=6:=fun p hp=>(h6 p hp).t6
  have hD:=qHj (ms ps.length) M (bH nm ps ps.length) N hNn (by omega) (by omega) (by omega) (by rw[hlen _ (jA _)];omega) hunder;rw[<-hs,hlen _ (jA _)]at hD;have hC:=qHi l M ps.length (by omega) (bH nm ps ps.length) m0 (by rw[hm0]) ms b0 hlen hslots (fun i hi=>(b2 i hi).1) ⟨M,(dY s ps.length).ds⟩ (by rw[hlen _ (jA _)];exact hD);have hm0d:m0.defs=pH nm ps:=by rw[hm0]
  rw[hm0d]at hC;have hB:=qHh l hl nm hnm2 ps hps.symm ⟨M,(dY s ps.length).ds⟩ (by rw[hM];exact hC);have ha:=eZ l 0 2 (by omega);have wn:IntKind.i64.wrap (1+atV l 0 2)=nm:=by rw[<-hnm];exact IntWalk.i64_in _ (by omega)
  refine zK func10 rfl qLz (rs:=[.cell 2 2 true]) (by kernel_rfl) ?_;unfold qDo;simp;refine mu ha (by simp) ?_;simp[wn];refine qI (S:=Nat) (fun i=>[(0,.sl l.length (aQ l)),(2,.ptr 0 0),(3,int nm),(4,.ptr 1 0),(5,int i)])
   (fun i=>[.box [.nil,.nil],.box [.row 2 i,.row 3 0],.row false 91 6 i (MC i),.row false 42 31 0 []]) (fun i=>i<=nm) (fun i=>nm-i) 0 (by simp)
   (((yN (l:=1) (o:=0) rfl rfl 91 6).trans (yN (l:=1) (o:=1) rfl rfl 42 31)).trans (mw [0,1,2,3] 0 (by rfl) (by simp[MC]))) ?_
  intro i hi;by_cases h:i<nm
  .have hi2:i=0\/i=1:=by omega
   have k0:=uL 0;have k1:=uL i;rcases hi2 with rfl|rfl
   .have k1':my 35 [int 0] [] (.agg (zS (idR 0))) []:=k0;simp[h,MC];refine aI k1' (by simp) (by simp) ?_;simp[h,zS];refine⟨by simp[maxLen],?_⟩;exact zO 1 h (by omega) (mw [0,1,2,3] 0 (by rfl) (by simp[MC,m0C,show IntKind.i64.wrap 1=1 by decide]))
   .have hn2:nm=2:=by omega
    subst hn2;have k1':my 35 [int 1] [] (.agg (zS (idR 1))) []:=uL 1;simp[MC];refine aI k1' (by simp) (by simp) ?_;simp[zS];refine mu k0 (by simp) ?_;simp[zS];refine⟨by simp[maxLen],?_⟩;exact zO 2 (by omega) (by omega) (mw [0,1,2,3] 0 (by rfl) (by simp[MC,m0C,m1C,zS,show IntKind.i64.wrap 2=2 by decide]))
  .have hie:i=nm:=by omega
   subst hie;simp;exact⟨_,_,kf [0,1,2,3] 0 (by rfl) (by rcases hnm2 with rfl|rfl<;>simp[MC,m0C,m1C,zS]) (by simp),hB⟩
inductive TyV(p:Prg):Typ->Val->Prop
 |int (n:Int) (h1 : -1099511627776<=n) (h2:n<=1099511627776):TyV p jT (.mk 0 n [])
 |bool (n:Int) (h:n=0\/n=1):TyV p j9 (.mk 1 n [])
 |list (t:Typ) (vs:List Val) (h:∀v∈vs,TyV p t v):TyV p (jX t) (.mk 4 0 vs)
 |record (id:Id) (d:Dfn) (vs:List Val) (hd:qG p.defs id=some d) (hk:d.kind=0) (hl:vs.length=d.slots.length) (h:∀(j:Nat) (hj:j<vs.length),TyV p (d.slots[j]'(hl▸hj)).typ vs[j]):TyV p (cO id) (.mk 2 0 vs)
 |case (id:Id) (d:Dfn) (n:Nat) (v:Val) (hd:qG p.defs id=some d) (hk:d.kind=1) (hn:n<d.slots.length) (h:TyV p d.slots[n].typ v):TyV p (cO id) (.mk 3 n [v])
variable{p:Prg}{v:Val}
theorem TyV.int_inv(h:TyV p jT v):∃n:Int,v=.mk 0 n []/\-1099511627776<=n/\n<=1099511627776:=by
 generalize ht:jT=t at h;cases h with
 |int n h1 h2=>exact⟨n,rfl,h1,h2⟩
 |_=>simp at ht
theorem TyV.bool_inv(h:TyV p j9 v):∃n:Int,v=.mk 1 n []/\(n=0\/n=1):=by
 generalize ht:j9=t at h;cases h with
 |bool n h=>exact⟨n,rfl,h⟩
 |_=>simp at ht
variable{u:Typ}
theorem TyV.list_inv(h:TyV p (jX u) v):∃vs:wI,v=.mk 4 0 vs/\∀x∈vs,TyV p u x:=by
 generalize ht:jX u=t at h;cases h with
 |list t vs h =>
  simp only[Typ.mk.injEq,jBd,and_true,true_and]at ht;subst ht;exact⟨vs,rfl,h⟩
 |_=>simp at ht
variable{r:Id}{d:Dfn}
theorem TyV.def_inv(hd:qG p.defs r=some d)(h:TyV p (cO r) v) :
 (d.kind=0/\∃(vs:wI) (hl:vs.length=d.slots.length),v=.mk 2 0 vs/\∀(j:Nat) (hj:j<vs.length),TyV p (d.slots[j]'(hl▸hj)).typ vs[j]) \/
 (d.kind=1/\∃(n:Nat) (x:Val) (hn:n<d.slots.length),v=.mk 3 n [x]/\TyV p d.slots[n].typ x):=by
 generalize ht:cO r=t at h;cases h with
 |record id d' vs hd' hk hl h =>
  simp only[Typ.mk.injEq,and_true,true_and]at ht;subst ht;rw[hd]at hd';cases hd';exact .inl ⟨hk,vs,hl,rfl,h⟩
 |case id d' n x hd' hk hn h =>
  simp only[Typ.mk.injEq,and_true,true_and]at ht;subst ht;rw[hd]at hd';cases hd';exact .inr ⟨hk,n,x,hn,rfl,h⟩
 |_=>simp at ht
inductive TyL(p:Prg):List Typ->List Val->Prop
 |nil:TyL p [] []
 |cons (t:Typ) (ts:List Typ) (v:Val) (vs:List Val) (h:TyV p t v) (hs:TyL p ts vs):TyL p (t::ts) (v::vs)
variable{ts:wT}{vs:wI}
theorem TyL.len(h:TyL p ts vs):vs.length=ts.length:=by
 induction h with
 |nil=>rfl
 |cons _ _ _ _ _ _ ih=>simp[ih]
theorem TyL.get(h:TyL p ts vs):∀(j:Nat) (hj:j<vs.length) (hj':j<ts.length),TyV p ts[j] vs[j]:=by
 induction h with
 |nil=>intro j hj;simp at hj
 |cons t ts v vs h hs ih =>
  intro j hj hj';cases j with
  |zero=>exact h
  |succ j=>exact ih j (by simpa using hj) (by simpa using hj')
theorem TyL.of{p:Prg}:∀{ts:wT} {vs:wI} (hl:vs.length=ts.length) (_:∀(j:Nat) (hj:j<vs.length),TyV p (ts[j]'(hl▸hj)) vs[j]),TyL p ts vs
 |[],[],_,_=>.nil
 |t::ts,v::vs,hl,h=>.cons t ts v vs (h 0 (by simp)) (TyL.of (by simpa using hl) fun j hj=>h (j+1) (by simpa using hj))
 |[],v::vs,hl,_=>by simp at hl
 |t::ts,[],hl,_=>by simp at hl
inductive OpT:Int->List Typ->Typ->Prop
 |arith (n:Int) (h1:0<=n) (h2:n<=4):OpT n [jT,jT] jT
 |less:OpT 5 [jT,jT] j9
 |same (u:Typ):OpT 6 [u,u] j9
 |andor (n:Int) (h:n=7\/n=8):OpT n [j9,j9] j9
 |not:OpT 9 [j9] j9
 |join (t:Typ):OpT 10 [jX t,jX t] (jX t)
 |len (t:Typ):OpT 11 [jX t] jT
variable{t:Typ}
theorem TyL.one(h:TyL p [t] vs):∃a,vs=[a]/\TyV p t a:=by
 cases h with
 |cons _ _ v vs h hs=>cases hs;exact⟨v,rfl,h⟩
theorem TyL.two(h:TyL p [t,u] vs):∃a b,vs=[a,b]/\TyV p t a/\TyV p u b:=by
 cases h with
 |cons _ _ v vs h hs =>
  obtain⟨b,rfl,hb⟩:=hs.one;exact⟨v,b,rfl,h,hb⟩
theorem zC1(b:Bool):TyV p j9 (gA b):=.bool _ (by cases b<;>simp)
theorem vB(n:Int) : -1099511627776<=bJ n/\bJ n<=1099511627776:=by
 unfold bJ;split
 .omega
 .split<;>omega
variable{a b:Int}
theorem zOM(h1 : -1099511627776<=a)(h2:a<=1099511627776) : -1099511627776<=a.tdiv b/\a.tdiv b<=1099511627776:=by have h:=Int.natAbs_tdiv_le_natAbs a b;omega
theorem zQ7(h1 : -1099511627776<=a)(h2:a<=1099511627776)(hm:a.tmod b≠0)(hb:b≠0) : -1099511627775<=a.tdiv b:=by
 have hn:a.natAbs / b.natAbs=(a.tdiv b).natAbs:=by rw[Int.natAbs_tdiv];rfl
 have hb2:2<=b.natAbs:=by
  rcases jB2 b.natAbs 2 with h|h
  .exfalso;have:b=1\/b = -1:=by omega
   rcases this with rfl|rfl
   .simp at hm
   .exact hm (by rw[Int.tmod_neg,Int.tmod_one])
  .exact h
 have:a.natAbs / b.natAbs<=a.natAbs / 2:=Nat.div_le_div_left hb2 (by omega);omega
theorem zMx(b:Int)(h1 : -1099511627776<=a)(h2:a<=1099511627776) : -1099511627776<=zCS a b/\zCS a b<=1099511627776:=by
 unfold zCS;have h:=zOM (b:=b) h1 h2;split
 .omega
 .rename_i hb;split
  .rename_i hc;have:=zQ7 h1 h2 hc.1 hb;omega
  .omega
theorem zVE(a b:Int):zJv a b=if b=0 then 0 else if a.tmod b≠0/\¬(a<0↔b<0)then a.tmod b+b else a.tmod b:=by
 unfold zJv zCS;by_cases hb:b=0
 .simp[hb]
 .rw[if_neg hb,if_neg hb,if_neg hb];have:=Int.mul_tdiv_add_tmod a b;split
  .rw[Int.mul_sub];omega
  .omega
theorem zGj(h1 : -1099511627776<=b)(h2:b<=1099511627776) : -1099511627776<=zJv a b/\zJv a b<=1099511627776:=by
 rw[zVE];by_cases hb:b=0
 .simp[hb]
 .rw[if_neg hb];have h3:(a.tmod b).natAbs<b.natAbs:=by rw[Int.natAbs_tmod];exact Nat.mod_lt _ (by omega)
  have h4:0<=a->0<=a.tmod b:=jDo b;have h5:a<0->a.tmod b<=0:=fun h=>by have:=jDo (a:=-a) b (by omega);rw[Int.neg_tmod]at this;omega
  split<;>omega
theorem zNd{n a b:Int}(a1 : -1099511627776<=a)(a2:a<=1099511627776)(b1 : -1099511627776<=b)(b2:b<=1099511627776) : -1099511627776<=zHc n a b/\zHc n a b<=1099511627776:=by
 unfold zHc;split
 .exact vB _
 .split
  .exact vB _
  .split
   .exact vB _
   .split
    .exact zMx b a1 a2
    .exact zGj b1 b2
theorem oX:∀(l:wI),l.length<=j3 l
 |[]=>by simp[j3]
 | .mk _ _ l'::l=>by have:=oX l;simp only[jAc,j3,qY];omega
theorem zSC(h:qY v<=256):v.kids.length<=255:=by
 cases v with
 |mk k n l =>
  have:=oX l;simp only[qY]at h;simp only[Val.kids];omega
theorem qGU{n:Int}(h:OpT n ts t)(hv:TyL p ts vs)(hs:∀v∈vs,qY v<=256):TyV p t (opV n vs)/\qY (opV n vs)<=1000:=by
 cases h with
 |arith n h1 h2 =>
  obtain⟨a,b,rfl,ha,hb⟩:=hv.two;obtain⟨x,rfl,x1,x2⟩:=ha.int_inv;obtain⟨y,rfl,y1,y2⟩:=hb.int_inv;simp only[opV,if_pos h2];have:=zNd (n:=n) x1 x2 y1 y2;exact⟨.int _ this.1 this.2,by simp[qY,j3]⟩
 |less =>
  obtain⟨a,b,rfl,ha,hb⟩:=hv.two;exact⟨zC1 _,by simp[opV,gA,qY,j3]⟩
 |same u =>
  obtain⟨a,b,rfl,ha,hb⟩:=hv.two;exact⟨zC1 _,by simp[opV,gA,qY,j3]⟩
 |andor n h =>
  obtain⟨a,b,rfl,ha,hb⟩:=hv.two;rcases h with rfl|rfl<;>exact⟨zC1 _,by simp[opV,gA,qY,j3]⟩
 |not =>
  obtain⟨a,rfl,ha⟩:=hv.one;exact⟨zC1 _,by simp[opV,gA,qY,j3]⟩
 |join t =>
  obtain⟨a,b,rfl,ha,hb⟩:=hv.two;obtain⟨x,rfl,hx⟩:=ha.list_inv;obtain⟨y,rfl,hy⟩:=hb.list_inv;refine⟨.list _ _ fun v hv=>?_,?_⟩
  .rcases jA6.1 hv with h|h
   .exact hx v h
   .exact hy v h
  .have h1:=hs (.mk 4 0 x) (by simp);have h2:=hs (.mk 4 0 y) (by simp);simp only[qY]at h1 h2;simp[opV,Val.kids,qY,gV];omega
 |len t =>
  obtain⟨a,rfl,ha⟩:=hv.one;have:=zSC (hs a (by simp));exact⟨.int _ (by omega) (by omega),by simp[opV,qY,j3]⟩
inductive WE(p:Prg):List Bnd->Exp->Typ->Prop
 |int (env i n r u ns) (h1 : -1099511627776<=n) (h2:n<=1099511627776):WE p env (.mk i 0 n r u [] ns) jT
 |bool (env i n r u ns) (h:n=0\/n=1):WE p env (.mk i 1 n r u [] ns) j9
 |var (env i n r u ns t) (h:fC env r n=some t):WE p env (.mk i 2 n r u [] ns) t
 |call (env i n r u ks ns) (hn:ks.length<=32768) (d:Dfn) (hd:qG p.defs r=some d) (hk:d.kind=2) (hl:ks.length=(d.slots.map Slt.typ).length) (hw:∀(j:Nat) (hj:j<ks.length),WE p env ks[j] ((d.slots.map Slt.typ)[j]'(hl▸hj))) :
  WE p env (.mk i 3 n r u ks ns) d.res
 |op (env i n r u ks ns) (hn:ks.length<=32768) (ts:List Typ) (t:Typ) (ho:OpT n ts t) (hl:ks.length=ts.length) (hw:∀(j:Nat) (hj:j<ks.length),WE p env ks[j] (ts[j]'(hl▸hj))):WE p env (.mk i 4 n r u ks ns) t
 |ite (env i n r u a b c ns t) (ha:WE p env a j9) (hb:WE p env b t) (hc:WE p env c t):WE p env (.mk i 5 n r u [a,b,c] ns) t
 |lets (env i n r u a b ns v t) (hf:∀x∈env,x.id≠i) (ha:WE p env a v) (hb:WE p (env++[⟨i,0,v⟩]) b t):WE p env (.mk i 6 n r u [a,b] ns) t
 |record (env i n r u ks ns) (hn:ks.length<=32768) (d:Dfn) (hd:qG p.defs r=some d) (hk:d.kind=0) (hl:ks.length=(d.slots.map Slt.typ).length) (hw:∀(j:Nat) (hj:j<ks.length),WE p env ks[j] ((d.slots.map Slt.typ)[j]'(hl▸hj))) :
  WE p env (.mk i 7 n r u ks ns) (cO r)
 |field (env i r u a ns) (d:Dfn) (j:Nat) (hd:qG p.defs r=some d) (hk:d.kind=0) (hj:j<d.slots.length) (ha:WE p env a (cO r)):WE p env (.mk i 8 j r u [a] ns) d.slots[j].typ
 |case (env i r u a ns) (d:Dfn) (j:Nat) (hd:qG p.defs r=some d) (hk:d.kind=1) (hj:j<d.slots.length) (ha:WE p env a d.slots[j].typ):WE p env (.mk i 9 j r u [a] ns) (cO r)
 |mtch (env i n r u a ks ns) (d:Dfn) (t:Typ) (hf:∀x∈env,x.id≠i) (hd:qG p.defs r=some d) (hk:d.kind=1) (hl:ks.length=d.slots.length) (ha:WE p env a (cO r))
  (hw:∀(j:Nat) (hj:j<ks.length),WE p (env++[⟨i,j,(d.slots[j]'(hl▸hj)).typ⟩]) ks[j] t):WE p env (.mk i 10 n r u (a::ks) ns) t
 |list (env i n r u ks ns t) (hn:ks.length<=32768) (hw:∀(j:Nat) (hj:j<ks.length),WE p env ks[j] t):WE p env (.mk i 11 n r u ks ns) (jX t)
 |fold (env i n r u l s b ns v t) (hf:∀x∈env,x.id≠i) (hl:WE p env l (jX v)) (hs:WE p env s t) (hb:WE p (env++[⟨i,0,v⟩]++[⟨i,1,t⟩]) b t):WE p env (.mk i 12 n r u [l,s,b] ns) t
theorem lQ(B:wJ)(b:Bnd)(x:Id)(n:Int):fC (B++[b]) x n=if b.id=x/\b.n=n then some b.typ else fC B x n:=by
 unfold fC;rw[List.reverse_append,List.reverse_singleton,jCn,jC4];by_cases h1:b.id=x
 .by_cases h2:b.n=n<;>simp[h1,h2]
 .simp[h1]
inductive EnvT(p:Prg):List Bnd->List EVar->Prop
 |nil:EnvT p [] []
 |snoc (B:List Bnd) (V:List EVar) (b:Bnd) (v:EVar) (h:EnvT p B V) (hi:v.id=b.id) (hn:v.n=b.n) (ht:TyV p b.typ v.v) (hz:qY v.v<=256):EnvT p (B++[b]) (V++[v])
variable{V:wP}
theorem EnvT.find{B:wJ}(h:EnvT p B V){x:Id}{n:Int}:fC B x n=some t->TyV p t (rT V x n)/\qY (rT V x n)<=256:=by
 induction h with
 |nil=>intro h;simp[fC]at h
 |snoc B V b v h hi hn ht hz ih =>
  rw[lQ,zFz,hi,hn];split
  .intro e;cases e;exact⟨ht,hz⟩
  .exact ih
variable{i:Id}
theorem EnvT.push{B:wJ}(h:EnvT p B V){n:Int}(ht:TyV p t v/\qY v<=256):EnvT p (B++[⟨i,n,t⟩]) (V++[⟨i,n,v⟩]):=.snoc _ _ _ _ h rfl rfl ht.1 ht.2
theorem EnvT.ids{B:wJ}(h:EnvT p B V):(∀b∈B,b.id≠i)->∀v∈V,v.id≠i:=by
 induction h with
 |nil=>simp
 |snoc B V b v h hi hn ht hz ih =>
  intro hb x hx;rcases jA6.1 hx with hx|hx
  .exact ih (fun y hy=>hb y (jBr _ hy)) x hx
  .rw[jAi.1 hx,hi];exact hb b (by simp)
theorem EnvT.args:∀{ss:List Slt} {vs:wI},TyL p (ss.map Slt.typ) vs->(∀v∈vs,qY v<=256)->EnvT p (ss.map fun s=>⟨s.id,0,s.typ⟩) (fK ss vs):=by
 intro ss;induction ss using fT with
 |nil =>
  intro vs h _;cases h;exact .nil
 |snoc ss s ih =>
  intro vs h hz;have hl:=h.len;simp only[jAb,jA4,jAn]at hl;obtain⟨ws,w,rfl⟩:∃ws w,vs=ws++[w]:=⟨vs.dropLast,vs.getLast (fun e=>by rw[e]at hl;simp at hl),(List.dropLast_concat_getLast _).symm⟩;simp only[jA4,jAn]at hl;have h1:TyL p (ss.map Slt.typ) ws:=TyL.of (by simp;omega) fun j hj=>by have:=h.get j (by simp;omega) (by simp;omega);rw[jCz hj]at this;rw[jB]at this ⊢;rw[jCz (by omega)]at this;exact this
  have h2:TyV p s.typ w:=by
   have:=h.get ss.length (by simp;omega) (by simp);rw[jCo (by omega)]at this
   simpa[show ss.length-ws.length=0 by omega]using this
  have e:fK (ss++[s]) (ws++[w])=fK ss ws++[⟨s.id,0,w⟩]:=by unfold fK;rw[List.zipWith_append (by omega)];rfl
  rw[e,jBa];exact(ih h1 fun v hv=>hz v (jBr _ hv)).push ⟨h2,hz w (by simp)⟩
def zLP(p:Prg):Prop:=∀(r:Id) (d:Dfn),qG p.defs r=some d->dG d=true->WE p (cN d) d.body d.res
section
variable{p:Prg}{ev:Evl}
def zB3(ev:Evl):Prop:=∀e V s,s.fail≠0->ev e V s=(vz,s)
def Snd(p:Prg)(ev:Evl):Prop:=∀e B V s t,WE p B e t->EnvT p B V->(ev e V s).2.fail=0->TyV p t (ev e V s).1/\qY (ev e V s).1<=256
theorem xU(h:zB3 ev)(V:wP):∀(l:wH) (s:XS),s.fail≠0->(qQ ev V l s).2=s
 |[],s,_=>rfl
 |e::l,s,hs=>by simp only[qQ,h e V s hs];exact xU h V l s hs
variable{s:XS}
theorem zUb(h:zB3 ev){V:wP}{e:Exp}{l:wH}(hs:(qQ ev V (e::l) s).2.fail=0):(ev e V s).2.fail=0:=by
 by_cases hf:(ev e V s).2.fail=0
 .exact hf
 .simp only[qQ]at hs;rw[xU h V l _ hf]at hs;exact hs
theorem oO(h:zB3 ev)(V:wP)(i:Id)(b:Exp):∀(l:wI) (r:Val×XS),r.2.fail≠0->(j5 ev V i b l r).2=r.2
 |[],r,_=>rfl
 |x::l,r,hs=>by simp only[j5,h _ _ _ hs];exact oO h V i b l _ hs
theorem nD(h:zB3 ev)(k:Snd p ev){B:wJ}{V:wP}(hV:EnvT p B V):∀(l:wH) (ts:wT) (s:XS) (hl:l.length=ts.length),(∀(j:Nat) (hj:j<l.length),WE p B l[j] (ts[j]'(hl▸hj))) ->
 (qQ ev V l s).2.fail=0->TyL p ts (qQ ev V l s).1/\∀v∈(qQ ev V l s).1,qY v<=256
 |[],[],s,_,_,_=>⟨.nil,by simp[qQ]⟩
 |[],t::ts,s,hl,_,_=>by simp at hl
 |e::l,[],s,hl,_,_=>by simp at hl
 |e::l,t::ts,s,hl,hw,hs=>by
  have h1:=k e B V s t (hw 0 (by simp)) hV (zUb h hs);have h2:=nD h k hV l ts (ev e V s).2 (by simpa using hl) (fun j hj=>hw (j+1) (by simpa using hj)) (by simpa only[qQ]using hs);simp only[qQ];refine⟨.cons _ _ _ _ h1.1 h2.1,fun v hv=>?_⟩;rcases jA1.1 hv with rfl|hv
  .exact h1.2
  .exact h2.2 v hv
theorem zBU(h:zB3 ev)(k:Snd p ev){B:wJ}{V:wP}(hV:EnvT p B V){i:Id}{b:Exp}{u t:Typ}(hb:WE p (B++[⟨i,0,u⟩]++[⟨i,1,t⟩]) b t):∀(l:wI) (r:Val×XS),(∀x∈l,TyV p u x/\qY x<=256) ->
 (r.2.fail=0->TyV p t r.1/\qY r.1<=256)->(j5 ev V i b l r).2.fail=0->TyV p t (j5 ev V i b l r).1/\qY (j5 ev V i b l r).1<=256
 |[],r,_,hr,hs=>hr hs
 |x::l,r,hl,hr,hs=>by
  simp only[j5]at hs ⊢;have h0:r.2.fail=0:=by
   by_cases hf:r.2.fail=0
   .exact hf
   .have e:=oO h V i b l (vz,r.2) hf;rw[h _ _ _ hf,e]at hs;exact hs
  exact zBU h k hV hb l _ (fun y hy=>hl y (jAk _ hy)) (fun hf=>k b _ _ _ t hb ((hV.push (hl x (by simp))).push (hr h0)) hf) hs
variable{v:Val}
theorem sO{c:Bool}(h:s.fail=0):zf c s v=v:=by simp[zf,h]
theorem zT1(h:qY v<=10000000)(hb:¬zLX v):qY v<=256:=by have h1:=zIl v (by omega);unfold zLX at hb;omega
theorem iX{x:Val}(h:qY v<=256)(hx:x∈v.kids):qY x<=256:=by have:=cV hx;omega
theorem zL7{l:wI}(h:∀v∈l,qY v<=256)(hl:l.length<=32768):j3 l<=8388608:=by have:=zQ2 h;have:l.length*256<=32768*256:=jBl _ hl;omega
theorem up{t:Typ}(h:TyV p t v/\qY v<=256):TyV p t v/\qY v<=10000000:=⟨h.1,by omega⟩
theorem zTK(hp:zLP p)(fl:Nat)(h:zB3 ev)(k:Snd p ev){e:Exp}{B:wJ}{V:wP}{t:Typ}(he:WE p B e t)(hV:EnvT p B V)(hs:(qH p fl ev e V s).2.fail=0):TyV p t (qH p fl ev e V s).1/\qY (qH p fl ev e V s).1<=10000000:=by
 cases he with
 |int _ i n r u ns h1 h2=>exact⟨.int n h1 h2,by simp[qH,qY,j3]⟩
 |bool _ i n r u ns h=>exact⟨.bool n h,by simp[qH,qY,j3]⟩
 |var _ i n r u ns _ h =>
  have:=hV.find h;exact⟨this.1,by simp only[qH];simp;omega⟩
 |call _ i n r u ks ns hn d hd hk hl hw =>
  have e:qH p fl ev (.mk i 3 n r u ks ns) V s=bU ev d (qQ ev V ks s).1 (qQ ev V ks s).2:=by simp[qH,dfn,hd]
  rw[e]at hs ⊢;unfold bU at hs ⊢;by_cases hf:(qQ ev V ks s).2.fail=0
  .rw[if_neg (by simp[hf])]at hs ⊢;have ha:=nD h k hV ks _ s hl hw hf;exact up (k _ _ _ _ _ (hp r d hd (by simp[dG,hk])) (EnvT.args ha.1 ha.2) hs)
  .rw[if_pos hf]at hs;exact(hf hs).elim
 |op _ i n r u ks ns hn ts _ ho hl hw =>
  have e:qH p fl ev (.mk i 4 n r u ks ns) V s=(zf true (qQ ev V ks s).2 (opV n (qQ ev V ks s).1),(qQ ev V ks s).2):=by simp[qH]
  rw[e]at hs ⊢;have ha:=nD h k hV ks _ s hl hw hs;rw[sO hs];have:=qGU ho ha.1 ha.2;exact⟨this.1,by simp only;omega⟩
 |record _ i n r u ks ns hn d hd hk hl hw =>
  have e:qH p fl ev (.mk i 7 n r u ks ns) V s=(zf (fl==1) (qQ ev V ks s).2 (.mk 2 0 (qQ ev V ks s).1),(qQ ev V ks s).2):=by simp[qH]
  rw[e]at hs ⊢;obtain⟨ha,hz⟩:=nD h k hV ks _ s hl hw hs;rw[sO hs];have hlen:=ha.len;rw[jAb]at hlen;refine⟨.record _ d _ hd hk hlen fun j hj=>?_,by have:=zL7 hz (by rw[gR];exact hn);simp only[qY];omega⟩;have:=ha.get j hj (by rw[jAb];omega)
  rwa[jB]at this
 |case _ i r u a ns d j hd hk hj ha =>
  have e:qH p fl ev (.mk i 9 j r u [a] ns) V s=(zf (fl==1) (ev a V s).2 (.mk 3 j [(ev a V s).1]),(ev a V s).2):=by simp[qH,qQ]
  rw[e]at hs ⊢;rw[sO hs];have:=k a B V s _ ha hV hs;exact⟨.case _ d j _ hd hk hj this.1,by simp only[qY,j3];omega⟩
 |list _ i n r u ks ns t hn hw =>
  have e:qH p fl ev (.mk i 11 n r u ks ns) V s=(zf (fl==1) (qQ ev V ks s).2 (.mk 4 0 (qQ ev V ks s).1),(qQ ev V ks s).2):=by simp[qH]
  rw[e]at hs ⊢;obtain⟨ha,hz⟩:=nD h k hV ks (List.replicate ks.length t) s (by simp) (fun j hj=>by rw[List.getElem_replicate];exact hw j hj) hs;rw[sO hs];refine⟨.list _ _ fun v hv=>?_,by have:=zL7 hz (by rw[gR];exact hn);simp only[qY];omega⟩;obtain⟨j,hj,rfl⟩:=jAe hv;have:=ha.get j hj (by rw[<-ha.len];exact hj)
  rwa[List.getElem_replicate]at this
 |ite _ i n r u a b c ns _ ha hb hc =>
  have e:qH p fl ev (.mk i 5 n r u [a,b,c] ns) V s=if (ev a V s).2.fail≠0 then (vz,(ev a V s).2)else ev ([a,b,c].getD (if (ev a V s).1.n=1 then 1 else 2) .zero) V (ev a V s).2:=by simp[qH,jK]
  rw[e]at hs ⊢;by_cases hf:(ev a V s).2.fail=0
  .rw[if_neg (by simp[hf])]at hs ⊢;by_cases hn:(ev a V s).1.n=1
   .simp only[if_pos hn]at hs ⊢;exact up (k b B V _ _ hb hV hs)
   .simp only[if_neg hn]at hs ⊢;exact up (k c B V _ _ hc hV hs)
  .rw[if_pos hf]at hs;exact(hf hs).elim
 |lets _ i n r u a b ns v _ hfr ha hb =>
  have e:qH p fl ev (.mk i 6 n r u [a,b] ns) V s=if (ev a V s).2.fail≠0 then (vz,(ev a V s).2)else ev b (V++[⟨i,0,(ev a V s).1⟩]) (ev a V s).2:=by simp[qH,jK]
  rw[e]at hs ⊢;by_cases hf:(ev a V s).2.fail=0
  .rw[if_neg (by simp[hf])]at hs ⊢;exact up (k b _ _ _ _ hb (hV.push (k a B V s _ ha hV hf)) hs)
  .rw[if_pos hf]at hs;exact(hf hs).elim
 |field _ i r u a ns d j hd hk hj ha =>
  have e:qH p fl ev (.mk i 8 j r u [a] ns) V s=if (ev a V s).2.fail≠0 then (vz,(ev a V s).2)else ((ev a V s).1.kids.getD j vz,(ev a V s).2):=by simp[qH,jK]
  rw[e]at hs ⊢;by_cases hf:(ev a V s).2.fail=0
  .rw[if_neg (by simp[hf])]at hs ⊢;obtain⟨hty,hz⟩:=k a B V s _ ha hV hf;rcases hty.def_inv hd with ⟨_,vs,hl,h1,h2⟩|⟨h1,_⟩
   .rw[h1]at hz ⊢;have hjl:j<vs.length:=by omega
    simp only[Val.kids,jC5,jA2 hjl,jBt];exact up ⟨h2 j hjl,iX hz (jA0 hjl)⟩
   .omega
  .rw[if_pos hf]at hs;exact(hf hs).elim
 |mtch _ i n r u a ks ns d _ hfr hd hk hl ha hw =>
  have e:qH p fl ev (.mk i 10 n r u (a::ks) ns) V s=if (ev a V s).2.fail≠0 then (vz,(ev a V s).2)else ev ((a::ks).getD (1+(ev a V s).1.n).toNat .zero) (V++[⟨i,(ev a V s).1.n,(ev a V s).1.kids.headD vz⟩]) (ev a V s).2:=by simp[qH,jK]
  rw[e]at hs ⊢;by_cases hf:(ev a V s).2.fail=0
  .rw[if_neg (by simp[hf])]at hs ⊢;obtain⟨hty,hz⟩:=k a B V s _ ha hV hf;rcases hty.def_inv hd with ⟨h1,_⟩|⟨_,m,x,hm,h1,h2⟩
   .omega
   .have hmk:m<ks.length:=by omega
    have e2:(1+(m:Int)).toNat=m+1:=by omega
    rw[h1]at hs hz ⊢;simp only[Val.n,Val.kids,jD5,e2,List.getD_cons_succ,jC5,jBj,jA2 hmk,jBt]at hs ⊢;exact up (k _ _ _ _ _ (hw m hmk) (hV.push ⟨h2,iX hz (by simp[Val.kids])⟩) hs)
  .rw[if_pos hf]at hs;exact(hf hs).elim
 |fold _ i n r u l s' b ns v _ hfr hl' hs' hb =>
  have e:qH p fl ev (.mk i 12 n r u [l,s',b] ns) V s=if (ev l V s).2.fail≠0 then (vz,(ev l V s).2)else j5 ev V i b (ev l V s).1.kids (ev s' V (ev l V s).2):=by simp[qH,jK]
  rw[e]at hs ⊢;by_cases hf:(ev l V s).2.fail=0
  .rw[if_neg (by simp[hf])]at hs ⊢;obtain⟨hty,hz⟩:=k l B V s _ hl' hV hf;obtain⟨vs,h1,h2⟩:=hty.list_inv;rw[h1]at hs hz ⊢;exact up (zBU h k hV hb vs _ (fun x hx=>⟨h2 x hx,iX hz hx⟩) (fun hg=>k s' B V _ _ hs' hV hg) hs)
  .rw[if_pos hf]at hs;exact(hf hs).elim
theorem oR(p:Prg)(fl:Nat):∀m,zB3 (bC p fl m)
 | 0=>fun e V s h=>by rw[bC,if_pos h]
 |m+1=>fun e V s h=>by rw[bC,if_pos h]
theorem v6(hp:zLP p)(fl:Nat):∀m,Snd p (bC p fl m)
 | 0=>fun e B V s t he hV hs=>by
  rw[bC]at hs;split at hs
  .rename_i h;exact(h hs).elim
  .simp[zFr]at hs
 |m+1=>fun e B V s t he hV hs=>by
  rw[bC]at hs ⊢;split at hs
  .rename_i h;exact(h hs).elim
  .split at hs
   .simp[zFr]at hs
   .rename_i h1 h2;rw[if_neg h1,if_neg h2];simp only[zKg]at hs ⊢;have hk:lP (qH p fl (bC p fl m) e V (fE e s))=(qH p fl (bC p fl m) e V (fE e s)).2/\(qH p fl (bC p fl m) e V (fE e s)).2.fail=0/\¬zLX (qH p fl (bC p fl m) e V (fE e s)).1:=by
     unfold lP at hs ⊢;split at hs
     .simp[vG]at hs
     .rename_i h3;rw[if_neg h3];exact⟨rfl,hs,fun hb=>h3 ⟨hs,hb⟩⟩
    rw[sO hs];have:=zTK hp fl (oR p fl m) (v6 hp fl m) he hV hk.2.1;exact⟨this.1,zT1 this.2 hk.2.2⟩
end
mutual
def Exp.nice:Exp->Prop
 | .mk _ k _ _ _ ks ns=>(k=5->ks.length=3)/\ns.length<=10/\bO ks
def bO:List Exp->Prop
 |[]=>True
 |e::l=>e.nice/\bO l
end
theorem oC:∀l:wH,bO l↔∀e∈l,e.nice
 |[]=>by simp[bO]
 |e::l=>by simp[bO,oC l]
theorem qGB(e:Exp):e.nice↔(e.k=5->e.kids.length=3)/\e.names.length<=10/\∀k∈e.kids,k.nice:=by cases e;simp only[Exp.nice,oC,Exp.k_mk,Exp.kids_mk,Exp.names_mk]
theorem zQh:Exp.zero.nice:=by simp[Exp.zero,Exp.nice,bO]
mutual
theorem zOx:∀(e:Exp),e.nice->zIy e
 | .mk i k n r t ks ns,h=>by
  intro z hz hk;simp only[Exp.nice]at h;simp only[y7]at hz;rcases jA1.1 hz with rfl|hz
  .exact h.1 hk
  .exact zKP ks h.2.2 z hz hk
theorem zKP:∀(l:wH),bO l->∀z∈yU l,z.k=5->z.kids.length=3
 |[],_,z,hz,_=>by simp[yU]at hz
 |e::l,h,z,hz,hk=>by
  simp only[yU,jA6]at hz;rcases hz with hz|hz
  .exact zOx e h.1 z hz hk
  .exact zKP l h.2 z hz hk
end
mutual
theorem zGl(f:Int->Id):∀(e:Exp),e.nice->(eB f e).nice/\(tmps (eB f e)).length=(tmps e).length
 | .mk i k n r t ks ns,h=>by simp only[Exp.nice]at h;have:=zId f ks h.2.2;simp only[eB,Exp.nice,tmps,jA4,jAn,this.2.1,this.2.2];exact⟨⟨h.1,h.2.1,this.1⟩,trivial⟩
theorem zId(f:Int->Id):∀(l:wH),bO l->bO (oV f l)/\(jJ (oV f l)).length=(jJ l).length/\(oV f l).length=l.length
 |[],_=>⟨trivial,rfl,rfl⟩
 |e::l,h=>by have h1:=zGl f e h.1;have h2:=zId f l h.2;simp only[oV,bO,jJ,jA4,jAc,h1.2,h2.2.1,h2.2.2,and_true];exact⟨h1.1,h2.1⟩
end
variable{e:Exp}
theorem zLG(h:e.nice)(x:Int):(y4 e x).nice/\(tmps (y4 e x)).length=(tmps e).length:=by
 have hN:∀n,(twN e n).nice/\(tmps (twN e n)).length=(tmps e).length:=fun n=>by cases e;simp only[Exp.nice]at h;simp only[twN,Exp.nice,Exp.id_mk,Exp.k_mk,Exp.ref_mk,Exp.typ_mk,Exp.kids_mk,Exp.names_mk,tmps];exact⟨h,trivial⟩
 unfold y4;split
 .exact hN _
 .split
  .exact hN _
  .split
   .split
    .exact hN _
    .split
     .exact hN _
     .exact⟨h,rfl⟩
   .split
    .split
     .rename_i a b c hk;cases e with
      |mk i k n r t ks ns =>
       simp only[Exp.kids_mk]at hk;subst hk;simp only[Exp.nice,bO]at h;simp only[twK,Exp.nice,bO,Exp.id_mk,Exp.k_mk,Exp.n_mk,Exp.ref_mk,Exp.typ_mk,Exp.names_mk,tmps,jJ,jA4,jAn,jB4];obtain⟨h1,h2,h3,h4,h5,_⟩:=h;exact⟨⟨fun _=>rfl,h2,h3,h5,h4,trivial⟩,by omega⟩
     .exact⟨h,rfl⟩
    .exact⟨h,rfl⟩
mutual
theorem zG7(x:Int):∀(e:Exp) (a:Int),e.nice->(aC e a x).1.nice/\(tmps (aC e a x).1).length=(tmps e).length
 | .mk i k n r t ks ns,a,h=>by
  simp only[aC];split
  .exact zLG h x
  .simp only[Exp.nice]at h;have:=xK x ks (a-1) h.2.2;simp only[Exp.nice,tmps,jA4,jAn,this.2,uE];exact⟨⟨h.1,h.2.1,this.1⟩,trivial⟩
theorem xK(x:Int):∀(l:wH) (a:Int),bO l->bO (qZ l a x).1/\(jJ (qZ l a x).1).length=(jJ l).length
 |[],_,_=>⟨trivial,rfl⟩
 |e::l,a,h=>by
  simp only[qZ];split
  .have h1:=zG7 x e a h.1;have h2:=xK x l (aC e a x).2 h.2;simp only[bO,jJ,jA4,h1.2,h2.2,and_true];exact⟨h1.1,h2.1⟩
  .have h2:=xK x l a h.2;simp only[bO,jJ,jA4,h2.2,and_true];exact⟨h.1,h2.1⟩
end
variable{hs:wQ}{env:wJ}
theorem zOT{own:Int}(h:WT hs own env e t):e.nice:=by
 induction h with
 |int env i n h1 h2=>simp[Exp.nice,bO]
 |bool env i n h=>simp[Exp.nice,bO]
 |var env i n x t h=>simp[Exp.nice,bO]
 |call env i k h ks ho hk hlen hw ih =>
  simp only[Exp.nice,oC];refine⟨fun h=>by omega,by simp,fun e hm=>?_⟩;obtain⟨j,hj,rfl⟩:=jAe hm;exact ih j hj
 |arith env i n a b h1 h2 ha hb iha ihb=>simp[Exp.nice,bO,iha,ihb]
 |less env i a b ha hb iha ihb=>simp[Exp.nice,bO,iha,ihb]
 |same env i a b u ha hb iha ihb=>simp[Exp.nice,bO,iha,ihb]
 |andor env i n a b h ha hb iha ihb=>simp[Exp.nice,bO,iha,ihb]
 |not env i a ha iha=>simp[Exp.nice,bO,iha]
 |join env i a b t ha hb iha ihb=>simp[Exp.nice,bO,iha,ihb]
 |len env i a t ha iha=>simp[Exp.nice,bO,iha]
 |ite env i a b c t ha hb hc iha ihb ihc=>simp[Exp.nice,bO,iha,ihb,ihc]
 |lets env i a b u t ns hn ha hb iha ihb=>simp[Exp.nice,bO,iha,ihb,hn]
 |record env i k h ks hk hlen hw ih =>
  simp only[Exp.nice,oC];refine⟨fun h=>by omega,by simp,fun e hm=>?_⟩;obtain⟨j,hj,rfl⟩:=jAe hm;exact ih j hj
 |field env i k h j hj a hk ha iha=>simp[Exp.nice,bO,iha]
 |case env i k h j hj a hk ha iha=>simp[Exp.nice,bO,iha]
 |mtch env i k h a ks t ns hn hk hlen ha hw iha ih =>
  simp only[Exp.nice,oC];refine⟨fun h=>by omega,hn,fun e hm=>?_⟩;rcases jA1.1 hm with rfl|hm
  .exact iha
  .obtain⟨j,hj,rfl⟩:=jAe hm;exact ih j hj
 |list env i t ks hw ih =>
  simp only[Exp.nice,oC];refine⟨fun h=>by omega,by simp,fun e hm=>?_⟩;obtain⟨j,hj,rfl⟩:=jAe hm;exact ih j hj
 |fold env i l s b u t ns hn hl' hs' hb' ihl ihs ihb=>simp[Exp.nice,bO,ihl,ihs,ihb,hn]
structure FineP(p:Prg):Prop where
 defs:p.defs.length<=9
 mods:p.mods.length<=100
 slots:∀d∈p.defs,1<=d.slots.length/\d.slots.length<=6
 nice:∀d∈p.defs,d.body.nice
 size:∀d∈p.defs,(tmps d.body).length<=33000
theorem FineP.small(h:FineP p):(oP p.defs).length<=100000/\(rG p.defs).length<=300000/\(yE p.defs).length<=300000:=by
 have h9:=h.defs;have hn:=zQk p.defs 33000 h.size;have h3:(yE p.defs).length<=300000:=by omega
 have key:∀{α:Type} (idf : α->Id) (L acc:List α),(L.foldl (c7 idf) acc).length<=acc.length+L.length:=by
  intro α idf L;induction L with
  |nil=>intro acc;simp
  |cons x L ih =>
   intro acc;rw[jAw];have:=ih (c7 idf acc x);have h2:(c7 idf acc x).length<=acc.length+1:=by
    unfold c7;split
    .omega
    .simp
   simp only[jAc];omega
 refine⟨?_,?_,h3⟩
 .have:=key Dfn.id p.defs [];simp only[jB4,jB1]at this;unfold oP;omega
 .rw[r8];have:=key Exp.id (yE p.defs) [];simp only[jB4,jB1]at this;omega
structure Bn(c:Nat)(m:Int)(s:XS):Prop where
 ns:s.ns.length+s.fuel.toNat<=c
 ds:s.ds.length+s.fuel.toNat<=c
 fu:s.fuel<=m
structure Bd(c:Nat)(m:Int)(s:XS):Prop where
 ns:s.ns.length+s.fuel.toNat<=c
 ds:s.ds.length+s.fuel.toNat<=c
 fu:s.fuel<=m
 ok:s.fail=0->s.ds.length+s.fuel.toNat+1<=c
variable{c:Nat}{m:Int}{s:XS}
theorem Bd.bn(h:Bd c m s):Bn c m s:=⟨h.ns,h.ds,h.fu⟩
theorem Bd.mono{m':Int}(h:Bd c m s)(hm:m<=m'):Bd c m' s:=⟨h.ns,h.ds,by have:=h.fu;omega,h.ok⟩
theorem Bn.bad(h:Bn c m s)(hf:s.fail≠0):Bd c m s:=⟨h.ns,h.ds,h.fu,fun e=>(hf e).elim⟩
theorem Bn.fail(h:Bn c m s){x:Int}(hx:x≠0):Bd c m {s with fail:=x}:=⟨h.ns,h.ds,h.fu,fun e=>(hx e).elim⟩
theorem Bn.tick(h:Bn c m s)(e:Exp)(hf:¬s.fuel<=0):Bd c (m-1) (fE e s):=by obtain⟨h1,h2,h3⟩:=h;unfold fE;exact⟨by simp only[List.length_append,List.length_singleton];omega,by dsimp only;omega,by dsimp only;omega,fun _=>by dsimp only;omega⟩
theorem Bd.def(h:Bd c m s)(d:Id)(hf:s.fail=0):Bn c m {s with ds:=s.ds++[d]}:=by have:=h.ok hf;exact⟨h.ns,by simp only[jA4,jAn];omega,h.fu⟩
section
variable{p:Prg}{ev:Evl}{c:Nat}{m:Int}
theorem zE1(h:∀e V s,Bn c m s->Bd c m (ev e V s).2)(V:wP):∀(l:wH) (s:XS),Bd c m s->Bd c m (qQ ev V l s).2
 |[],s,hs=>hs
 |e::l,s,hs=>by simp only[qQ];exact zE1 h V l _ (h e V s hs.bn)
theorem zF5(h:∀e V s,Bn c m s->Bd c m (ev e V s).2)(V:wP)(i:Id)(b:Exp):∀(l:wI) (r:Val×XS),Bd c m r.2->Bd c m (j5 ev V i b l r).2
 |[],r,hs=>hs
 |e::l,r,hs=>by simp only[j5];exact zF5 h V i b l _ (h _ _ _ hs.bn)
theorem zFa(h:∀e V s,Bn c m s->Bd c m (ev e V s).2)(d:Dfn)(vs:wI)(s:XS)(hs:Bd c m s):Bd c m (bU ev d vs s).2:=by
 unfold bU;split
 .exact hs
 .rename_i hf;exact h _ _ _ (hs.def d.id (by omega))
theorem zMa(h:∀e V s,Bn c m s->Bd c m (ev e V s).2)(e:Exp)(V:wP)(s:XS)(hs:Bd c m s):Bd c m (jK ev e V s).2:=by
 unfold jK;have h0:=h (e.kids.headD .zero) V s hs.bn;generalize ev (e.kids.headD .zero) V s=r at *
 repeat' split
 all_goals first
  |exact h0
  |exact h _ _ _ h0.bn
  |exact zF5 h _ _ _ _ _ (h _ _ _ h0.bn)
theorem zQD(h:∀e V s,Bn c m s->Bd c m (ev e V s).2)(fl:Nat)(e:Exp)(V:wP)(s:XS)(hs:Bd c m s):Bd c m (qH p fl ev e V s).2:=by
 unfold qH;have h0:=zE1 h V e.kids s hs;generalize qQ ev V e.kids s=r at *
 repeat' split
 all_goals first
  |exact hs
  |exact h0
  |exact zMa h _ _ _ hs
  |exact zFa h _ _ _ h0
theorem zVg{r:Val×XS}(h:Bd c m r.2):Bd c m (lP r):=by
 unfold lP;split
 .exact h.bn.fail (by decide)
 .exact h
theorem zCi(fl:Nat):∀(n:Nat) e V s,Bn c m s->Bd c m (bC p fl n e V s).2
 | 0,e,V,s,hs=>by
  rw[bC];split
  .rename_i h;exact hs.bad h
  .exact hs.fail (by decide)
 |n+1,e,V,s,hs=>by
  rw[bC];split
  .rename_i h;exact hs.bad h
  .split
   .exact hs.fail (by decide)
   .rename_i h;exact zVg (zQD (zCi fl n) fl e V _ ((hs.tick e h).mono (by omega)))
end
section
variable{p:Prg}{f g:Evl}
end
theorem iR(n:Int):my 69 [int n] [] (int (bJ n)) []:=by
 refine mq [] [.slot 2] func69 (by kernel_rfl) ?_
 (conv in kq _ _=>cbv)
 by_cases h1:n < -1099511627776
 .simp[h1];exact zB 0 (by simp[bJ,h1,show ¬1099511627776<n by omega])
 .by_cases h2:1099511627776<n
  .simp[h1,h2];exact zB 0 (by simp[bJ,h2])
  .simp[h1,h2];exact zB 0 (by simp[bJ,h1,h2])
@[simp]theorem qMn:zA prog 217=true:=by kernel_rfl
theorem fF(b:Bool):my 217 [bl b] [] (.agg (zN (gA b))) []:=by
 refine mq [] [.cell 2 3 true] func217 (by kernel_rfl) ?_
 (conv in kq _ _=>cbv)
 cases b with
 |true =>
  simp;exact zB 0 (by simp[zN,gA,Val.k,Val.n,Val.kids])
 |false =>
  simp;exact zB 0 (by simp[zN,gA,Val.k,Val.n,Val.kids])
def Rng(a:Int):Prop:=-1099511627776<=a/\a<=1099511627776
@[simp]theorem qMi:zA prog 255=true:=by kernel_rfl
@[simp]theorem qMj:zA prog 256=true:=by kernel_rfl
@[simp]theorem qMm:zA prog 257=true:=by kernel_rfl
@[simp]theorem qMf:zA prog 258=true:=by kernel_rfl
@[simp]theorem qMl:zA prog 259=true:=by kernel_rfl
theorem zU2(ha:Rng a)(hb:Rng b):my 255 [int a,int b] [] (int (bJ (a+b))) []:=by
 obtain⟨a1,a2⟩:=ha;obtain⟨b1,b2⟩:=hb;refine mq [] [.slot 4] func255 (by kernel_rfl) ?_
 (conv in kq _ _=>cbv)
 have hw:=qF (a+b) (by omega);simp[hw];refine mu (iR (a+b)) (by simp) ?_;simp;exact zB 0 (by simp)
theorem zUD(ha:Rng a)(hb:Rng b):my 256 [int a,int b] [] (int (bJ (a-b))) []:=by
 obtain⟨a1,a2⟩:=ha;obtain⟨b1,b2⟩:=hb;refine mq [] [.slot 4] func256 (by kernel_rfl) ?_
 (conv in kq _ _=>cbv)
 have hw:=qF (a-b) (by omega);simp[hw];refine mu (iR (a-b)) (by simp) ?_;simp;exact zB 0 (by simp)
theorem zPl{m n q:Nat}(hq:1099511627776 / n=q)(hn:0<n):(q<m->1099511627776<m*n)/\(¬q<m->m*n<=1099511627776):=by
 constructor
 .intro h;rw[<-hq]at h;exact(Nat.div_lt_iff_lt_mul hn).1 h
 .intro h;rw[<-hq]at h;have:=mt (Nat.div_lt_iff_lt_mul hn).2 h;omega
theorem zOK(a:Int)(h:a≠0):∃m:Nat,0<m/\(a=m\/a = -(m:Int)):=⟨a.natAbs,by omega,by omega⟩
theorem zPx(ha:Rng a)(hb:Rng b):my 257 [int a,int b] [] (int (bJ (a*b))) []:=by
 obtain⟨a1,a2⟩:=ha;obtain⟨b1,b2⟩:=hb;refine mq [] [.slot 4] func257 (by kernel_rfl) ?_
 (conv in kq _ _=>cbv)
 by_cases h0:a=0
 .subst h0;simp;exact zB 0 (by simp[bJ])
 by_cases h1:b=0
 .subst h1;simp[h0];exact zB 0 (by simp[bJ])
 obtain⟨m,m0,hm⟩:=zOK a h0;obtain⟨n,n0,hn⟩:=zOK b h1;obtain⟨q,hq⟩:∃q:Nat,1099511627776 / n=q:=⟨_,rfl⟩;obtain⟨c1,c2⟩:=zPl (m:=m) hq n0;have hqd:Int.tdiv 1099511627776 (n:Int)=(q:Int):=by rw[tdN (by omega),<-hq];rfl
 have hqle:q<=1099511627776:=by rw[<-hq];exact Nat.div_le_self _ _
 have wq:=qF (q:Int) (by omega);have wm:=qF (m:Int) (by omega);have wn:=qF (n:Int) (by omega);have wm':IntKind.i64.wrap (-(m:Int)) = -m:=IntWalk.i64_in _ (by omega);have wn':IntKind.i64.wrap (-(n:Int)) = -n:=IntWalk.i64_in _ (by omega);have x1:¬((m:Int) < -m):=by omega
 have x2:(-(m:Int))<m:=by omega
 have y1:¬((n:Int) < -n):=by omega
 have y2:(-(n:Int))<n:=by omega
 have z1:¬((m:Int)<0):=by omega
 have z2:(-(m:Int))<0:=by omega
 have z3:¬((n:Int)<0):=by omega
 have z4:(-(n:Int))<0:=by omega
 have m1:¬m=0:=by omega
 have n1:¬n=0:=by omega
 have p0:(m:Int)*n=((m*n:Nat):Int):=by push_cast;rfl
 generalize hmn:m*n=s at *
 by_cases hc:(q:Int)<m
 .have hs:=c1 (by omega);have k1:bJ (s:Int)=1099511627776:=by unfold bJ;rw[if_pos (by omega)]
  have k2:bJ (-(s:Int)) = -1099511627776:=by unfold bJ;rw[if_neg (by omega),if_pos (by omega)]
  rcases hm with rfl|rfl<;>rcases hn with rfl|rfl<;>simp[m1,n1,wm,wn,wm',wn',x1,x2,y1,y2,z1,z2,z3,z4,m0,n0,hqd,wq,hc]<;>exact zB 0 (by simp[Int.neg_mul,Int.mul_neg,p0,k1,k2])
 .have hs:=c2 (by omega);have k1:bJ (s:Int)=s:=by unfold bJ;rw[if_neg (by omega),if_neg (by omega)]
  have k2:bJ (-(s:Int)) = -s:=by unfold bJ;rw[if_neg (by omega),if_neg (by omega)]
  have w1:=qF (s:Int) (by omega);have w2:=qF (-(s:Int)) (by omega);rcases hm with rfl|rfl<;>rcases hn with rfl|rfl<;>simp[m1,n1,wm,wn,wm',wn',x1,x2,y1,y2,z1,z2,z3,z4,m0,n0,hqd,wq,hc]<;>exact zB 0 (by simp[Int.neg_mul,Int.mul_neg,p0,k1,k2,w1,w2])
theorem zFt(ha:Rng a)(hb:Rng b):my 258 [int a,int b] [] (int (zCS a b)) []:=by
 obtain⟨a1,a2⟩:=ha;refine mq [] [.slot 4] func258 (by kernel_rfl) ?_
 (conv in kq _ _=>cbv)
 by_cases h1:b=0
 .subst h1;simp;exact zB 0 (by simp[zCS])
 have ht:=zOM (b:=b) a1 a2;have w1:=qF (a.tdiv b) (by omega);have w2:=qF (a.tdiv b-1) (by omega);have e:zCS a b=if a.tmod b≠0/\¬(a<0↔b<0)then a.tdiv b-1 else a.tdiv b:=by unfold zCS;rw[if_neg h1]
 rw[e];by_cases hm:a.tmod b=0
 .simp[h1,hm,w1];exact zB 0 (by simp[hm])
 by_cases s1:a<0<;>by_cases s2:b<0<;>simp[h1,hm,w1,s1,s2,w2]<;>exact zB 0 (by simp[hm,s1,s2])
theorem zSh(ha:Rng a)(hb:Rng b):my 259 [int a,int b] [] (int (zJv a b)) []:=by
 have hd:=zFt ha hb;refine mq [] [.slot 4] func259 (by kernel_rfl) ?_
 (conv in kq _ _=>cbv)
 by_cases h1:b=0
 .subst h1;simp;exact zB 0 (by simp[zJv])
 have hr:=zGj (a:=a) hb.1 hb.2;have e:zJv a b=a-b*zCS a b:=by unfold zJv;rw[if_neg h1]
 obtain⟨a1,a2⟩:=ha;have w1:=qF (b*zCS a b) (by omega);have w2:=qF (a-b*zCS a b) (by omega);simp[h1];refine mu hd (by simp) ?_;simp[w1,w2];exact zB 0 (by simp[e])
def zLm:Go.Shelf.Ren:=⟨fun | 4=>238|n=>n,fun | 0=>0 | 3=>3 | 4=>4 | 9=>9 | 20=>20 | 22=>82 | 25=>84|n=>n,fun n=>n⟩
theorem zSD:Go.Proofs.Lays8.n4 prog zLm:={
 mixed:=by kernel_rfl,
 f4:=⟨f238.name,by decide,func238.trans (congrArg some (by kernel_rfl))⟩,
 t0:=underlying0,
 a0:=isAgg0,
 z0:=sizeOf0,
 v0:=zeroValue0,
 t3:=underlying3,
 a3:=isAgg3,
 z3:=sizeOf3,
 v3:=zeroValue3,
 t4:=underlying4,
 a4:=isAgg4,
 z4:=sizeOf4,
 v4:=zeroValue4,
 t9:=underlying9,
 a9:=isAgg9,
 z9:=sizeOf9,
 v9:=zeroValue9,
 t20:=underlying20,
 a20:=isAgg20,
 z20:=sizeOf20,
 v20:=zeroValue20,
 t22:=underlying82,
 a22:=isAgg82,
 z22:=sizeOf82,
 v22:=zeroValue82}
@[simp]theorem qEN:zA prog 238=true:=by kernel_rfl
theorem zKy(n:Nat)(hn:n<=1000000):my 238 [.nil,int n] [] (.row 0 0) [.row false 84 3 0 []] :=
 zHD (ρ:=zLm) (sz:=3) (bs:=40) (z:=.agg #[.int .i64 0,.int .i64 0,.slice none 0 0]) zSD (by kernel_rfl) rfl (by omega) (by omega) (by omega)
@[simp]theorem zYy:zA prog 231=true:=by kernel_rfl
def c6(Ls:List wI):wF:=Ls.map fun l=>A.sl l.length (zT l)
theorem p7:∀(Ls:List wI),j4 (c6 Ls)
 |[]=>j4.nil
 |l::Ls=>by
  have h1:=p7 Ls;have h2:=eV l;refine⟨?_,fun rf g=>?_⟩
  .show jV (A.sl l.length (zT l)::c6 Ls)=_;simp[h1.1];rfl
  .show vwL rf g (A.sl l.length (zT l)::c6 Ls)=_;simp[h1.2];rfl
@[simp]theorem zVz(l:List wI):jV (c6 l)=c6 l:=(p7 l).1
@[simp]theorem qAq{rf g}(l:List wI):vwL rf g (c6 l)=c6 l:=(p7 l).2 _ _
@[simp]theorem zWD(l:List wI):(c6 l).length=l.length:=by simp[c6]
variable{Ls:List wI}
theorem zBD{i:Nat}(h:i<Ls.length):(c6 Ls).drop i=.sl Ls[i].length (zT Ls[i])::c6 (Ls.drop (i+1)):=by rw[c6,<-List.map_drop,jB6 h];rfl
def o9(Ls:List wI):Nat:=Ls.flatten.length
theorem zIr{i:Nat}(h:i<Ls.length):o9 (Ls.take (i+1))=o9 (Ls.take i)+Ls[i].length:=by rw[o9,o9,jA7 h,jCm];simp
theorem zON(Ls:List wI)(i:Nat):o9 (Ls.take i)<=o9 Ls:=by
 have:Ls.flatten=(Ls.take i).flatten++(Ls.drop i).flatten:=by rw[<-jCm,jBw]
 rw[o9,o9,this,jA4];omega
theorem zGU(Ls:List wI)(hb:o9 Ls<=1000000):my 231 [.sl Ls.length (c6 Ls)] [] (.sl (o9 Ls) (zT Ls.flatten)) []:=by
 refine mq [] [.slot 2] func231 (by kernel_rfl) ?_
 (conv in kq _ _=>cbv)
 simp;intro hl;refine qI (S:=Nat) (fun i=>[(0,.sl Ls.length (c6 Ls)),(3,int (o9 (Ls.take i))),(9,.sl Ls.length (c6 Ls)),(10,int Ls.length),(11,int i)]) (fun s=>[]) (fun i=>i<=Ls.length) (fun i=>Ls.length-i) 0 (by simp)
  (mw [] 0 (by rfl) (by simp[o9])) ?_
 intro i hi;by_cases h:i<Ls.length
 .have ht:=zIr h;have hle:=zON Ls (i+1);have hw:IntKind.i64.wrap ((o9 (Ls.take i):Int)+(Ls[i].length:Int))=(o9 (Ls.take (i+1)):Nat):=by rw[ht];push_cast;exact IntWalk.i64_in _ (by omega)
  have h0:¬((o9 (Ls.take (i+1)):Nat):Int)<0:=by omega
  simp[h,zBD h];intro _;simp[hw,h0];exact zO (i+1) h (by omega) (mw [] 0 (by rfl) (by simp[zZ h hl]))
 .have hil:i=Ls.length:=by omega
  subst hil;have hI:¬(Ls.length:Int)<Ls.length:=by omega
  simp;refine mr (zKy (o9 Ls) hb) [] (by simp) ?_;simp;intro _;refine qI (S:=Nat) (fun i=>[(6,.row 0 (o9 (Ls.take i))),(25,.sl Ls.length (c6 Ls)),(26,int Ls.length),(27,int i)]) (fun i=>[.row false 84 3 (o9 (Ls.take i)) (zT (Ls.take i).flatten)]) (fun i=>i<=Ls.length) (fun i=>Ls.length-i) 0 (by simp)
   (mw [0] 0 (by rfl) (by simp[o9])) ?_
  intro i hi;by_cases h:i<Ls.length
  .have ht:=zIr h;have hle:=zON Ls (i+1);have hf:(Ls.take (i+1)).flatten=(Ls.take i).flatten++Ls[i]:=by rw[jA7 h,jCm];simp
   simp[h,zBD h];refine⟨⟨by simp[maxLen];omega,by omega⟩,?_⟩;exact zO (i+1) h (by omega) (mw [0] 0 (by rfl) (by simp[ht,hf,b7,zZ h hl]))
  .have hil:i=Ls.length:=by omega
   subst hil;simp;exact zB 1 (by simp)
mutual
theorem zAN:∀(l:wI),j3 l<=1000000->my 149 [.sl l.length (zT l)] [] (.sl l.length (zT l)) []
 |l,hz=>by
  have hl6:=oX l;refine mq [] [.slot 2] func149 (by kernel_rfl) ?_
  (conv in kq _ _=>cbv)
  simp;intro hl;refine qI (S:=Nat) (fun i=>[(3,.row 0 i),(6,.sl l.length (zT l)),(7,int l.length),(8,int i)]) (fun i=>[.row false 84 3 i (zT (l.take i))]) (fun i=>i<=l.length) (fun i=>l.length-i) 0 (by simp)
   ((jS (t:=3) (by simp) 84 3).trans (mw [0] 0 (by rfl) (by simp))) ?_
  intro i hi;by_cases h:i<l.length
  .have hk:=zDP l hz l[i] (jA0 h);have ht:zT (l.take (i+1))=zT (l.take i)++[.lit (.int .i64 l[i].k),.lit (.int .i64 l[i].n),.sl l[i].kids.length (zT l[i].kids)]:=by rw[jA7 h,b7];simp
   simp[h,jE h];refine mu hk (by simp) ?_;simp;refine⟨⟨by simp[maxLen];omega,by omega⟩,?_⟩;exact zO (i+1) h (by omega) (mw [0] 0 (by rfl) (by simp[ht,zZ h hl]))
  .have hil:i=l.length:=by omega
   subst hil;simp;exact zB 1 (by simp)
theorem zDP:∀(l:wI),j3 l<=1000000->∀x∈l,my 149 [.sl x.kids.length (zT x.kids)] [] (.sl x.kids.length (zT x.kids)) []
 |[],_,x,h=>by simp at h
 | .mk k n ks::l,hz,x,h=>by
  simp only[j3,qY]at hz
  if e:x∈l then exact zDP l (by omega) x e
  else
   have:x=.mk k n ks:=(jA1.1 h).resolve_right e;subst this;exact zAN ks (by omega)
end
def qFE:Nat->Option wE:=fun|9=>k_ [0,2,2,0,2,2,301,302,0,0]|_=>none
@[simp]theorem qMk:zA prog 220=true:=by kernel_rfl
@[simp]theorem qHC(b:Bool):(gA b).k=1:=rfl
@[simp]theorem qHD(b:Bool):(gA b).n=if b then 1 else 0:=rfl
@[simp]theorem zXG(b:Bool):(gA b).kids=[]:=rfl
@[simp]theorem zZb{env:Env}:ev env (.global 0)=.rptr [.clo 255 [] [],.clo 256 [] [],.clo 257 [] [],.clo 258 [] [],.clo 259 [] []]:=rfl
theorem aU:2<=maxLen:=by simp[maxLen]
theorem i5:1<=maxLen:=by simp[maxLen]
theorem zSe{n:Int}(h:OpT n ts t)(hv:TyL p ts vs)(hs:∀v∈vs,qY v<=256):my 220 [int n,.sl vs.length (zT vs)] [] (.agg (zN (opV n vs))) []:=by
 refine ml qFE [64] [] [] [.cell 4 3 true] func220 (by kernel_rfl) ?_
 (conv in kH _ _ _=>cbv)
 cases h with
 |arith n h1 h2 =>
  obtain⟨a,b,rfl,ha,hb⟩:=hv.two;obtain⟨x,rfl,hx⟩:=ha.int_inv;obtain⟨y,rfl,hy⟩:=hb.int_inv;have e:opV n [.mk 0 x [],.mk 0 y []]=.mk 0 (zHc n x y) []:=by simp only[opV,if_pos h2];rfl
  rw[e];have hn:n=0\/n=1\/n=2\/n=3\/n=4:=by omega
  rcases hn with rfl|rfl|rfl|rfl|rfl
  .simp[Val.k,Val.n,Val.kids,aU,i5];refine qC (zU2 hx hy) (by simp) (by simp) ?_;simp;exact zB 0 (by simp[zN,Val.k,Val.n,Val.kids,zHc])
  .simp[Val.k,Val.n,Val.kids,aU,i5];refine qC (zUD hx hy) (by simp) (by simp) ?_;simp;exact zB 0 (by simp[zN,Val.k,Val.n,Val.kids,zHc])
  .simp[Val.k,Val.n,Val.kids,aU,i5];refine qC (zPx hx hy) (by simp) (by simp) ?_;simp;exact zB 0 (by simp[zN,Val.k,Val.n,Val.kids,zHc])
  .simp[Val.k,Val.n,Val.kids,aU,i5];refine qC (zFt hx hy) (by simp) (by simp) ?_;simp;exact zB 0 (by simp[zN,Val.k,Val.n,Val.kids,zHc])
  .simp[Val.k,Val.n,Val.kids,aU,i5];refine qC (zSh hx hy) (by simp) (by simp) ?_;simp;exact zB 0 (by simp[zN,Val.k,Val.n,Val.kids,zHc])
 |less =>
  obtain⟨a,b,rfl,ha,hb⟩:=hv.two;obtain⟨x,rfl,hx⟩:=ha.int_inv;obtain⟨y,rfl,hy⟩:=hb.int_inv;simp[Val.k,Val.n,Val.kids,aU,i5];refine⟨_,_,b9 2,?_⟩;simp[Val.k,Val.n,Val.kids,aU,i5];refine mu (fF (decide (x<y))) (by simp[zN]) ?_;simp[zN];exact zB 0 (by by_cases hx0:x<y<;>simp[zN,opV,qJ,hx0])
 |same u =>
  obtain⟨a,b,rfl,ha,hb⟩:=hv.two;simp[aU];refine⟨_,_,b9 2,?_⟩;simp[aU];refine mu (zIF a b) (by simp[zN]) ?_;simp;refine mu (fF (decide (mO a b=0))) (by simp[zN]) ?_;simp[zN];exact zB 0 (by simp[zN,opV])
 |andor n h =>
  obtain⟨a,b,rfl,ha,hb⟩:=hv.two;obtain⟨x,rfl,hx⟩:=ha.bool_inv;obtain⟨y,rfl,hy⟩:=hb.bool_inv;rcases h with rfl|rfl
  .rcases hx with rfl|rfl<;>rcases hy with rfl|rfl
   .simp[Val.k,Val.n,Val.kids,aU];refine⟨_,_,b9 2,?_⟩;simp[Val.k,Val.n,Val.kids,aU];refine mu (fF false) (by simp[zN]) ?_;simp[zN];exact zB 0 (by simp[zN,opV,qJ])
   .simp[Val.k,Val.n,Val.kids,aU];refine⟨_,_,b9 2,?_⟩;simp[Val.k,Val.n,Val.kids,aU];refine mu (fF false) (by simp[zN]) ?_;simp[zN];exact zB 0 (by simp[zN,opV,qJ])
   .simp[Val.k,Val.n,Val.kids,aU];refine⟨_,_,b9 2,?_⟩;simp[Val.k,Val.n,Val.kids,aU];refine mu (fF false) (by simp[zN]) ?_;simp[zN];exact zB 0 (by simp[zN,opV,qJ])
   .simp[Val.k,Val.n,Val.kids,aU];refine⟨_,_,b9 2,?_⟩;simp[Val.k,Val.n,Val.kids,aU];refine mu (fF true) (by simp[zN]) ?_;simp[zN];exact zB 0 (by simp[zN,opV,qJ])
  .rcases hx with rfl|rfl<;>rcases hy with rfl|rfl
   .simp[Val.k,Val.n,Val.kids,aU];refine⟨_,_,b9 2,?_⟩;simp[Val.k,Val.n,Val.kids,aU];refine mu (fF false) (by simp[zN]) ?_;simp[zN];exact zB 0 (by simp[zN,opV,qJ])
   all_goals
    simp[Val.k,Val.n,Val.kids,aU];refine⟨_,_,b9 2,?_⟩;simp[Val.k,Val.n,Val.kids,aU];refine mu (fF true) (by simp[zN]) ?_;simp[zN];exact zB 0 (by simp[zN,opV,qJ])
 |not =>
  obtain⟨a,rfl,ha⟩:=hv.one;obtain⟨x,rfl,hx⟩:=ha.bool_inv;simp[Val.k,Val.n,Val.kids,aU,i5];refine mu (fF (decide (x=0))) (by simp[zN]) ?_;simp[zN];exact zB 0 (by by_cases hx0:x=0<;>simp[zN,opV,qJ,hx0])
 |join u =>
  obtain⟨a,b,rfl,ha,hb⟩:=hv.two;have h1:=hs a (by simp);have h2:=hs b (by simp);cases a with|mk k1 n1 l1 =>
  cases b with|mk k2 n2 l2 =>
  simp only[qY]at h1 h2;have z1:=oX l1;have z2:=oX l2;have hc:my 231 [.sl 2 [.sl l1.length (zT l1),.sl l2.length (zT l2)]] [] (.sl (l1.length+l2.length) (zT (l1++l2))) []:=by simpa[c6,o9]using zGU [l1,l2] (by simp[o9];omega)
  have hk:=zAN (l1++l2) (by rw[gV];omega);rw[jA4]at hk;simp[Val.k,Val.n,Val.kids,aU,i5];refine⟨_,_,b9 2,?_⟩;simp[Val.k,Val.n,Val.kids,aU,i5];refine mu hc (by simp) ?_;simp;refine mu hk (by simp) ?_;simp;exact zB 0 (by simp[zN,opV,Val.k,Val.n,Val.kids])
 |len u =>
  obtain⟨a,rfl,ha⟩:=hv.one;simp[i5];exact fun _=>zB 0 (by simp[zN,opV,Val.k,Val.n,Val.kids])
def uD(l:wC)(ds:wS)(i:Nat):wS:=match ds[(atV l i ds.length).toNat]? with
 |some d=>if dU d.kind then ds.set (atV l i ds.length).toNat (d.wb (aC d.body (atV l (i+1) (tmps d.body).length) (atV l (i+2) 1000)).1)else ds
 |none=>ds
def eJ(l:wC)(ds:wS):Nat->wS
 | 0=>ds
 |i+1=>uD l (eJ l ds i) i
theorem zN3(l:wC)(ds:wS)(i:Nat):(uD l ds i).length=ds.length:=by
 unfold uD;split
 .split<;>simp
 .rfl
theorem sM(l:wC)(ds:wS):∀i:Nat,(eJ l ds i).length=ds.length
 | 0=>rfl
 |i+1=>by simp only[eJ];rw[zN3,sM l ds i]
theorem zLH(l:wC){ds:wS}{i:Nat}{P:Dfn->Prop}(h:∀d∈ds,P d)(hs:∀d,P d->∀a x,P (d.wb (aC d.body a x).1)):∀d∈uD l ds i,P d:=by
 unfold uD;split
 .rename_i d hd;split
  .intro d' hd';rcases List.mem_or_eq_of_mem_set hd' with hd'|rfl
   .exact h d' hd'
   .exact hs _ (h _ (jBs hd)) _ _
  .exact h
 .exact h
theorem zBs(l:wC){ds:wS}{P:Dfn->Prop}(h:∀d∈ds,P d)(hs:∀d,P d->∀a x,P (d.wb (aC d.body a x).1)):∀i:Nat,∀d∈eJ l ds i,P d
 | 0=>h
 |i+1=>zLH l (zBs l h hs i) hs
structure FineD(d:Dfn):Prop where
 s1:1<=d.slots.length
 s6:d.slots.length<=6
 nice:d.body.nice
 size:(tmps d.body).length<=33000
theorem FineP.get(h:FineP p):∀d∈p.defs,FineD d:=fun d hd=>⟨(h.slots d hd).1,(h.slots d hd).2,h.nice d hd,h.size d hd⟩
theorem FineP.mk'(h1:p.defs.length<=9)(h2:p.mods.length<=100)(h:∀d∈p.defs,FineD d):FineP p:=⟨h1,h2,fun d hd=>⟨(h d hd).s1,(h d hd).s6⟩,fun d hd=>(h d hd).nice,fun d hd=>(h d hd).size⟩
theorem FineD.tweak(h:FineD d)(a x:Int):FineD (d.wb (aC d.body a x).1):=by have:=zG7 x d.body a h.nice;exact⟨h.s1,h.s6,this.1,by have:=this.2;have:=h.size;simp only[Dfn.wb];omega⟩
theorem zG5(l:wC)(h:FineP p)(i:Nat):FineP ⟨p.mods,eJ l p.defs i⟩ :=
 FineP.mk' (by simp only[sM];exact h.defs) h.mods (zBs l h.get (fun d hd a x=>hd.tweak a x) i)
def zAx(l:wC)(most:Nat):Nat:=min most (l.length-2)
theorem zIt(p:Prg)(hf:FineP p)(h0:0<p.defs.length)(l:wC)(hl:∀x∈l,w64 x=x)(most:Nat)(hm:most<=100) :
 my 52 [.agg (zI p),.sl l.length (aQ l),int most] [] (.agg (zI ⟨p.mods,eJ l p.defs (zAx l most)⟩)) []:=by
 obtain⟨N,hN⟩:∃N,N=zAx l most:=⟨_,rfl⟩;rw[<-hN];have hNm:N<=most:=by rw[hN];exact Nat.min_le_left _ _
 have hNl:N<=l.length-2:=by rw[hN];exact Nat.min_le_right _ _
 have hd9:=hf.defs;refine mq [] [.cell 6 2 true] func52 (by kernel_rfl) ?_
 (conv in kq _ _=>cbv)
 have hnil:p.defs≠[]:=fun e=>by rw[e]at h0;simp at h0
 simp[zI,hnil];refine⟨⟨by simp[maxLen];omega,by omega⟩,?_⟩;refine qI (S:=Nat) (fun i=>[(1,.sl l.length (aQ l)),(2,int most),(3,.ptr 0 0),(6,.ptr 1 0),(7,int i)])
  (fun i=>[.box [.sl p.mods.length (qA p.mods),.row 2 p.defs.length],.box [.nil,.nil],.row false 42 31 p.defs.length (zQ (eJ l p.defs i))]) (fun i=>i<=N) (fun i=>N-i) 0 (by simp)
  (mw [0,1,2] 0 (by rfl) (by simp[eJ])) ?_
 intro i hi;have wi2:=qF ((i:Int)+2) (by omega);by_cases h:i<N
 .have c1:(i:Int)<most:=by omega
  have c2:(i:Int)+2<l.length:=by omega
  have wi1:=yK i (by omega);have hlen:=sM l p.defs i;have hfi:=(zG5 l hf i).get;have hstep:eJ l p.defs (i+1)=uD l (eJ l p.defs i) i:=rfl;simp only at hfi;generalize hTs:eJ l p.defs (i+1)=T' at hstep;generalize hT:eJ l p.defs i=T at *
  have hat:=eZ l i p.defs.length (by omega);obtain⟨a1,a2⟩:=yZ (i:=i) hl (most:=(p.defs.length:Int)) (by omega);obtain⟨k,hk⟩:∃k:Nat,atV l i p.defs.length=k:=⟨(atV l i p.defs.length).toNat,by omega⟩;have hkT:k<T.length:=by omega
  have hkd:k<p.defs.length:=by omega
  rw[hk]at hat;unfold uD at hstep;rw[hlen,hk,jCq,jA2 hkT]at hstep;have hdr:=yA hkT;have hwb:=fun e=>xW hkT e
  have hfd:=hfi _ (jA0 hkT);generalize T[k]=d at *
  simp only at hstep;have hb31:k*31+31<=p.defs.length*31:=by omega
  have hb14:k*31+14+15<=p.defs.length*31:=by omega
  have hdr14:List.drop (k*31+14) (zQ T)=(zJ d++zQ (T.drop (k+1))).drop 14:=by rw[<-jAu,hdr]
  have hhb:=zUR d;simp[c1,c2,wi2,h0]
  intros
  refine mu hat (by simp) ?_;simp[hkd,hdr,hb31,zJ,hlen];refine mu hhb (by simp[zJ]) ?_;cases hbk:dU d.kind
  .rw[hbk]at hstep;simp only[jAg,if_false]at hstep;subst hstep;simp;exact zO (i+1) h (by omega) (mw [0,1,2] 0 (by rfl) (by simp[hT,hTs,wi1]))
  .rw[hbk]at hstep;simp only[if_true]at hstep;have hsz:=hfd.size;have hn1:1<=(tmps d.body).length:=by rw[bL,jA4,jAn];omega
   have hnod:=zFQ d.body (by omega);have hat1:=eZ l (i+1) (tmps d.body).length (by omega);obtain⟨b1,b2⟩:=yZ (i:=i+1) hl (most:=((tmps d.body).length:Int)) (by omega);have hat2:=eZ l (i+2) 1000 (by omega);have htw:=zLI d.body (zOx _ hfd.nice) (by omega) (atV l (i+1) (tmps d.body).length) (atV l (i+2) 1000) b1 (by omega);simp[hlen,hkd,hdr14,hb14,zJ,wi1];refine mu hnod (by simp[zG]) ?_;simp[wi1];refine mu hat1 (by simp) ?_;simp[hlen,hkd,hdr14,hb14,zJ,wi2];refine qC hat2 (by simp) (by simp) ?_;simp[hlen,hkd,hdr14,hb14,zJ];refine qC htw (by simp[zG]) (by simp[twR]) ?_;simp[hlen,twR,hkd,hb14];exact zO (i+1) h (by omega) (kf [0,1,2] 0 (by rfl) (by simp[hTs,hstep,<-hwb]) (by simp[wi1]))
 .have hie:i=N:=by omega
  subst hie;have hlen:=sM l p.defs i;by_cases c1:(i:Int)<most
  .have c2:¬(i:Int)+2<l.length:=by have:i=min most (l.length-2):=hN;omega
   simp[c1,c2,wi2]
   intros
   exact zB 1 (by simp[zI,hlen])
  .simp[c1];exact zB 1 (by simp[zI,hlen])
@[simp]theorem qMG:zA prog 237=true:=by kernel_rfl
@[simp]theorem qMO:zA prog 236=true:=by kernel_rfl
@[simp]theorem qMM:zA prog 229=true:=by kernel_rfl
def zBk(f:Int->Id)(x:Id):Id:=if x.b=0 then f x.c else x
def zDy(f:Int->Id)(b:Bnd):Bnd:={b with id:=zBk f b.id}
def qCH(f:Int->Id)(env:wJ):Prop:=∀b∈env,∀b'∈env,zBk f b.id=zBk f b'.id->b.id=b'.id
variable{f:Int->Id}
theorem zQa(h:qCH f env){x:Id}{n:Int}:fC env x n=some t->fC (env.map (zDy f)) (zBk f x) n=some t:=by
 have hmem:fC env x n=some t->∃b∈env,b.id=x:=by intro he;unfold fC at he;rw[jAf]at he;obtain⟨b,hb,_⟩:=he;have h1:=jD6 hb;have h2:=jCy hb;rw[jA8]at h1;exact⟨b,List.mem_reverse.1 h2,of_decide_eq_true h1.1⟩
 intro he;obtain⟨b0,hb0,rfl⟩:=hmem he;clear hmem;have key:∀l:wJ,(∀b∈l,b∈env)->fC l b0.id n=some t->fC (l.map (zDy f)) (zBk f b0.id) n=some t:=by
  intro l;induction l using fT with
  |nil=>intro _ h;simp[fC]at h
  |snoc l y ih =>
   intro hl hk;rw[lQ]at hk;rw[jBa,jDb,lQ];have hy:=hl y (by simp);by_cases c1:y.id=b0.id
   .by_cases c2:y.n=n
    .rw[if_pos ⟨c1,c2⟩]at hk;rw[if_pos ⟨by simp only[zDy];rw[c1],c2⟩];exact hk
    .rw[if_neg fun h=>c2 h.2]at hk;rw[if_neg fun h=>c2 h.2];exact ih (fun b hb=>hl b (jBr _ hb)) hk
   .rw[if_neg fun h=>c1 h.1]at hk;rw[if_neg fun e=>c1 (h y hy b0 hb0 e.1)];exact ih (fun b hb=>hl b (jBr _ hb)) hk
 exact key env (fun _ h=>h) he
theorem zDz:∀l:wH,l.length<=(jJ l).length
 |[]=>by simp
 |e::l=>by
  have:=zDz l;have h1:1<=(tmps e).length:=by rw[bL];simp
  simp only[jAc,jJ,jA4];omega
theorem zCz:∀{l:wH} {e:Exp},e∈l->(tmps e).Sublist (jJ l)
 |x::l,e,h=>by
  simp only[jJ];rcases jA1.1 h with rfl|h
  .exact List.sublist_append_left _ _
  .exact(zCz h).trans (List.sublist_append_right _ _)
structure Frs(f:Int->Id)(env:List Bnd)(e:Exp):Prop where
 nd:(tmps e).Nodup
 num:e.num0
 inj:∀c∈tmps e,∀c'∈tmps e,f c=f c'->c=c'
 new:∀b∈env,∀c∈tmps e,zBk f b.id≠f c
 len:(tmps e).length<=32768
 ib:qCH f env
section
variable{f:Int->Id}{env:wJ}{i:Id}{k n:Int}{r:Id}{u:Typ}{ks:wH}{ns:List ByteArray}
theorem Frs.id(h:Frs f env (.mk i k n r u ks ns)):i=⟨0,0,i.c⟩:=by obtain⟨a,b,c⟩:=i;have:=h.num;simp only[Exp.num0]at this;simp[this.1.1,this.1.2]
theorem Frs.kid(h:Frs f env (.mk i k n r u ks ns)){e:Exp}(he:e∈ks):Frs f env e:=by
 obtain⟨h1,h2,h3,h4,h5,h6⟩:=h;simp only[tmps]at h1 h3 h4 h5;simp only[Exp.num0,zDm]at h2;have hs:=zCz he;have hm:∀c∈tmps e,c∈jJ ks++[i.c]:=fun c hc=>jBr _ (hs.subset hc)
 exact⟨(jD4.1 h1).1.sublist hs,h2.2 e he,fun c hc c' hc'=>h3 c (hm c hc) c' (hm c' hc'),fun b hb c hc=>h4 b hb c (hm c hc),by
  have:=hs.length_le;rw[jA4]at h5;omega,h6⟩
theorem Frs.push(h:Frs f env (.mk i k n r u ks ns)){e:Exp}(he:e∈ks)(m:Int)(t:Typ){env':wJ}(hb:env'=env\/∃m' t',env'=env++[⟨i,m',t'⟩]):Frs f (env'++[⟨i,m,t⟩]) e:=by
 have hk:=h.kid he;have hi:=h.id;obtain⟨h1,h2,h3,h4,h5,h6⟩:=h;simp only[tmps]at h1 h3 h4;have hic:i.c∈jJ ks++[i.c]:=by simp
 have hri:zBk f i=f i.c:=by unfold zBk;rw[if_pos (by rw[hi])]
 have hmem:∀b∈env'++[(⟨i,m,t⟩:Bnd)],b∈env\/b.id=i:=by
  intro b hb';rcases jA6.1 hb' with hb'|hb'
  .rcases hb with rfl|⟨m',t',rfl⟩
   .exact .inl hb'
   .rcases jA6.1 hb' with hb'|hb'
    .exact .inl hb'
    .rw[jAi.1 hb'];exact .inr rfl
  .rw[jAi.1 hb'];exact .inr rfl
 refine⟨hk.nd,hk.num,hk.inj,fun b hb' c hc=>?_,hk.len,fun b hb1 b' hb2 e=>?_⟩
 .rcases hmem b hb' with h'|h'
  .exact hk.new b h' c hc
  .rw[h',hri];intro e;have hc':=(zCz he).subset hc;have:=h3 i.c hic c (jBr _ hc') e;exact(jD4.1 h1).2.2 c hc' i.c (by simp) this.symm
 .rcases hmem b hb1 with h'|h'<;>rcases hmem b' hb2 with h''|h''
  .exact h6 b h' b' h'' e
  .rw[h'',hri]at e;exact(h4 b h' i.c hic e).elim
  .rw[h',hri]at e;exact(h4 b' h'' i.c hic e.symm).elim
  .rw[h',h'']
theorem Frs.fresh(h:Frs f env (.mk i k n r u ks ns)):∀x∈env.map (zDy f),x.id≠f i.c:=by intro x hx;obtain⟨b,hb,rfl⟩:=jA9.1 hx;exact h.new b hb i.c (by simp[tmps])
theorem Frs.kids(h:Frs f env (.mk i k n r u ks ns)):(ks.map (eB f)).length<=32768:=by have h1:=h.len;have h2:=zDz ks;simp only[tmps,jA4]at h1;rw[jAb];omega
end
theorem cM{k n:Int}{ks:wH}{ns:List ByteArray}(h:k≠2):eB f (.mk i k n r u ks ns)=.mk (f i.c) k n r u (ks.map (eB f)) ns:=by simp only[eB,oF,h,false_and,if_false]
def zXL(P:Prg)(hs:wQ):Prop:=∀(k:Nat) (h:k<hs.length),∃d,qG P.defs hs[k].id=some d/\d.hd=hs[k]
variable{P:Prg}
theorem qHM(hh:zXL P hs){own:Int}(h:WT hs own env e t):Frs f env e->WE P (env.map (zDy f)) (eB f e) t:=by
 induction h with
 |int env i n h1 h2=>intro hF;rw[cM (by decide)];exact .int _ _ _ _ _ _ h1 h2
 |bool env i n h=>intro hF;rw[cM (by decide)];exact .bool _ _ _ _ _ _ h
 |var env i n x t h =>
  intro hF;have e:eB f (.mk i 2 n x Typ.zero [] [])=.mk (f i.c) 2 n (zBk f x) Typ.zero [] []:=by simp only[eB,oV,true_and,zBk]
  rw[e];exact .var _ _ _ _ _ _ _ (zQa hF.ib h)
 |call env i k h ks ho hk hl hw ih =>
  intro hF;obtain⟨d,hd,hhd⟩:=hh k h;have e1:d.kind=hs[k].kind:=congrArg Hd.kind hhd;have e2:d.slots=hs[k].slots:=congrArg Hd.slots hhd;have e3:d.res=hs[k].res:=congrArg Hd.res hhd;rw[cM (by decide),<-e3];refine .call _ _ _ _ _ _ _ hF.kids d hd (by rw[e1];exact hk) (by simp only[jAb,e2];exact hl) fun j hj=>?_
  simp only[jB,e2];rw[jAb]at hj;exact ih j hj (hF.kid (jA0 hj))
 |arith env i n a b h1 h2 ha hb iha ihb =>
  intro hF;rw[cM (by decide)];refine .op _ _ _ _ _ _ _ hF.kids [jT,jT] jT (.arith n h1 h2) rfl fun j hj=>?_
  match j,hj with
  | 0,_=>exact iha (hF.kid (by simp))
  | 1,_=>exact ihb (hF.kid (by simp))
 |less env i a b ha hb iha ihb =>
  intro hF;rw[cM (by decide)];refine .op _ _ _ _ _ _ _ hF.kids [jT,jT] j9 .less rfl fun j hj=>?_
  match j,hj with
  | 0,_=>exact iha (hF.kid (by simp))
  | 1,_=>exact ihb (hF.kid (by simp))
 |same env i a b u ha hb iha ihb =>
  intro hF;rw[cM (by decide)];refine .op _ _ _ _ _ _ _ hF.kids [u,u] j9 (.same u) rfl fun j hj=>?_
  match j,hj with
  | 0,_=>exact iha (hF.kid (by simp))
  | 1,_=>exact ihb (hF.kid (by simp))
 |andor env i n a b h ha hb iha ihb =>
  intro hF;rw[cM (by decide)];refine .op _ _ _ _ _ _ _ hF.kids [j9,j9] j9 (.andor n h) rfl fun j hj=>?_
  match j,hj with
  | 0,_=>exact iha (hF.kid (by simp))
  | 1,_=>exact ihb (hF.kid (by simp))
 |not env i a ha iha =>
  intro hF;rw[cM (by decide)];refine .op _ _ _ _ _ _ _ hF.kids [j9] j9 .not rfl fun j hj=>?_
  match j,hj with
  | 0,_=>exact iha (hF.kid (by simp))
 |join env i a b t ha hb iha ihb =>
  intro hF;rw[cM (by decide)];refine .op _ _ _ _ _ _ _ hF.kids [jX t,jX t] (jX t) (.join t) rfl fun j hj=>?_
  match j,hj with
  | 0,_=>exact iha (hF.kid (by simp))
  | 1,_=>exact ihb (hF.kid (by simp))
 |len env i a t ha iha =>
  intro hF;rw[cM (by decide)];refine .op _ _ _ _ _ _ _ hF.kids [jX t] jT (.len t) rfl fun j hj=>?_
  match j,hj with
  | 0,_=>exact iha (hF.kid (by simp))
 |ite env i a b c t ha hb hc iha ihb ihc =>
  intro hF;rw[cM (by decide)];exact .ite _ _ _ _ _ _ _ _ _ _ (iha (hF.kid (by simp))) (ihb (hF.kid (by simp))) (ihc (hF.kid (by simp)))
 |lets env i a b u t ns hn ha hb iha ihb =>
  intro hF;rw[cM (by decide)];have hb':=ihb (hF.push (by simp) 0 u (.inl rfl));rw[jBa,jDb]at hb';have hi:=hF.id;have e:zDy f ⟨i,0,u⟩=⟨f i.c,0,u⟩:=by simp only[zDy,zBk];rw[if_pos (by rw[hi])]
  rw[e]at hb';exact .lets _ _ _ _ _ _ _ _ _ _ hF.fresh (iha (hF.kid (by simp))) hb'
 |record env i k h ks hk hl hw ih =>
  intro hF;obtain⟨d,hd,hhd⟩:=hh k h;have e1:d.kind=hs[k].kind:=congrArg Hd.kind hhd;have e2:d.slots=hs[k].slots:=congrArg Hd.slots hhd;rw[cM (by decide)];refine .record _ _ _ _ _ _ _ hF.kids d hd (by rw[e1];exact hk) (by simp only[jAb,e2];exact hl) fun j hj=>?_
  simp only[jB,e2];rw[jAb]at hj;exact ih j hj (hF.kid (jA0 hj))
 |field env i k h j hj a hk ha iha =>
  intro hF;obtain⟨d,hd,hhd⟩:=hh k h;have e1:d.kind=hs[k].kind:=congrArg Hd.kind hhd;have e2:hs[k].slots=d.slots:=(congrArg Hd.slots hhd).symm;rw[cM (by decide)];have hjd:j<d.slots.length:=by rw[<-e2];exact hj
  have et:hs[k].slots[j]=d.slots[j]:=by simp only[e2]
  rw[et];exact .field _ _ _ _ _ _ d j hd (by rw[e1];exact hk) hjd (iha (hF.kid (by simp)))
 |case env i k h j hj a hk ha iha =>
  intro hF;obtain⟨d,hd,hhd⟩:=hh k h;have e1:d.kind=hs[k].kind:=congrArg Hd.kind hhd;have e2:hs[k].slots=d.slots:=(congrArg Hd.slots hhd).symm;rw[cM (by decide)];have hjd:j<d.slots.length:=by rw[<-e2];exact hj
  have et:hs[k].slots[j]=d.slots[j]:=by simp only[e2]
  have ih:=iha (hF.kid (by simp));rw[et]at ih;exact .case _ _ _ _ _ _ d j hd (by rw[e1];exact hk) hjd ih
 |mtch env i k h a ks t ns hn hk hl ha hw iha ih =>
  intro hF;obtain⟨d,hd,hhd⟩:=hh k h;have e1:d.kind=hs[k].kind:=congrArg Hd.kind hhd;have e2:d.slots=hs[k].slots:=congrArg Hd.slots hhd;rw[cM (by decide),jAd];have hi:=hF.id;refine .mtch _ _ _ _ _ _ _ _ d _ hF.fresh hd (by rw[e1];exact hk) (by simp only[jAb,e2];exact hl) (iha (hF.kid (by simp))) fun j hj=>?_
  have hj':j<ks.length:=by rw[jAb]at hj;exact hj
  have:=ih j hj' (hF.push (jAk _ (jA0 hj')) _ _ (.inl rfl));rw[jBa,jDb]at this;have e:∀t,zDy f ⟨i,j,t⟩=⟨f i.c,j,t⟩:=fun t=>by simp only[zDy,zBk];rw[if_pos (by rw[hi])]
  rw[e]at this;simp only[jB,e2];exact this
 |list env i t ks hw ih =>
  intro hF;rw[cM (by decide)];refine .list _ _ _ _ _ _ _ _ hF.kids fun j hj=>?_
  rw[jAb]at hj;rw[jB];exact ih j hj (hF.kid (jA0 hj))
 |fold env i l s b u t ns hn hl hs' hb ihl ihs ihb =>
  intro hF;rw[cM (by decide)];have hb':=ihb (hF.push (by simp) 1 t (.inr ⟨0,u,rfl⟩));rw[jBa,jDb,jBa,jDb]at hb';have hi:=hF.id;have e:∀m t,zDy f ⟨i,m,t⟩=⟨f i.c,m,t⟩:=fun m t=>by simp only[zDy,zBk];rw[if_pos (by rw[hi])]
  rw[e,e]at hb';exact .fold _ _ _ _ _ _ _ _ _ _ _ hF.fresh (ihl (hF.kid (by simp))) (ihs (hF.kid (by simp))) hb'
theorem pN:∀{ds:wS} (_:ds.Pairwise fun a b=>a.id≠b.id) {k:Nat} (hk:k<ds.length),qG ds ds[k].id=some ds[k]
 |d::ds,h,0,_=>by rw[zAX];simp
 |d::ds,h,k+1,hk=>by
  rw[jC2]at h;have hk':k<ds.length:=by simpa using hk
  rw[zAX];have:=h.1 ds[k] (jA0 hk');simp only[jDv];rw[if_neg this];exact pN h.2 hk'
structure Fit(P:Prg)(hs:List Hd):Prop where
 heads:P.defs.map Dfn.hd=hs
 len8:P.defs.length<=100
 nd:P.defs.Pairwise fun a b=>a.id≠b.id
 slots:∀d∈P.defs,1<=d.slots.length/\d.slots.length<=6/\(d.kind=0\/d.kind=1->d.slots.length<=3)/\(d.slots.Pairwise fun a b=>a.id≠b.id)/\∀s∈d.slots,TyOk hs 4 s.typ
 kinds:∀d∈P.defs,0<=d.kind/\d.kind<=5
 bods:zLP P
theorem Fit.hd(h:Fit P hs):zXL P hs:=fun k hk=>by
 have hk':k<P.defs.length:=by rw[<-h.heads]at hk;simpa using hk
 have e:hs[k]=P.defs[k].hd:=by simp[<-h.heads]
 refine⟨P.defs[k],?_,e.symm⟩;rw[e];exact pN h.nd hk'
theorem yD{ds:wS}(h:qG ds r=some d):d∈ds/\d.id=r:=⟨jCy h,by simpa using jD6 h⟩
section
variable{l:wC}{mods:Int}(hl:∀x∈l,w64 x=x)
include hl
theorem zQp:∀p∈qD l mods,p.kind=0\/p.kind=1->p.types.length<=3:=by
 intro p hp;have a2:=yZ (i:=2) hl (most:=3) (by omega);have a6:=yZ (i:=6) hl (most:=2) (by omega);have a9:=yZ (i:=9) hl (most:=3) (by omega);have hp':p=dM l mods\/p=dZ l mods\/p=i6 l mods\/p=zDp mods\/p.kind=2\/p.kind=3\/p.kind=4\/p.kind=5:=by
  simp only[qD,plB,plC,plD,plE,jA6,jA1]at hp;rcases hp with ((h|h|h)|h)|h|h|h|h
  .simp[h]
  .simp[h]
  .simp at h
  .split at h
   .simp at h;rcases h with h|h<;>simp[h]
   .simp at h
  .simp[h,pF]
  .split at h<;>simp[h,zA8,pG]
  .simp[h,pT]
  .split at h
   .simp at h;simp[h,pC]
   .simp at h
 rcases hp' with rfl|rfl|rfl|rfl|h
 .intro _;simp only[dM,l9];omega
 .intro _;simp only[dZ,jAc,l9];omega
 .intro _;simp only[i6,jAc,l9];omega
 .intro _;simp only[zDp,jAc,jB4];omega
 .omega
end
theorem PrgOk.fit{l:wC}(hl:∀x∈l,w64 x=x)(h:PrgOk l P):Fit P (hsV l (nmV l)):=by
 obtain⟨hnm,hnm2⟩:=zJe l hl;generalize hN:nmV l=nm at *
 have m1:1<=(nm:Int):=by omega
 have m2:(nm:Int)<=2:=by omega
 obtain⟨n5,n8⟩:=bR l (nm:Int);have hh:=h.heads;rw[hN]at hh;have hlen:P.defs.length=(qD l nm).length:=by have:=congrArg List.length hh;simpa using this
 have hget:∀(k:Nat) (hk:k<P.defs.length),P.defs[k].hd=⟨idR (nm+k),((qD l nm)[k]'(by omega)).kind,dO (bH nm (qD l nm) k) ((qD l nm)[k]'(by omega)),((qD l nm)[k]'(by omega)).out⟩:=fun k hk=>by
  rw[<-mR nm (qD l nm) (by omega)];have:(P.defs.map Dfn.hd)[k]'(by simpa using hk)=(zGX nm (qD l nm))[k]'(by simpa using (by omega:k<(qD l nm).length)):=by simp only[hh]
  rwa[jB]at this
 have hnd:P.defs.Pairwise fun a b=>a.id≠b.id:=by rw[jC0];intro i j hi hj hij e;have e1:P.defs[i].id=idR (nm+i):=congrArg Hd.id (hget i hi);have e2:P.defs[j].id=idR (nm+j):=congrArg Hd.id (hget j hj);rw[e1,e2]at e;have:=tI (by omega) (by omega) (by omega) (by omega) e;omega
 have hpl:=eA l nm m1 m2 hl;have hrange:=fun i=>iI (show 0<=(nm:Int) by omega) (fun p hp=>(hpl p hp).t6) i
 have henv:∀(k:Nat) (hk:k<P.defs.length),EnvOk (hsV l nm) 4 0 (cN P.defs[k])/\1<=(cN P.defs[k]).length/\(cN P.defs[k]).length<=6/\TyOk (hsV l nm) 4 P.defs[k].res:=fun k hk=>zAU m1 m2 hl (i:=k) (by rw[<-hh,jBi,jA2 hk];rfl) 0
 have hslot:∀(k:Nat) (hk:k<P.defs.length),∀s∈P.defs[k].slots,∃j:Int,s.id=idR j/\0<=j/\j<bH nm (qD l nm) (qD l nm).length:=fun k hk s hs=>by have e:P.defs[k].slots=dO (bH nm (qD l nm) k) ((qD l nm)[k]'(by omega)):=congrArg Hd.slots (hget k hk);rw[e]at hs;simp only[dO,jA9,jC6]at hs;obtain⟨j,hj,rfl⟩:=hs;have h1:=hrange k;have h2:=zFO nm (qD l nm) (i:=k) (by omega);have h3:=zNc (mods:=nm) (ps:=qD l nm) (show k+1<=(qD l nm).length by omega);exact⟨_,rfl,by omega,by omega⟩
 refine⟨hh,by omega,hnd,fun d hd=>?_,fun d hd=>?_,fun r d hd hb=>?_⟩
 .obtain⟨k,hk,rfl⟩:=jAe hd;obtain⟨a1,a2,a3,a4⟩:=henv k hk;rw[vK]at a2 a3;refine⟨a2,a3,fun hkd=>?_,?_,fun s hs=>a1.typs ⟨s.id,0,s.typ⟩ (jA9.2 ⟨s,hs,rfl⟩)⟩
  .have e1:P.defs[k].kind=((qD l nm)[k]'(by omega)).kind:=congrArg Hd.kind (hget k hk);have e2:P.defs[k].slots=dO (bH nm (qD l nm) k) ((qD l nm)[k]'(by omega)):=congrArg Hd.slots (hget k hk);rw[e2,lY];exact zQp hl _ (jA0 _) (by rw[<-e1];exact hkd)
  .have:=a1.nd;simp only[cN]at this;rw[jC]at this;exact this.imp fun h e=>h ⟨e,rfl⟩
 .obtain⟨k,hk,rfl⟩:=jAe hd;have e1:P.defs[k].kind=((qD l nm)[k]'(by omega)).kind:=congrArg Hd.kind (hget k hk);rw[e1];have:=hpl _ (jA0 (show k<(qD l nm).length by omega));exact⟨this.kind0,this.kind5⟩
 .obtain⟨hd1,rfl⟩:=yD hd;obtain⟨k,hk,rfl⟩:=jAe hd1;obtain⟨base,hb0,hbs⟩:=h.bodies;rw[hN]at hb0 hbs;have hbase:∀k,k<=P.defs.length->bH nm (qD l nm) (qD l nm).length<=base k/\base k<=bH nm (qD l nm) (qD l nm).length+32768*k:=by
   intro k;induction k with
   |zero=>intro _;rw[hb0];omega
   |succ k ih =>
    intro hk;have ih:=ih (by omega);rcases hbs k P.defs[k] (jA2 (by omega))with ⟨_,_,e⟩|⟨_,e,f,hr,e'⟩
    .rw[e];omega
    .rw[e'];have:=hr.len;omega
  have hbk:=hbase k (by omega);have hr0:=hrange (qD l nm).length;rcases hbs k P.defs[k] (jA2 hk)with ⟨h0,_,_⟩|⟨_,e,f,hr,_⟩
  .rw[h0]at hb;cases hb
  .have hlt:=hr.len;have hfc:∀c∈tmps e,∃j:Nat,∃hj:j<(tmps e).length,(tmps e)[j]=c/\f c=idR (base k+j):=fun c hc=>by obtain⟨j,hj,rfl⟩:=jAe hc;exact⟨j,hj,rfl,hr.ids j hj⟩
   have hsb:∀b∈cN P.defs[k],∃j:Int,b.id=idR j/\zBk f b.id=idR j/\0<=j/\j<bH nm (qD l nm) (qD l nm).length:=fun b hb=>by simp only[cN,jA9]at hb;obtain⟨s,hs,rfl⟩:=hb;obtain⟨j,h1,h2,h3⟩:=hslot k hk s hs;have:=zXd (k:=j) h2 (by omega);refine⟨j,h1,?_,h2,h3⟩;simp only[zBk,h1];rw[if_neg (by omega)]
   have hF:Frs f (cN P.defs[k]) e:=by
    refine⟨hr.nd,hr.num,fun c hc c' hc' he=>?_,fun b hb' c hc he=>?_,hr.len,fun b hb1 b' hb2 he=>?_⟩
    .obtain⟨j,hj,e1,e2⟩:=hfc c hc;obtain⟨j',hj',e1',e2'⟩:=hfc c' hc';rw[e2,e2']at he;have:=tI (by omega) (by omega) (by omega) (by omega) he;have:j=j':=by omega
     subst this;rw[<-e1,<-e1']
    .obtain⟨j,hj,e1,e2⟩:=hfc c hc;obtain⟨j',_,e3,h0,h1⟩:=hsb b hb';rw[e3,e2]at he;have:=tI (by omega) (by omega) (by omega) (by omega) he;omega
    .obtain⟨j,e1,e2,h0,h1⟩:=hsb b hb1;obtain⟨j',e1',e2',h0',h1'⟩:=hsb b' hb2;rw[e2,e2']at he;rw[e1,e1',he]
   have hho:zXL P (hsV l nm):=fun k hk=>by
    have hk':k<P.defs.length:=by rw[<-hh]at hk;simpa using hk
    have e:(hsV l nm)[k]=P.defs[k].hd:=by simp[<-hh]
    exact⟨P.defs[k],by rw[e];exact pN hnd hk',e.symm⟩
   have:=qHM hho hr.wt hF;rw[<-hr.body]at this;have e2:(cN P.defs[k]).map (zDy f)=cN P.defs[k]:=by
    rw[jCa (g:=id)]
    .simp
    .intro b hb';obtain⟨j,e1,e2,_,_⟩:=hsb b hb';simp only[zDy,id,e2];rw[<-e1]
   rw[e2]at this;exact this
theorem x7{P:Prg}:∀{ts:wT} {vs:wI},aM P ts vs=true->∀(j:Nat) (h1:j<ts.length) (h2:j<vs.length),cE P ts[j] vs[j]=true
 |t::ts,v::vs,h,j,h1,h2=>by
  rw[aM,jA8]at h;cases j with
  |zero=>exact h.1
  |succ j=>exact x7 h.2 j (by simpa using h1) (by simpa using h2)
theorem zOg(hf:Fit P hs){r:Nat}(h:TyOk hs r t):∀v,cE P t v=true->TyV P t v:=by
 induction h with
 |int r =>
  intro v hv;rw[iT]at hv;simp at hv;obtain⟨_,⟨⟨h1,h2⟩,h3⟩,h4⟩:=hv;obtain⟨k,n,l⟩:=v;simp only[Val.k,Val.n,Val.kids]at h1 h2 h3 h4;subst h1 h2;exact .int n h3 h4
 |bool r =>
  intro v hv;rw[iT]at hv;simp at hv;obtain⟨_,⟨h1,h2⟩,h3⟩:=hv;obtain⟨k,n,l⟩:=v;simp only[Val.k,Val.n,Val.kids]at h1 h2 h3;subst h1 h2;exact .bool n h3
 |list r t h ih =>
  intro v hv;rw[iT]at hv;simp at hv;obtain⟨_,⟨h1,h2⟩,h3⟩:=hv;obtain⟨k,n,l⟩:=v;simp only[Val.k,Val.n,Val.kids]at h1 h2 h3;subst h1 h2;exact .list _ _ fun x hx=>ih x (h3 x hx)
 |dfn r k h h1 h2 h3 h4 ih =>
  intro v hv;obtain⟨d,hd,hhd⟩:=hf.hd k h;have e1:d.kind=hs[k].kind:=congrArg Hd.kind hhd;have e2:d.slots=hs[k].slots:=congrArg Hd.slots hhd;have ed:dfn P hs[k].id=d:=by simp[dfn,hd]
  rw[iT]at hv;simp only[Typ.k_mk,Typ.id_mk,ed]at hv;obtain⟨kk,n,l⟩:=v;by_cases hk:d.kind=1
  .simp[hk,Val.k,Val.n,Val.kids]at hv;obtain⟨_,⟨⟨⟨g1,g2⟩,g3⟩,g4⟩,g5⟩:=hv;replace g1:=of_decide_eq_true g1;replace g2:=of_decide_eq_true g2;replace g3:=of_decide_eq_true g3;replace g4:=of_decide_eq_true g4;obtain⟨x,rfl⟩:=List.length_eq_one_iff.1 g4;obtain⟨j,rfl⟩:∃j:Nat,n=j:=⟨n.toNat,by omega⟩;have hj:j<d.slots.length:=by omega
   rw[jCq,jA2 hj,jBz,fQ]at g5;subst g1;exact .case _ d j x hd hk hj (ih d.slots[j] (by rw[<-e2];exact jA0 hj) x g5)
  .simp[hk,Val.k,Val.n,Val.kids]at hv;obtain⟨_,⟨⟨g1,g2⟩,g3⟩,g4⟩:=hv;replace g1:=of_decide_eq_true g1;replace g2:=of_decide_eq_true g2;replace g3:=of_decide_eq_true g3;subst g1 g2;refine .record _ d l hd (by omega) g3 fun j hj=>?_
   have hjd:j<d.slots.length:=by omega
   have:=x7 g4 j (by simpa using hjd) hj;rw[jB]at this;exact ih d.slots[j] (by rw[<-e2];exact jA0 hjd) l[j] this
end Go.Proofs.YtolkhapmieigcaaGreatDoor

/- The maker's programs: their definitions have IDs of their own, their bodies have types, th -/
import Derived.Test.YtdnelmeboihpkaaGreatDoorX16
set_option linter.unusedVariables false
set_option maxHeartbeats 8000000
set_option maxRecDepth 100000
set_option linter.unusedSimpArgs false
open Go.Proofs.Tryz
namespace Go.Proofs.YtdnelmeboihpkaaGreatDoor
open Go.Abs
def zAD(f:Int->Id)(x:Id):Id:=if x.b=0 then f x.c else x
def zCD(f:Int->Id)(b:Bnd):Bnd:={b with id:=zAD f b.id}
def qC7(f:Int->Id)(env:wJ):Prop:=∀b∈env,∀b'∈env,zAD f b.id=zAD f b'.id->b.id=b'.id
variable{f:Int->Id}{x:Id}{t:Typ}
theorem zPo{env:wJ}(h:qC7 f env){n:Int}:fI env x n=some t->fI (env.map (zCD f)) (zAD f x) n=some t:=by
 have hmem:fI env x n=some t->∃b∈env,b.id=x:=by intro he;unfold fI at he;rw[jAh]at he;obtain⟨b,hb,_⟩:=he;have h1:=jD9 hb;have h2:=jDj hb;rw[jA6]at h1;exact⟨b,List.mem_reverse.1 h2,of_decide_eq_true h1.1⟩
 intro he;obtain⟨b0,hb0,rfl⟩:=hmem he;clear hmem;have key:∀l:wJ,(∀b∈l,b∈env)->fI l b0.id n=some t->fI (l.map (zCD f)) (zAD f b0.id) n=some t:=by
  intro l;induction l using m9 with
  |nil=>intro _ h;simp[fI]at h
  |snoc l y ih =>
   intro hl hk;rw[s8]at hk;rw[jC0,jDd,s8];have hy:=hl y (by simp);by_cases c1:y.id=b0.id
   .by_cases c2:y.n=n
    .rw[if_pos ⟨c1,c2⟩]at hk;rw[if_pos ⟨by simp only[zCD];rw[c1],c2⟩];exact hk
    .rw[if_neg fun h=>c2 h.2]at hk;rw[if_neg fun h=>c2 h.2];exact ih (fun b hb=>hl b (jBm _ hb)) hk
   .rw[if_neg fun h=>c1 h.1]at hk;rw[if_neg fun e=>c1 (h y hy b0 hb0 e.1)];exact ih (fun b hb=>hl b (jBm _ hb)) hk
 exact key env (fun _ h=>h) he
theorem zHm:∀l:wG,l.length<=(yQ l).length
 |[]=>by simp
 |e::l=>by
  have:=zHm l;have h1:1<=(tmps e).length:=by rw[fV];simp
  simp only[jA9,yQ,jA5];omega
theorem zF3:∀{l:wG} {e:Exp},e∈l->(tmps e).Sublist (yQ l)
 |x::l,e,h=>by
  simp only[yQ];rcases jA3.1 h with rfl|h
  .exact List.sublist_append_left _ _
  .exact(zF3 h).trans (List.sublist_append_right _ _)
structure Frs(f:Int->Id)(env:List Bnd)(e:Exp):Prop where
 nd:(tmps e).Nodup
 num:e.num0
 inj:∀c∈tmps e,∀c'∈tmps e,f c=f c'->c=c'
 new:∀b∈env,∀c∈tmps e,zAD f b.id≠f c
 len:(tmps e).length<=32768
 ib:qC7 f env
section
variable{f:Int->Id}{env:wJ}{i:Id}{k n:Int}{r:Id}{u:Typ}{ks:wG}{ns:List ByteArray}
theorem Frs.id(h:Frs f env (.mk i k n r u ks ns)):i=⟨0,0,i.c⟩:=by obtain⟨a,b,c⟩:=i;have:=h.num;simp only[Exp.num0]at this;simp[this.1.1,this.1.2]
theorem Frs.kid(h:Frs f env (.mk i k n r u ks ns)){e:Exp}(he:e∈ks):Frs f env e:=by
 obtain⟨h1,h2,h3,h4,h5,h6⟩:=h;simp only[tmps]at h1 h3 h4 h5;simp only[Exp.num0,zC3]at h2;have hs:=zF3 he;have hm:∀c∈tmps e,c∈yQ ks++[i.c]:=fun c hc=>jBm _ (hs.subset hc)
 exact⟨(jCs.1 h1).1.sublist hs,h2.2 e he,fun c hc c' hc'=>h3 c (hm c hc) c' (hm c' hc'),fun b hb c hc=>h4 b hb c (hm c hc),by
  have:=hs.length_le;rw[jA5]at h5;omega,h6⟩
theorem Frs.push(h:Frs f env (.mk i k n r u ks ns)){e:Exp}(he:e∈ks)(m:Int)(t:Typ){env':wJ}(hb:env'=env\/∃m' t',env'=env++[⟨i,m',t'⟩]):Frs f (env'++[⟨i,m,t⟩]) e:=by
 have hk:=h.kid he;have hi:=h.id;obtain⟨h1,h2,h3,h4,h5,h6⟩:=h;simp only[tmps]at h1 h3 h4;have hic:i.c∈yQ ks++[i.c]:=by simp
 have hri:zAD f i=f i.c:=by unfold zAD;rw[if_pos (by rw[hi])]
 have hmem:∀b∈env'++[(⟨i,m,t⟩:Bnd)],b∈env\/b.id=i:=by
  intro b hb';rcases jAc.1 hb' with hb'|hb'
  .rcases hb with rfl|⟨m',t',rfl⟩
   .exact .inl hb'
   .rcases jAc.1 hb' with hb'|hb'
    .exact .inl hb'
    .rw[jAo.1 hb'];exact .inr rfl
  .rw[jAo.1 hb'];exact .inr rfl
 refine⟨hk.nd,hk.num,hk.inj,fun b hb' c hc=>?_,hk.len,fun b hb1 b' hb2 e=>?_⟩
 .rcases hmem b hb' with h'|h'
  .exact hk.new b h' c hc
  .rw[h',hri];intro e;have hc':=(zF3 he).subset hc;have:=h3 i.c hic c (jBm _ hc') e;exact(jCs.1 h1).2.2 c hc' i.c (by simp) this.symm
 .rcases hmem b hb1 with h'|h'<;>rcases hmem b' hb2 with h''|h''
  .exact h6 b h' b' h'' e
  .rw[h'',hri]at e;exact(h4 b h' i.c hic e).elim
  .rw[h',hri]at e;exact(h4 b' h'' i.c hic e.symm).elim
  .rw[h',h'']
theorem Frs.fresh(h:Frs f env (.mk i k n r u ks ns)):∀x∈env.map (zCD f),x.id≠f i.c:=by intro x hx;obtain⟨b,hb,rfl⟩:=jAg.1 hx;exact h.new b hb i.c (by simp[tmps])
theorem Frs.kids(h:Frs f env (.mk i k n r u ks ns)):(ks.map (iN f)).length<=32768:=by have h1:=h.len;have h2:=zHm ks;simp only[tmps,jA5]at h1;rw[jAb];omega
end
theorem cL{i:Id}{k n:Int}{r:Id}{u:Typ}{ks:wG}{ns:List ByteArray}(h:k≠2):iN f (.mk i k n r u ks ns)=.mk (f i.c) k n r u (ks.map (iN f)) ns:=by simp only[iN,rM,h,false_and,if_false]
def zPY(P:Prg)(hs:wP):Prop:=∀(k:Nat) (h:k<hs.length),∃d,jH P.defs hs[k].id=some d/\d.hd=hs[k]
variable{P:Prg}{hs:wP}
theorem qHE(hh:zPY P hs){own:Int}{env:wJ}{e:Exp}(h:WT hs own env e t):Frs f env e->WE P (env.map (zCD f)) (iN f e) t:=by
 induction h with
 |int env i n h1 h2=>intro hF;rw[cL (by decide)];exact .int _ _ _ _ _ _ h1 h2
 |bool env i n h=>intro hF;rw[cL (by decide)];exact .bool _ _ _ _ _ _ h
 |var env i n x t h =>
  intro hF;have e:iN f (.mk i 2 n x Typ.zero [] [])=.mk (f i.c) 2 n (zAD f x) Typ.zero [] []:=by simp only[iN,zKv,true_and,zAD]
  rw[e];exact .var _ _ _ _ _ _ _ (zPo hF.ib h)
 |call env i k h ks ho hk hl hw ih =>
  intro hF;obtain⟨d,hd,hhd⟩:=hh k h;have e1:d.kind=hs[k].kind:=congrArg Hd.kind hhd;have e2:d.slots=hs[k].slots:=congrArg Hd.slots hhd;have e3:d.res=hs[k].res:=congrArg Hd.res hhd;rw[cL (by decide),<-e3];refine .call _ _ _ _ _ _ _ hF.kids d hd (by rw[e1];exact hk) (by simp only[jAb,e2];exact hl) fun j hj=>?_
  simp only[jAt,e2];rw[jAb]at hj;exact ih j hj (hF.kid (jA0 hj))
 |arith env i n a b h1 h2 ha hb iha ihb =>
  intro hF;rw[cL (by decide)];refine .op _ _ _ _ _ _ _ hF.kids [jK,jK] jK (.arith n h1 h2) rfl fun j hj=>?_
  match j,hj with
  | 0,_=>exact iha (hF.kid (by simp))
  | 1,_=>exact ihb (hF.kid (by simp))
 |less env i a b ha hb iha ihb =>
  intro hF;rw[cL (by decide)];refine .op _ _ _ _ _ _ _ hF.kids [jK,jK] jR .less rfl fun j hj=>?_
  match j,hj with
  | 0,_=>exact iha (hF.kid (by simp))
  | 1,_=>exact ihb (hF.kid (by simp))
 |same env i a b u ha hb iha ihb =>
  intro hF;rw[cL (by decide)];refine .op _ _ _ _ _ _ _ hF.kids [u,u] jR (.same u) rfl fun j hj=>?_
  match j,hj with
  | 0,_=>exact iha (hF.kid (by simp))
  | 1,_=>exact ihb (hF.kid (by simp))
 |andor env i n a b h ha hb iha ihb =>
  intro hF;rw[cL (by decide)];refine .op _ _ _ _ _ _ _ hF.kids [jR,jR] jR (.andor n h) rfl fun j hj=>?_
  match j,hj with
  | 0,_=>exact iha (hF.kid (by simp))
  | 1,_=>exact ihb (hF.kid (by simp))
 |not env i a ha iha =>
  intro hF;rw[cL (by decide)];refine .op _ _ _ _ _ _ _ hF.kids [jR] jR .not rfl fun j hj=>?_
  match j,hj with
  | 0,_=>exact iha (hF.kid (by simp))
 |join env i a b t ha hb iha ihb =>
  intro hF;rw[cL (by decide)];refine .op _ _ _ _ _ _ _ hF.kids [j8 t,j8 t] (j8 t) (.join t) rfl fun j hj=>?_
  match j,hj with
  | 0,_=>exact iha (hF.kid (by simp))
  | 1,_=>exact ihb (hF.kid (by simp))
 |len env i a t ha iha =>
  intro hF;rw[cL (by decide)];refine .op _ _ _ _ _ _ _ hF.kids [j8 t] jK (.len t) rfl fun j hj=>?_
  match j,hj with
  | 0,_=>exact iha (hF.kid (by simp))
 |ite env i a b c t ha hb hc iha ihb ihc =>
  intro hF;rw[cL (by decide)];exact .ite _ _ _ _ _ _ _ _ _ _ (iha (hF.kid (by simp))) (ihb (hF.kid (by simp))) (ihc (hF.kid (by simp)))
 |lets env i a b u t ns hn ha hb iha ihb =>
  intro hF;rw[cL (by decide)];have hb':=ihb (hF.push (by simp) 0 u (.inl rfl));rw[jC0,jDd]at hb';have hi:=hF.id;have e:zCD f ⟨i,0,u⟩=⟨f i.c,0,u⟩:=by simp only[zCD,zAD];rw[if_pos (by rw[hi])]
  rw[e]at hb';exact .lets _ _ _ _ _ _ _ _ _ _ hF.fresh (iha (hF.kid (by simp))) hb'
 |record env i k h ks hk hl hw ih =>
  intro hF;obtain⟨d,hd,hhd⟩:=hh k h;have e1:d.kind=hs[k].kind:=congrArg Hd.kind hhd;have e2:d.slots=hs[k].slots:=congrArg Hd.slots hhd;rw[cL (by decide)];refine .record _ _ _ _ _ _ _ hF.kids d hd (by rw[e1];exact hk) (by simp only[jAb,e2];exact hl) fun j hj=>?_
  simp only[jAt,e2];rw[jAb]at hj;exact ih j hj (hF.kid (jA0 hj))
 |field env i k h j hj a hk ha iha =>
  intro hF;obtain⟨d,hd,hhd⟩:=hh k h;have e1:d.kind=hs[k].kind:=congrArg Hd.kind hhd;have e2:hs[k].slots=d.slots:=(congrArg Hd.slots hhd).symm;rw[cL (by decide)];have hjd:j<d.slots.length:=by rw[<-e2];exact hj
  have et:hs[k].slots[j]=d.slots[j]:=by simp only[e2]
  rw[et];exact .field _ _ _ _ _ _ d j hd (by rw[e1];exact hk) hjd (iha (hF.kid (by simp)))
 |case env i k h j hj a hk ha iha =>
  intro hF;obtain⟨d,hd,hhd⟩:=hh k h;have e1:d.kind=hs[k].kind:=congrArg Hd.kind hhd;have e2:hs[k].slots=d.slots:=(congrArg Hd.slots hhd).symm;rw[cL (by decide)];have hjd:j<d.slots.length:=by rw[<-e2];exact hj
  have et:hs[k].slots[j]=d.slots[j]:=by simp only[e2]
  have ih:=iha (hF.kid (by simp));rw[et]at ih;exact .case _ _ _ _ _ _ d j hd (by rw[e1];exact hk) hjd ih
 |mtch env i k h a ks t ns hn hk hl ha hw iha ih =>
  intro hF;obtain⟨d,hd,hhd⟩:=hh k h;have e1:d.kind=hs[k].kind:=congrArg Hd.kind hhd;have e2:d.slots=hs[k].slots:=congrArg Hd.slots hhd;rw[cL (by decide),jAi];have hi:=hF.id;refine .mtch _ _ _ _ _ _ _ _ d _ hF.fresh hd (by rw[e1];exact hk) (by simp only[jAb,e2];exact hl) (iha (hF.kid (by simp))) fun j hj=>?_
  have hj':j<ks.length:=by rw[jAb]at hj;exact hj
  have:=ih j hj' (hF.push (jAm _ (jA0 hj')) _ _ (.inl rfl));rw[jC0,jDd]at this;have e:∀t,zCD f ⟨i,j,t⟩=⟨f i.c,j,t⟩:=fun t=>by simp only[zCD,zAD];rw[if_pos (by rw[hi])]
  rw[e]at this;simp only[jAt,e2];exact this
 |list env i t ks hw ih =>
  intro hF;rw[cL (by decide)];refine .list _ _ _ _ _ _ _ _ hF.kids fun j hj=>?_
  rw[jAb]at hj;rw[jAt];exact ih j hj (hF.kid (jA0 hj))
 |fold env i l s b u t ns hn hl hs' hb ihl ihs ihb =>
  intro hF;rw[cL (by decide)];have hb':=ihb (hF.push (by simp) 1 t (.inr ⟨0,u,rfl⟩));rw[jC0,jDd,jC0,jDd]at hb';have hi:=hF.id;have e:∀m t,zCD f ⟨i,m,t⟩=⟨f i.c,m,t⟩:=fun m t=>by simp only[zCD,zAD];rw[if_pos (by rw[hi])]
  rw[e,e]at hb';exact .fold _ _ _ _ _ _ _ _ _ _ _ hF.fresh (ihl (hF.kid (by simp))) (ihs (hF.kid (by simp))) hb'
theorem sN:∀{ds:wQ} (_:ds.Pairwise fun a b=>a.id≠b.id) {k:Nat} (hk:k<ds.length),jH ds ds[k].id=some ds[k]
 |d::ds,h,0,_=>by rw[zAy];simp
 |d::ds,h,k+1,hk=>by
  rw[jC5]at h;have hk':k<ds.length:=by simpa using hk
  rw[zAy];have:=h.1 ds[k] (jA0 hk');simp only[jDc];rw[if_neg this];exact sN h.2 hk'
structure Fit(P:Prg)(hs:List Hd):Prop where
 heads:P.defs.map Dfn.hd=hs
 len8:P.defs.length<=100
 nd:P.defs.Pairwise fun a b=>a.id≠b.id
 slots:∀d∈P.defs,1<=d.slots.length/\d.slots.length<=6/\(d.kind=0\/d.kind=1->d.slots.length<=3)/\(d.slots.Pairwise fun a b=>a.id≠b.id)/\∀s∈d.slots,TyOk hs 4 s.typ
 kinds:∀d∈P.defs,0<=d.kind/\d.kind<=5
 bods:zKV P
theorem Fit.hd(h:Fit P hs):zPY P hs:=fun k hk=>by
 have hk':k<P.defs.length:=by rw[<-h.heads]at hk;simpa using hk
 have e:hs[k]=P.defs[k].hd:=by simp[<-h.heads]
 refine⟨P.defs[k],?_,e.symm⟩;rw[e];exact sN h.nd hk'
theorem aN{ds:wQ}{r:Id}{d:Dfn}(h:jH ds r=some d):d∈ds/\d.id=r:=⟨jDj h,by simpa using jD9 h⟩
section
variable{l:wB}{mods:Int}(hl:∀x∈l,w64 x=x)
include hl
theorem zPy:∀p∈qI l mods,p.kind=0\/p.kind=1->p.types.length<=3:=by
 intro p hp;have a2:=jT (i:=2) hl (most:=3) (by omega);have a6:=jT (i:=6) hl (most:=2) (by omega);have a9:=jT (i:=9) hl (most:=3) (by omega);have hp':p=dB l mods\/p=eK l mods\/p=lN l mods\/p=zD2 mods\/p.kind=2\/p.kind=3\/p.kind=4\/p.kind=5:=by
  simp only[qI,plB,plC,plD,plE,jAc,jA3]at hp;rcases hp with ((h|h|h)|h)|h|h|h|h
  .simp[h]
  .simp[h]
  .simp at h
  .split at h
   .simp at h;rcases h with h|h<;>simp[h]
   .simp at h
  .simp[h,pF]
  .split at h<;>simp[h,zB5,pG]
  .simp[h,pT]
  .split at h
   .simp at h;simp[h,pC]
   .simp at h
 rcases hp' with rfl|rfl|rfl|rfl|h
 .intro _;simp only[dB,lS];omega
 .intro _;simp only[eK,jA9,lS];omega
 .intro _;simp only[lN,jA9,lS];omega
 .intro _;simp only[zD2,jA9,jB9];omega
 .omega
end
variable{l:wB}
theorem PrgOk.len5(h:PrgOk l P):5<=P.defs.length/\P.defs.length<=8:=by
 obtain⟨n5,n8⟩:=b6 l (nmV l:Int);have hh:=h.heads;have hlen:P.defs.length=(qI l (nmV l)).length:=by have:=congrArg List.length hh;simpa using this
 omega
theorem PrgOk.fit(hl:∀x∈l,w64 x=x)(h:PrgOk l P):Fit P (hsV l (nmV l)):=by
 obtain⟨hnm,hnm2⟩:=zSx l hl;generalize hN:nmV l=nm at *
 have m1:1<=(nm:Int):=by omega
 have m2:(nm:Int)<=2:=by omega
 obtain⟨n5,n8⟩:=b6 l (nm:Int);have hh:=h.heads;rw[hN]at hh;have hlen:P.defs.length=(qI l nm).length:=by have:=congrArg List.length hh;simpa using this
 have hget:∀(k:Nat) (hk:k<P.defs.length),P.defs[k].hd=⟨idR (nm+k),((qI l nm)[k]'(by omega)).kind,dP (cF nm (qI l nm) k) ((qI l nm)[k]'(by omega)),((qI l nm)[k]'(by omega)).out⟩:=fun k hk=>by
  rw[<-nT nm (qI l nm) (by omega)];have:(P.defs.map Dfn.hd)[k]'(by simpa using hk)=(zFT nm (qI l nm))[k]'(by simpa using (by omega:k<(qI l nm).length)):=by simp only[hh]
  rwa[jAt]at this
 have hnd:P.defs.Pairwise fun a b=>a.id≠b.id:=by rw[jCp];intro i j hi hj hij e;have e1:P.defs[i].id=idR (nm+i):=congrArg Hd.id (hget i hi);have e2:P.defs[j].id=idR (nm+j):=congrArg Hd.id (hget j hj);rw[e1,e2]at e;have:=sZ (by omega) (by omega) (by omega) (by omega) e;omega
 have hpl:=eY l nm m1 m2 hl;have hrange:=fun i=>mF (show 0<=(nm:Int) by omega) (fun p hp=>(hpl p hp).t6) i
 have henv:∀(k:Nat) (hk:k<P.defs.length),EnvOk (hsV l nm) 4 0 (eO P.defs[k])/\1<=(eO P.defs[k]).length/\(eO P.defs[k]).length<=6/\TyOk (hsV l nm) 4 P.defs[k].res:=fun k hk=>zCi m1 m2 hl (i:=k) (by rw[<-hh,jBs,jA1 hk];rfl) 0
 have hslot:∀(k:Nat) (hk:k<P.defs.length),∀s∈P.defs[k].slots,∃j:Int,s.id=idR j/\0<=j/\j<cF nm (qI l nm) (qI l nm).length:=fun k hk s hs=>by have e:P.defs[k].slots=dP (cF nm (qI l nm) k) ((qI l nm)[k]'(by omega)):=congrArg Hd.slots (hget k hk);rw[e]at hs;simp only[dP,jAg,jC]at hs;obtain⟨j,hj,rfl⟩:=hs;have h1:=hrange k;have h2:=zEM nm (qI l nm) (i:=k) (by omega);have h3:=zMl (mods:=nm) (ps:=qI l nm) (show k+1<=(qI l nm).length by omega);exact⟨_,rfl,by omega,by omega⟩
 refine⟨hh,by omega,hnd,fun d hd=>?_,fun d hd=>?_,fun r d hd hb=>?_⟩
 .obtain⟨k,hk,rfl⟩:=jAn hd;obtain⟨a1,a2,a3,a4⟩:=henv k hk;rw[zBf]at a2 a3;refine⟨a2,a3,fun hkd=>?_,?_,fun s hs=>a1.typs ⟨s.id,0,s.typ⟩ (jAg.2 ⟨s,hs,rfl⟩)⟩
  .have e1:P.defs[k].kind=((qI l nm)[k]'(by omega)).kind:=congrArg Hd.kind (hget k hk);have e2:P.defs[k].slots=dP (cF nm (qI l nm) k) ((qI l nm)[k]'(by omega)):=congrArg Hd.slots (hget k hk);rw[e2,lR];exact zPy hl _ (jA0 _) (by rw[<-e1];exact hkd)
  .have:=a1.nd;simp only[eO]at this;rw[jCy]at this;exact this.imp fun h e=>h ⟨e,rfl⟩
 .obtain⟨k,hk,rfl⟩:=jAn hd;have e1:P.defs[k].kind=((qI l nm)[k]'(by omega)).kind:=congrArg Hd.kind (hget k hk);rw[e1];have:=hpl _ (jA0 (show k<(qI l nm).length by omega));exact⟨this.kind0,this.kind5⟩
 .obtain⟨hd1,rfl⟩:=aN hd;obtain⟨k,hk,rfl⟩:=jAn hd1;obtain⟨base,hb0,hbs⟩:=h.bodies;rw[hN]at hb0 hbs;have hbase:∀k,k<=P.defs.length->cF nm (qI l nm) (qI l nm).length<=base k/\base k<=cF nm (qI l nm) (qI l nm).length+32768*k:=by
   intro k;induction k with
   |zero=>intro _;rw[hb0];omega
   |succ k ih =>
    intro hk;have ih:=ih (by omega);rcases hbs k P.defs[k] (jA1 (by omega))with ⟨_,_,e⟩|⟨_,e,f,hr,e'⟩
    .rw[e];omega
    .rw[e'];have:=hr.len;omega
  have hbk:=hbase k (by omega);have hr0:=hrange (qI l nm).length;rcases hbs k P.defs[k] (jA1 hk)with ⟨h0,_,_⟩|⟨_,e,f,hr,_⟩
  .rw[h0]at hb;cases hb
  .have hlt:=hr.len;have hfc:∀c∈tmps e,∃j:Nat,∃hj:j<(tmps e).length,(tmps e)[j]=c/\f c=idR (base k+j):=fun c hc=>by obtain⟨j,hj,rfl⟩:=jAn hc;exact⟨j,hj,rfl,hr.ids j hj⟩
   have hsb:∀b∈eO P.defs[k],∃j:Int,b.id=idR j/\zAD f b.id=idR j/\0<=j/\j<cF nm (qI l nm) (qI l nm).length:=fun b hb=>by simp only[eO,jAg]at hb;obtain⟨s,hs,rfl⟩:=hb;obtain⟨j,h1,h2,h3⟩:=hslot k hk s hs;have:=zWS (k:=j) h2 (by omega);refine⟨j,h1,?_,h2,h3⟩;simp only[zAD,h1];rw[if_neg (by omega)]
   have hF:Frs f (eO P.defs[k]) e:=by
    refine⟨hr.nd,hr.num,fun c hc c' hc' he=>?_,fun b hb' c hc he=>?_,hr.len,fun b hb1 b' hb2 he=>?_⟩
    .obtain⟨j,hj,e1,e2⟩:=hfc c hc;obtain⟨j',hj',e1',e2'⟩:=hfc c' hc';rw[e2,e2']at he;have:=sZ (by omega) (by omega) (by omega) (by omega) he;have:j=j':=by omega
     subst this;rw[<-e1,<-e1']
    .obtain⟨j,hj,e1,e2⟩:=hfc c hc;obtain⟨j',_,e3,h0,h1⟩:=hsb b hb';rw[e3,e2]at he;have:=sZ (by omega) (by omega) (by omega) (by omega) he;omega
    .obtain⟨j,e1,e2,h0,h1⟩:=hsb b hb1;obtain⟨j',e1',e2',h0',h1'⟩:=hsb b' hb2;rw[e2,e2']at he;rw[e1,e1',he]
   have hho:zPY P (hsV l nm):=fun k hk=>by
    have hk':k<P.defs.length:=by rw[<-hh]at hk;simpa using hk
    have e:(hsV l nm)[k]=P.defs[k].hd:=by simp[<-hh]
    exact⟨P.defs[k],by rw[e];exact sN hnd hk',e.symm⟩
   have:=qHE hho hr.wt hF;rw[<-hr.body]at this;have e2:(eO P.defs[k]).map (zCD f)=eO P.defs[k]:=by
    rw[jC2 (g:=id)]
    .simp
    .intro b hb';obtain⟨j,e1,e2,_,_⟩:=hsb b hb';simp only[zCD,id,e2];rw[<-e1]
   rw[e2]at this;exact this
variable{r:Nat}
theorem TyOk.valid(hh:zPY P hs)(h:TyOk hs r t):∀n,r<n->j9 P n t=true:=by
 induction h with
 |int r=>intro n hn;obtain⟨m,rfl⟩:∃m,n=m+1:=⟨n-1,by omega⟩;simp[j9]
 |bool r=>intro n hn;obtain⟨m,rfl⟩:∃m,n=m+1:=⟨n-1,by omega⟩;simp[j9]
 |list r t h ih =>
  intro n hn;obtain⟨m,rfl⟩:∃m,n=m+1:=⟨n-1,by omega⟩;simp[j9,ih m (by omega)]
 |dfn r k h h1 h2 h3 h4 ih =>
  intro n hn;obtain⟨m,rfl⟩:∃m,n=m+1:=⟨n-1,by omega⟩;obtain⟨d,hd,hhd⟩:=hh k h;have e1:d.kind=hs[k].kind:=congrArg Hd.kind hhd;simp[j9,s4,hd,e1];omega
theorem TyOk.validT(hh:zPY P hs)(h:TyOk hs r t)(hr:r<24):validT P t=true:=h.valid hh 24 hr
theorem Fit.at_(h:Fit P hs)(k:Nat)(hk:k<hs.length):(dfn P hs[k].id).hd=hs[k]/\dfn P hs[k].id∈P.defs:=by
 obtain⟨d,hd,hhd⟩:=h.hd k hk;have:dfn P hs[k].id=d:=by simp[dfn,hd]
 rw[this];exact⟨hhd,(aN hd).1⟩
theorem zOc(hf:Fit P hs)(h:TyOk hs r t):r<24->∀n,r<n->Wf P n t:=by
 induction h with
 |int r=>intro hr n hn;obtain⟨m,rfl⟩:∃m,n=m+1:=⟨n-1,by omega⟩;exact⟨(TyOk.int r).validT hf.hd hr,.inl rfl⟩
 |bool r=>intro hr n hn;obtain⟨m,rfl⟩:∃m,n=m+1:=⟨n-1,by omega⟩;exact⟨(TyOk.bool r).validT hf.hd hr,.inr (.inl rfl)⟩
 |list r t h ih=>intro hr n hn;obtain⟨m,rfl⟩:∃m,n=m+1:=⟨n-1,by omega⟩;exact⟨(TyOk.list r t h).validT hf.hd hr,.inr (.inr (.inl ⟨rfl,t,rfl,ih (by omega) m (by omega)⟩))⟩
 |dfn r k h h1 h2 h3 h4 ih =>
  intro hr n hn;obtain⟨m,rfl⟩:∃m,n=m+1:=⟨n-1,by omega⟩;obtain⟨hd,hdm⟩:=hf.at_ k h;have e1:(dfn P hs[k].id).kind=hs[k].kind:=congrArg Hd.kind hd;have e2:(dfn P hs[k].id).slots=hs[k].slots:=congrArg Hd.slots hd;have hs':=hf.slots _ hdm;have hkd:hs[k].kind=0\/hs[k].kind=1:=by omega
  refine⟨(TyOk.dfn r k h h1 h2 h3 h4).validT hf.hd hr,.inr (.inr (.inr ⟨rfl,?_⟩))⟩;simp only[Typ.id_mk];refine⟨by rw[e1];exact hkd,hs'.1,hs'.2.2.1 (by rw[e1];exact hkd),fun s hs''=>?_⟩;rw[e2]at hs'';exact ih s hs'' (by omega) m (by omega)
theorem zOd(hf:Fit P hs)(h:TyOk hs r t):r<24->∀n,r<n->Wz P n t:=by
 induction h with
 |int r=>intro hr n hn;obtain⟨m,rfl⟩:∃m,n=m+1:=⟨n-1,by omega⟩;exact⟨(TyOk.int r).validT hf.hd hr,.inl rfl⟩
 |bool r=>intro hr n hn;obtain⟨m,rfl⟩:∃m,n=m+1:=⟨n-1,by omega⟩;exact⟨(TyOk.bool r).validT hf.hd hr,.inr (.inl rfl)⟩
 |list r t h ih=>intro hr n hn;obtain⟨m,rfl⟩:∃m,n=m+1:=⟨n-1,by omega⟩;exact⟨(TyOk.list r t h).validT hf.hd hr,.inr (.inr (.inl rfl))⟩
 |dfn r k h h1 h2 h3 h4 ih =>
  intro hr n hn;obtain⟨m,rfl⟩:∃m,n=m+1:=⟨n-1,by omega⟩;obtain⟨hd,hdm⟩:=hf.at_ k h;have e1:(dfn P hs[k].id).kind=hs[k].kind:=congrArg Hd.kind hd;have e2:(dfn P hs[k].id).slots=hs[k].slots:=congrArg Hd.slots hd;have hs':=hf.slots _ hdm;have hkd:hs[k].kind=0\/hs[k].kind=1:=by omega
  refine⟨(TyOk.dfn r k h h1 h2 h3 h4).validT hf.hd hr,.inr (.inr (.inr ⟨rfl,?_⟩))⟩;simp only[Typ.id_mk];refine⟨by rw[e1];exact hkd,hs'.1,hs'.2.2.1 (by rw[e1];exact hkd),fun s hs''=>?_⟩;rw[e2]at hs'';exact ih s hs'' (by omega) m (by omega)
theorem p7{P:Prg}:∀{ts:wS} {vs:wI},dF P ts vs=true->∀(j:Nat) (h1:j<ts.length) (h2:j<vs.length),aO P ts[j] vs[j]=true
 |t::ts,v::vs,h,j,h1,h2=>by
  rw[dF,jA6]at h;cases j with
  |zero=>exact h.1
  |succ j=>exact p7 h.2 j (by simpa using h1) (by simpa using h2)
theorem zHH(hf:Fit P hs)(h:TyOk hs r t):∀v,aO P t v=true->TyV P t v:=by
 induction h with
 |int r =>
  intro v hv;rw[dN]at hv;simp at hv;obtain⟨_,⟨⟨h1,h2⟩,h3⟩,h4⟩:=hv;obtain⟨k,n,l⟩:=v;simp only[Val.k,Val.n,Val.kids]at h1 h2 h3 h4;subst h1 h2;exact .int n h3 h4
 |bool r =>
  intro v hv;rw[dN]at hv;simp at hv;obtain⟨_,⟨h1,h2⟩,h3⟩:=hv;obtain⟨k,n,l⟩:=v;simp only[Val.k,Val.n,Val.kids]at h1 h2 h3;subst h1 h2;exact .bool n h3
 |list r t h ih =>
  intro v hv;rw[dN]at hv;simp at hv;obtain⟨_,⟨h1,h2⟩,h3⟩:=hv;obtain⟨k,n,l⟩:=v;simp only[Val.k,Val.n,Val.kids]at h1 h2 h3;subst h1 h2;exact .list _ _ fun x hx=>ih x (h3 x hx)
 |dfn r k h h1 h2 h3 h4 ih =>
  intro v hv;obtain⟨d,hd,hhd⟩:=hf.hd k h;have e1:d.kind=hs[k].kind:=congrArg Hd.kind hhd;have e2:d.slots=hs[k].slots:=congrArg Hd.slots hhd;have ed:dfn P hs[k].id=d:=by simp[dfn,hd]
  rw[dN]at hv;simp only[Typ.k_mk,Typ.id_mk,ed]at hv;obtain⟨kk,n,l⟩:=v;by_cases hk:d.kind=1
  .simp[hk,Val.k,Val.n,Val.kids]at hv;obtain⟨_,⟨⟨⟨g1,g2⟩,g3⟩,g4⟩,g5⟩:=hv;replace g1:=of_decide_eq_true g1;replace g2:=of_decide_eq_true g2;replace g3:=of_decide_eq_true g3;replace g4:=of_decide_eq_true g4;obtain⟨x,rfl⟩:=List.length_eq_one_iff.1 g4;obtain⟨j,rfl⟩:∃j:Nat,n=j:=⟨n.toNat,by omega⟩;have hj:j<d.slots.length:=by omega
   rw[jCk,jA1 hj,jDm,zJn]at g5;subst g1;exact .case _ d j x hd hk hj (ih d.slots[j] (by rw[<-e2];exact jA0 hj) x g5)
  .simp[hk,Val.k,Val.n,Val.kids]at hv;obtain⟨_,⟨⟨g1,g2⟩,g3⟩,g4⟩:=hv;replace g1:=of_decide_eq_true g1;replace g2:=of_decide_eq_true g2;replace g3:=of_decide_eq_true g3;subst g1 g2;refine .record _ d l hd (by omega) g3 fun j hj=>?_
   have hjd:j<d.slots.length:=by omega
   have:=p7 g4 j (by simpa using hjd) hj;rw[jAt]at this;exact ih d.slots[j] (by rw[<-e2];exact jA0 hjd) l[j] this
structure InvX(I:XS->Prop):Prop where
 tick:∀e s,I s->¬s.fuel<=0->I (mV e s)
 dfn:∀(d:Id) s,I s->I {s with ds:=s.ds++[d]}
 fail:∀(x:Int) s,I s->I {s with fail:=x}
section
variable{p:Prg}{ev:Evl}{I:XS->Prop}
theorem uE(h:∀e V s,I s->I (ev e V s).2)(V:wO):∀(l:wG) (s:XS),I s->I (jG ev V l s).2
 |[],s,hs=>hs
 |e::l,s,hs=>by simp only[jG];exact uE h V l _ (h e V s hs)
theorem xD(h:∀e V s,I s->I (ev e V s).2)(V:wO)(i:Id)(b:Exp):∀(l:wI) (r:Val×XS),I r.2->I (j7 ev V i b l r).2
 |[],r,hs=>hs
 |e::l,r,hs=>by simp only[j7];exact xD h V i b l _ (h _ _ _ hs)
theorem v6(hI:InvX I)(h:∀e V s,I s->I (ev e V s).2)(d:Dfn)(vs:wI)(s:XS)(hs:I s):I (bX ev d vs s).2:=by
 unfold bX;split
 .exact hs
 .exact h _ _ _ (hI.dfn d.id s hs)
theorem zIM(h:∀e V s,I s->I (ev e V s).2)(e:Exp)(V:wO)(s:XS)(hs:I s):I (jW ev e V s).2:=by
 unfold jW;have h0:=h (e.kids.headD .zero) V s hs;generalize ev (e.kids.headD .zero) V s=r at *
 repeat' split
 all_goals first
  |exact h0
  |exact h _ _ _ h0
  |exact xD h _ _ _ _ _ (h _ _ _ h0)
theorem zMO(hI:InvX I)(h:∀e V s,I s->I (ev e V s).2)(fl:Nat)(e:Exp)(V:wO)(s:XS)(hs:I s):I (qM p fl ev e V s).2:=by
 unfold qM;have h0:=uE h V e.kids s hs;generalize jG ev V e.kids s=r at *
 repeat' split
 all_goals first
  |exact hs
  |exact h0
  |exact zIM h _ _ _ hs
  |exact v6 hI h _ _ _ h0
theorem rH(hI:InvX I)(fl:Nat):∀(n:Nat) e V s,I s->I (aM p fl n e V s).2
 | 0,e,V,s,hs=>by
  rw[aM];split
  .exact hs
  .exact hI.fail _ _ hs
 |n+1,e,V,s,hs=>by
  rw[aM];split
  .exact hs
  .split
   .exact hI.fail _ _ hs
   .rename_i h;have:=zMO (p:=p) hI (rH hI fl n) fl e V _ (hI.tick e s hs h);show I (gD _);unfold gD;split
    .exact hI.fail _ _ this
    .exact this
def Fu(F:Int)(s:XS):Prop:=0<=s.fuel/\s.fuel<=F
theorem zEz(F:Int):InvX (Fu F) :=
 ⟨fun e s h hf=>⟨by unfold mV;dsimp only;omega,by unfold mV;have:=h.2;dsimp only;omega⟩,fun d s h=>h,fun x s h=>h⟩
theorem zDR(h:pB ev)(V:wO):∀(l:wG) (s:XS) (i k:Nat),i<=k->(jG ev V (l.take k) s).2.fail=0->(jG ev V (l.take i) s).2.fail=0
 |[],s,i,k,_,h0=>by simpa using h0
 |e::l,s,0,k,_,h0=>by
  by_cases hs:s.fail=0
  .simpa[jG]using hs
  .rw[vZ h V _ _ hs]at h0;exact(hs h0).elim
 |e::l,s,i+1,0,hik,h0=>by omega
 |e::l,s,i+1,k+1,hik,h0=>by simp only[jCd,jG]at h0 ⊢;exact zDR h V l _ i k (by omega) h0
theorem zDQ(h:pB ev)(V:wO):∀(l:wG) (s:XS),s.fail=0->(jG ev V l s).2.fail≠0 ->
 ∃(k:Nat) (hk:k<l.length),(jG ev V (l.take k) s).2.fail=0/\(ev l[k] V (jG ev V (l.take k) s).2).2=(jG ev V l s).2
 |[],s,hs,hf=>(hf hs).elim
 |e::l,s,hs,hf=>by
  by_cases h0:(ev e V s).2.fail=0
  .simp only[jG]at hf;obtain⟨k,hk,h1,h2⟩:=zDQ h V l _ h0 hf;exact⟨k+1,by simpa using hk,by simpa only[jCd,jG]using h1,by simpa only[jCd,jG,jDc]using h2⟩
  .refine⟨0,by simp,hs,?_⟩;simp only[List.take_zero,jG,jCw];rw[vZ h V l _ h0]
theorem zCn(h:pB ev)(V:wO)(x:Id)(b:Exp):∀(l:wI) (r:Val×XS) (i k:Nat),i<=k->(j7 ev V x b (l.take k) r).2.fail=0->(j7 ev V x b (l.take i) r).2.fail=0
 |[],r,i,k,_,h0=>by simpa using h0
 |v::l,r,0,k,_,h0=>by
  by_cases hs:r.2.fail=0
  .simpa[j7]using hs
  .rw[nS h V _ _ _ _ hs]at h0;exact(hs h0).elim
 |v::l,r,i+1,0,hik,h0=>by omega
 |v::l,r,i+1,k+1,hik,h0=>by simp only[jCd,j7]at h0 ⊢;exact zCn h V x b l _ i k (by omega) h0
theorem zDd(h:pB ev)(V:wO)(x:Id)(b:Exp):∀(l:wI) (r:Val×XS),r.2.fail=0->(j7 ev V x b l r).2.fail≠0 ->
 ∃(k:Nat) (_:k<l.length),(j7 ev V x b (l.take k) r).2.fail=0/\(j7 ev V x b (l.take (k+1)) r).2=(j7 ev V x b l r).2
 |[],r,hs,hf=>(hf hs).elim
 |v::l,r,hs,hf=>by
  simp only[j7]at hf;by_cases h0:(ev b (V++[⟨x,0,v⟩]++[⟨x,1,r.1⟩]) r.2).2.fail=0
  .obtain⟨k,hk,h1,h2⟩:=zDd h V x b l _ h0 hf;exact⟨k+1,by simpa using hk,by simpa only[jCd,j7]using h1,by simpa only[jCd,j7]using h2⟩
  .refine⟨0,by simp,hs,?_⟩;simp only[jB1,jCd,List.take_zero,j7];rw[nS h V _ _ _ _ h0]
end
def zXJ:List ByteArray:=[⟨#[65]⟩,⟨#[66]⟩,⟨#[67]⟩,⟨#[68]⟩]
def xyT:List ByteArray:=[⟨#[120]⟩,⟨#[121]⟩]
def cT:List ByteArray:=[⟨#[99,48]⟩,⟨#[99,49]⟩,⟨#[99,50]⟩,⟨#[99,51]⟩,⟨#[99,52]⟩,⟨#[99,53]⟩,⟨#[99,54]⟩]
section
variable(l:wB)
def zN2(i k:Nat)(m:Gm):Slt:=⟨idR ((20+2*i+k:Nat):Int),xyT.getD k ⟨#[]⟩,tK (gN l m 3),0,k⟩
def aZ(i:Nat):Nat->Gm->List Slt×Gm
 | 0,m=>([],m)
 |n+1,m=>((aZ i n m).1++[zN2 l i n (aZ i n m).2],(aZ i n m).2.tick)
def eE(m:Gm):Nat:=(1+gN l m 2).toNat
def u9(i:Nat)(m:Gm):Dfn×Gm:=(⟨idR ((1+i:Nat):Int),0,idR 0,zXJ.getD i ⟨#[]⟩,(aZ l i (eE l m) m.tick).1,.zero,.zero,0,[]⟩,(aZ l i (eE l m) m.tick).2)
def yU:Nat->Gm->wQ×Gm
 | 0,m=>([],m)
 |n+1,m=>((yU n m).1++[(u9 l n (yU n m).2).1],(u9 l n (yU n m).2).2)
def gI(many:Nat)(m:Gm):Nat×Nat×Gm :=
 if gN l m many=gN l m.tick many then
  (if 0<gN l m.tick.tick 3 then ((gN l m many).toNat,((gN l m many).toNat+1) % many,m.tick.tick.tick)else ((gN l m many).toNat,(gN l m many).toNat,m.tick.tick.tick))
 else ((gN l m many).toNat,(gN l m.tick many).toNat,m.tick.tick)
def fO(a b:Dfn)(s:Id)(m:Gm):Exp×Gm :=
 if gN l (sR l b a s m).2 5=1 then
  bD (sR l b a s (cJ l a s 1 1 (sR l b a s m).2.tick).2).2 5 0 Id.zero [(cJ l a s 1 1 (sR l b a s m).2.tick).1,(sR l b a s m).1,(sR l b a s (cJ l a s 1 1 (sR l b a s m).2.tick).2).1]
 else ((sR l b a s m).1,(sR l b a s m).2.tick)
def zJx(R:wQ)(x y:Nat)(s:Id)(m:Gm):Exp×Gm :=
 if x=y then
  (if gN l m 2=1 then bD m.tick 2 0 s []else fO l (R.getD x .zero) (R.getD y .zero) s m.tick)
 else fO l (R.getD x .zero) (R.getD y .zero) s m
def zBu(R:wQ)(i:Nat)(m:Gm):Dfn×Gm :=
 (⟨idR ((6+i:Nat):Int),5,idR 0,cT.getD i ⟨#[]⟩,[⟨idR ((30+i:Nat):Int),⟨#[111,108,100]⟩,yO (R.getD (gI l R.length m).1 .zero).id,0,0⟩],yO (R.getD (gI l R.length m).2.1 .zero).id,
  (zJx l R (gI l R.length m).1 (gI l R.length m).2.1 (idR ((30+i:Nat):Int)) (gI l R.length m).2.2).1,0,[]⟩,
  (zJx l R (gI l R.length m).1 (gI l R.length m).2.1 (idR ((30+i:Nat):Int)) (gI l R.length m).2.2).2)
def aU(R:wQ):Nat->Gm->wQ×Gm
 | 0,m=>([],m)
 |n+1,m=>((aU R n m).1++[(zBu l R n (aU R n m).2).1],(zBu l R n (aU R n m).2).2)
def yY:Nat:=(2+atV l 0 3).toNat
def aJ:wQ:=(yU l (yY l) ⟨1,40⟩).1++(aU l (yU l (yY l) ⟨1,40⟩).1 (gN l (yU l (yY l) ⟨1,40⟩).2 8).toNat (yU l (yY l) ⟨1,40⟩).2.tick).1
def u6:Prg:=⟨[⟨idR 0,⟨#[99,111,114,101]⟩,[],(aJ l).map (·.id)⟩],aJ l⟩
theorem lM(i:Nat)(m:Gm):∀n,(aZ l i n m).1.length=n
 | 0=>rfl
 |n+1=>by simp[aZ,lM i m n]
theorem sT(i:Nat)(m:Gm):∀(n k:Nat) (h:k<(aZ l i n m).1.length),∃m',(aZ l i n m).1[k]=zN2 l i k m'
 | 0,k,h=>by simp[aZ]at h
 |n+1,k,h=>by
  have hl:=lM l i m n;by_cases hk:k<n
  .obtain⟨m',h'⟩:=sT i m n k (by omega);exact⟨m',by simp only[aZ];rw[jBn (by omega)];exact h'⟩
  .have hkn:k=n:=by rw[lM]at h;omega
   subst hkn;exact⟨(aZ l i k m).2,by simp only[aZ];rw[jC1 (by omega)];simp[hl]⟩
theorem iF(m:Gm):∀n,(yU l n m).1.length=n
 | 0=>rfl
 |n+1=>by simp[yU,iF m n]
theorem zG6(m:Gm):∀(n k:Nat) (h:k<(yU l n m).1.length),∃m',(yU l n m).1[k]=(u9 l k m').1
 | 0,k,h=>by simp[yU]at h
 |n+1,k,h=>by
  have hl:=iF l m n;by_cases hk:k<n
  .obtain⟨m',h'⟩:=zG6 m n k (by omega);exact⟨m',by simp only[yU];rw[jBn (by omega)];exact h'⟩
  .have hkn:k=n:=by rw[iF]at h;omega
   subst hkn;exact⟨(yU l k m).2,by simp only[yU];rw[jC1 (by omega)];simp[hl]⟩
theorem gX(R:wQ)(m:Gm):∀n,(aU l R n m).1.length=n
 | 0=>rfl
 |n+1=>by simp[aU,gX R m n]
theorem zE0(R:wQ)(m:Gm):∀(n k:Nat) (h:k<(aU l R n m).1.length),∃m',(aU l R n m).1[k]=(zBu l R k m').1
 | 0,k,h=>by simp[aU]at h
 |n+1,k,h=>by
  have hl:=gX l R m n;by_cases hk:k<n
  .obtain⟨m',h'⟩:=zE0 R m n k (by omega);exact⟨m',by simp only[aU];rw[jBn (by omega)];exact h'⟩
  .have hkn:k=n:=by rw[gX]at h;omega
   subst hkn;exact⟨(aU l R k m).2,by simp only[aU];rw[jC1 (by omega)];simp[hl]⟩
end
theorem zVo(t:Int):tK t=jK\/tK t=jR:=by
 unfold tK;split
 .exact .inr rfl
 .exact .inl rfl
theorem zH1{α:Type}{A B C:List α}(e:C=A++B)(k:Nat)(h:k<C.length):(∃h':k<A.length,C[k]=A[k])\/(A.length<=k/\∃h':k-A.length<B.length,C[k]=B[k-A.length]):=by
 subst e;by_cases hk:k<A.length
 .exact .inl ⟨hk,jBn hk⟩
 .exact .inr ⟨by omega,by rw[jA5]at h;omega,jC1 (by omega)⟩
theorem oV{α:Type}{L:List α}{i:Nat}(h:i<L.length)(z : α):L.getD i z=L[i]:=by rw[jB7,jA1 h,jBe]
section
variable{l:wB}(hl:∀x∈l,w64 x=x)
include hl
theorem sP(m:Gm):1<=eE l m/\eE l m<=2:=by have h:0<=gN l m 2/\gN l m 2<2:=jT hl (by omega);unfold eE;omega
theorem u5:2<=yY l/\yY l<=4:=by have h:0<=atV l 0 3/\atV l 0 3<3:=jT hl (by omega);unfold yY;omega
theorem zJ0(many:Nat)(hm:0<many)(m:Gm):(gI l many m).1<many/\(gI l many m).2.1<many:=by
 have h1:0<=gN l m many/\gN l m many<many:=jT hl (by omega);have h2:0<=gN l m.tick many/\gN l m.tick many<many:=jT hl (by omega);have h3:=Nat.mod_lt ((gN l m many).toNat+1) hm;unfold gI;split
 .split
  .exact⟨by simp only;omega,h3⟩
  .exact⟨by simp only;omega,by simp only;omega⟩
 .exact⟨by simp only;omega,by simp only;omega⟩
theorem zG1{p:Prg}{a b:Dfn}(ha:Flat p a)(hb:Flat p b)(s:Id)(m:Gm):WF p [⟨s,0,yO a.id⟩] (fO l a b s m).1 (yO b.id):=by
 unfold fO;split
 .exact .ite _ _ _ _ _ _ _ _ _ (rC hl ha s 1 _ (.inr rfl)) (zHN hl ha s hb _) (zHN hl ha s hb _)
 .exact zHN hl ha s hb _
theorem zRD{p:Prg}{R:wQ}(hR:∀a∈R,Flat p a){x y:Nat}(hx:x<R.length)(hy:y<R.length)(s:Id)(m:Gm):WF p [⟨s,0,yO (R.getD x .zero).id⟩] (zJx l R x y s m).1 (yO (R.getD y .zero).id):=by
 have ha:Flat p (R.getD x .zero):=by rw[oV hx];exact hR _ (jA0 hx)
 have hb:Flat p (R.getD y .zero):=by rw[oV hy];exact hR _ (jA0 hy)
 unfold zJx;split
 .split
  .rename_i e _;subst e;exact .var _ _ _ _ _ _ (by simp[fI]) (.inr (.inr ⟨_,ha,rfl⟩))
  .exact zG1 hl ha hb s _
 .exact zG1 hl ha hb s _
theorem zCp:(aJ l).length<=11/\2<=(aJ l).length:=by have h1:=u5 hl;have h2:0<=gN l (yU l (yY l) ⟨1,40⟩).2 8/\gN l (yU l (yY l) ⟨1,40⟩).2 8<8:=jT hl (by omega);unfold aJ;rw[jA5,iF,gX];omega
theorem rA(k:Nat)(h:k<(aJ l).length) :
 (k<yY l/\∃m,(aJ l)[k]=(u9 l k m).1)\/(yY l<=k/\k-yY l<7/\∃m,(aJ l)[k]=(zBu l (yU l (yY l) ⟨1,40⟩).1 (k-yY l) m).1):=by
 have h2:0<=gN l (yU l (yY l) ⟨1,40⟩).2 8/\gN l (yU l (yY l) ⟨1,40⟩).2 8<8:=jT hl (by omega);have hlen:=iF l ⟨1,40⟩ (yY l);rcases zH1 (show aJ l=_++_ from rfl) k h with ⟨h',e⟩|⟨h',h'',e⟩
 .obtain⟨m,hm⟩:=zG6 l ⟨1,40⟩ (yY l) k h';exact .inl ⟨by omega,m,e.trans hm⟩
 .obtain⟨m,hm⟩:=zE0 l (yU l (yY l) ⟨1,40⟩).1 (yU l (yY l) ⟨1,40⟩).2.tick (gN l (yU l (yY l) ⟨1,40⟩).2 8).toNat _ h'';have e2:=e.trans hm;rw[gX]at h'';rw[hlen]at h' h'' e2;exact .inr ⟨h',by omega,m,e2⟩
theorem zJz(k:Nat)(h:k<(aJ l).length):(aJ l)[k].id=idR (if k<yY l then ((1+k:Nat):Int)else ((6+(k-yY l):Nat):Int)):=by
 rcases rA hl k h with ⟨hk,m,e⟩|⟨hk,_,m,e⟩
 .rw[e,if_pos hk];rfl
 .rw[e,if_neg (by omega)];rfl
theorem zE1:(aJ l).Pairwise fun a b=>a.id≠b.id:=by have h1:=u5 hl;rw[jCp];intro i j hi hj hij e;have h11:=zCp hl;rw[zJz hl i hi,zJz hl j hj]at e;have:=sZ (by split<;>omega) (by split<;>omega) (by split<;>omega) (by split<;>omega) e;split at this<;>split at this<;>omega
theorem zCq{k:Nat}(hk:k<yY l)(h:k<(aJ l).length):Flat (u6 l) (aJ l)[k]:=by
 rcases rA hl k h with ⟨_,m,e⟩|⟨hk',_⟩
 .have h2:=sP hl m;have hf:=sN (zE1 hl) h;have h3:(aJ l)[k].kind=0/\(aJ l)[k].slots=(aZ l k (eE l m) m.tick).1:=by rw[e];exact⟨rfl,rfl⟩
  refine⟨hf,h3.1,fun s hs=>?_,?_⟩
  .rw[h3.2]at hs;obtain⟨j,hj,rfl⟩:=jAn hs;obtain⟨m',e'⟩:=sT l k m.tick (eE l m) j hj;rw[e'];exact zVo _
  .rw[h3.2,lM];omega
 .omega
theorem sS:∀a∈(yU l (yY l) ⟨1,40⟩).1,Flat (u6 l) a:=by
 intro a ha;obtain⟨k,hk,rfl⟩:=jAn ha;have hkm:k<yY l:=by rw[iF]at hk;exact hk
 have hkd:k<(aJ l).length:=by unfold aJ;rw[jA5];omega
 have:=zCq hl hkm hkd;rcases zH1 (show aJ l=(yU l (yY l) ⟨1,40⟩).1++_ from rfl) k hkd with ⟨h',e⟩|⟨h',h'',e⟩
 .rw[e]at this;exact this
 .omega
theorem zTg{j:Nat}(hj:j<yY l)(h:j<(aJ l).length):TyOk ((aJ l).map Dfn.hd) 4 (yO (aJ l)[j].id):=by
 have h4:=zCq hl hj h;have hnd:=zE1 hl;rw[jCp]at hnd;have e:((aJ l).map Dfn.hd)[j]'(by simpa using h)=(aJ l)[j].hd:=by simp
 have hid:(aJ l)[j].id=(((aJ l).map Dfn.hd)[j]'(by simpa using h)).id:=by rw[e];rfl
 rw[hid];refine .dfn 3 j (by simpa using h) (fun i hi=>?_) (.inl (by rw[e];exact h4.kind)) (by rw[e];exact h4.few) fun s hs=>?_
 .have:=hnd i j (by omega) h hi
  simpa[Dfn.hd]using this
 .rw[e]at hs;rcases h4.flat s hs with e|e<;>rw[e]
  .exact .int _
  .exact .bool _
theorem zG5:Fit (u6 l) ((aJ l).map Dfn.hd):=by
 have h11:=zCp hl;have hm:=u5 hl;have hlen:=iF l ⟨1,40⟩ (yY l);have hend:=fun m=>zJ0 hl (yU l (yY l) ⟨1,40⟩).1.length (by omega) m
 have hdef:∀j (hj:j<yY l),∃hj':j<(aJ l).length,(yU l (yY l) ⟨1,40⟩).1.getD j .zero=(aJ l)[j]:=by
  intro j hj;have hj':j<(aJ l).length:=by unfold aJ;rw[jA5];omega
  refine⟨hj',?_⟩;rw[oV (by omega)];rcases zH1 (show aJ l=(yU l (yY l) ⟨1,40⟩).1++_ from rfl) j hj' with ⟨h',e⟩|⟨h',h'',e⟩
  .exact e.symm
  .omega
 refine⟨rfl,by show (aJ l).length<=100;omega,zE1 hl,fun d hd=>?_,fun d hd=>?_,fun r d hd hb=>?_⟩
 .change d∈aJ l at hd;obtain⟨k,hk,rfl⟩:=jAn hd;rcases rA hl k hk with ⟨_,m,e⟩|⟨hk',hk7,m,e⟩
  .have h2:=sP hl m;have h3:(aJ l)[k].slots=(aZ l k (eE l m) m.tick).1:=by rw[e];rfl
   have h4:=zCq hl (by omega) hk;have h5:=lM l k m.tick (eE l m);refine⟨by rw[h3];omega,by rw[h3];omega,fun _=>by rw[h3];omega,?_,fun s hs=>?_⟩
   .rw[h3,jCp];intro i j hi hj hij e;obtain⟨m1,e1⟩:=sT l k m.tick (eE l m) i hi;obtain⟨m2,e2⟩:=sT l k m.tick (eE l m) j hj;rw[e1,e2]at e;have:=sZ (by omega) (by omega) (by omega) (by omega) (show idR _=idR _ from e);omega
   .rcases h4.flat s hs with e|e<;>rw[e]
    .exact .int _
    .exact .bool _
  .obtain⟨hj,ej⟩:=hdef (gI l (yU l (yY l) ⟨1,40⟩).1.length m).1 (by have:=(hend m).1;omega);have h3:(aJ l)[k].slots=[⟨idR ((30+(k-yY l):Nat):Int),⟨#[111,108,100]⟩,yO (aJ l)[(gI l (yU l (yY l) ⟨1,40⟩).1.length m).1].id,0,0⟩]:=by rw[e,<-ej];rfl
   rw[h3];refine⟨by simp,by simp,fun _=>by simp,by simp,fun s hs=>?_⟩;rw[jAo]at hs;subst hs;exact zTg hl (by have:=(hend m).1;omega) hj
 .change d∈aJ l at hd;obtain⟨k,hk,rfl⟩:=jAn hd;rcases rA hl k hk with ⟨_,m,e⟩|⟨hk',hk7,m,e⟩<;>(rw[e];simp[u9,zBu])
 .obtain⟨hd1,rfl⟩:=aN hd;change d∈aJ l at hd1;obtain⟨k,hk,rfl⟩:=jAn hd1;rcases rA hl k hk with ⟨_,m,e⟩|⟨hk',hk7,m,e⟩
  .rw[e]at hb;simp[fA,u9]at hb
  .rw[e];exact(zRD hl (sS hl) (hend m).1 (hend m).2 _ _).we
end
def mcN:Nat->Nat
 | 0=>1
 |f+1=>1+3*mcN f
theorem zCF{g:Typ->Int->Val×Int}{c:Nat}:∀(l:wS) (a:Int),(∀t∈l,∀b,zZ (g t b).1<=c)->qK (dH g l a).1<=l.length*c
 |[],a,_=>by simp[dH,qK]
 |t::l,a,h=>by
  have h1:=h t (by simp) a;have h2:=zCF l (g t a).2 fun x hx b=>h x (by simp[hx]) b
  simp only[dH,qK,jA9,jB,Nat.one_mul];omega
theorem xI(p:Prg)(l:wB)(hl:∀x∈l,w64 x=x):∀(f:Nat) (t:Typ) (a d:Int),Wf p f t->zZ (y6 p l f t a d).1<=mcN f
 | 0,t,a,d,h=>h.elim
 |f+1,t,a,d,h=>by
  unfold Wf at h;obtain⟨_,h⟩:=h;have hx:=jT (i:=a) hl (show (0:Int)<1048576 by omega);unfold mcN;by_cases h0:t.k=0
  .rw[y6,if_pos h0];simp[zZ,qK]
  by_cases h1:t.k=1
  .rw[y6,if_neg h0,if_pos h1];simp[zZ,qK]
  by_cases h2:t.k=2
  .obtain⟨_,x,hx1,hx2⟩:=h.resolve_left h0|>.resolve_left h1|>.resolve_right (fun e=>by omega);rw[y6,if_neg h0,if_neg h1,if_pos h2];have hkid:t.kids.headD Typ.zero=x:=by rw[hx1];rfl
   rw[hkid];have hq:(if 3<d then 0 else ((atV l a 1048576).tmod 3).toNat)<=3:=by
    split
    .omega
    .have:=Int.tmod_lt_of_pos (atV l a 1048576) (show (0:Int)<3 by omega);omega
   generalize (if 3<d then 0 else ((atV l a 1048576).tmod 3).toNat)=q at hq;have:=zCF (g:=fun t b=>y6 p l f t b (w64 (d+1))) (c:=mcN f) (List.replicate q x) (w64 (a+1)) fun y hy b=>by rw[List.eq_of_mem_replicate hy];exact xI p l hl f x b _ hx2
   rw[List.length_replicate]at this;have:q*mcN f<=3*mcN f:=jB8 _ hq;simp only[zZ];omega
  obtain⟨_,_,_,g3,g4⟩:=h.resolve_left h0|>.resolve_left h1|>.resolve_left (fun e=>h2 e.1);by_cases hk:(dfn p t.id).kind=1
  .rw[y6,if_neg h0,if_neg h1,if_neg h2,if_pos hk];have key:∀y:Typ,y=Typ.zero\/Wf p f y->zZ (y6 p l f y (w64 (a+1)) (w64 (d+1))).1<=3*mcN f:=by
    intro y hy;rcases hy with rfl|hy
    .cases f with
     |zero=>simp[y6,zZ,qK,mcN]
     |succ f=>rw[y6,if_pos (by rfl)];simp[zZ,qK,mcN];omega
    .have:=xI p l hl f y (w64 (a+1)) (w64 (d+1)) hy;omega
   have:=key (((dfn p t.id).slots.map Slt.typ).getD ((atV l a 1048576).tmod (dfn p t.id).slots.length).toNat Typ.zero) (by
    rw[jB7,jBs];cases hg:(dfn p t.id).slots[((atV l a 1048576).tmod (dfn p t.id).slots.length).toNat]? with
    |none=>left;rfl
    |some s=>right;exact g4 s (jBt hg))
   simp only[zZ,qK];omega
  .rw[y6,if_neg h0,if_neg h1,if_neg h2,if_neg hk];have:=zCF (g:=fun t b=>y6 p l f t b (w64 (d+1))) (c:=mcN f) ((dfn p t.id).slots.map Slt.typ) (w64 (a+1)) fun y hy b=>by obtain⟨s,hs,rfl⟩:=jAg.1 hy;exact xI p l hl f s.typ b _ (g4 s hs)
   rw[jAb]at this;have:(dfn p t.id).slots.length*mcN f<=3*mcN f:=jB8 _ g3;simp only[zZ];omega
theorem uP:∀{l:wI} {c:Nat},(∀v∈l,j6 v<=c)->yI l<=c
 |[],c,_=>by simp[yI]
 |v::l,c,h=>by
  have h1:=h v (by simp);have h2:=uP (l:=l) (c:=c) fun x hx=>h x (by simp[hx])
  simp only[yI];omega
theorem zFH(p:Prg):∀(f:Nat) (t:Typ),j6 (b9 p f t)<=f+1
 | 0,t=>by simp[b9,j6,yI]
 |f+1,t=>by
  unfold b9;have hm:∀v∈(dfn p t.id).slots.map fun s=>b9 p f s.typ,j6 v<=f+1:=fun v hv=>by obtain⟨s,_,rfl⟩:=jAg.1 hv;exact zFH p f s.typ
  split
  .simp[j6,yI]
  .split
   .simp[j6,yI]
   .split
    .simp[j6,yI]
    .split
     .simp only[j6];have:=uP (l:=((dfn p t.id).slots.map fun s=>b9 p f s.typ).take 1) fun v hv=>hm v (jBw hv)
      omega
     .simp only[j6];have:=uP hm;omega
variable{p:Prg}
theorem zKN(hl:∀x∈l,w64 x=x)(hf:Wf p 10 t)(hz:Wz p 5 t):zZ (zAM p t l)<=256/\j6 (zAM p t l)<=24:=by
 unfold zAM;have hm:=xI p l hl 10 t 0 1 hf;have:mcN 10=88573:=by decide
 split
 .have h1:=xS p 5 t hz;have h2:=zFH p 5 t;have:zcN 5=121:=by decide
  exact⟨by omega,by omega⟩
 .rename_i h;have h1:=nL (y6 p l 10 t 0 1).1 (by omega);have h2:=nP (y6 p l 10 t 0 1).1 (by omega);exact⟨by omega,by omega⟩
inductive Nam:Typ->Id->Prop
 |here (t:Typ) (h:t.k=3):Nam t t.id
 |kid (t k:Typ) (x:Id) (h:k∈t.kids) (hx:Nam k x):Nam t x
inductive Rch(p:Prg)(T:Typ->Prop):Id->Prop
 |base (t:Typ) (x:Id) (ht:T t) (hx:Nam t x):Rch p T x
 |step (y:Id) (s:Slt) (x:Id) (hy:Rch p T y) (hs:s∈(dfn p y).slots) (hx:Nam s.typ x):Rch p T x
variable{T T':Typ->Prop}
theorem Rch.mono(h:Rch p T x)(hT:∀t,T t->T' t):Rch p T' x:=by
 induction h with
 |base t x ht hx=>exact .base t x (hT t ht) hx
 |step y s x _ hs hx ih=>exact .step y s x ih hs hx
theorem Rch.one(h:Rch p T x):∃t,T t/\Rch p (· = t) x:=by
 induction h with
 |base t x ht hx=>exact⟨t,ht,.base t x rfl hx⟩
 |step y s x _ hs hx ih =>
  obtain⟨t,ht,h⟩:=ih;exact⟨t,ht,.step y s x h hs hx⟩
def zFf(p:Prg):Nat->Typ->List Id->wF
 | 0,_,L=>L
 |f+1,t,L=>if t.k=3/\t.id∉t.kids.foldl (fun L k=>zFf p f k L) L then (dfn p t.id).slots.foldl (fun L s=>zFf p f s.typ L) (t.kids.foldl (fun L k=>zFf p f k L) L++[t.id])
  else t.kids.foldl (fun L k=>zFf p f k L) L
structure Meets(p:Prg)(T:Typ->Prop)(L L':List Id):Prop where
 sub:∀x∈L,x∈L'
 all:∀t x,T t->Nam t x->x∈L'
 clo:∀x∈L',x∉L->∀s∈(dfn p x).slots,∀y,Nam s.typ y->y∈L'
 snd:∀x∈L',x∈L\/Rch p T x
theorem Meets.trans{L L' L'':wF}(h:Meets p T L L')(k:Meets p T' L' L''):Meets p (fun t=>T t\/T' t) L L'':=by
 refine⟨fun x hx=>k.sub x (h.sub x hx),fun t x ht hx=>?_,fun x hx hn s hs y hy=>?_,fun x hx=>?_⟩
 .rcases ht with ht|ht
  .exact k.sub x (h.all t x ht hx)
  .exact k.all t x ht hx
 .by_cases hx':x∈L'
  .exact k.sub y (h.clo x hx' hn s hs y hy)
  .exact k.clo x hx hx' s hs y hy
 .rcases k.snd x hx with hx|hx
  .rcases h.snd x hx with hx|hx
   .exact .inl hx
   .exact .inr (hx.mono fun _ h=>.inl h)
  .exact .inr (hx.mono fun _ h=>.inr h)
theorem Meets.congr{L L':wF}(h:Meets p T L L')(hT:∀t,T t↔T' t):Meets p T' L L' :=
 ⟨h.sub,fun t x ht hx=>h.all t x ((hT t).2 ht) hx,h.clo,fun x hx=>(h.snd x hx).imp (fun h=>h) fun h=>h.mono fun t=>(hT t).1⟩
def zMx(p:Prg)(ss:List Slt)(L:wF):wF:=ss.foldl (fun L s=>zFf p 10 s.typ L) L
mutual
def zJZ:Typ->List Id->wF
 | .mk k x l,L=>zEL l (if k=3 then mK L x else L)
def zEL:List Typ->List Id->wF
 |[],L=>L
 |t::l,L=>zEL l (zJZ t L)
end
mutual
theorem zKa:∀(t:Typ) (L:wF) (x:Id),x∈zJZ t L↔x∈L\/Nam t x
 | .mk k y l,L,x=>by
  rw[zJZ,zGO l];constructor
  .rintro(h|⟨t,ht,h⟩)
   .split at h
    .rename_i hk;rcases rD.1 h with h|h
     .exact .inl h
     .subst h;exact .inr (.here (.mk k x l) hk)
    .exact .inl h
   .exact .inr (.kid (.mk k y l) t x ht h)
  .rintro(h|h)
   .left;split
    .exact rD.2 (.inl h)
    .exact h
   .generalize hT:Typ.mk k y l=T at h;cases h with
    |here _ h =>
     subst hT;left;show y∈_;rw[if_pos (show k=3 from h)];exact rD.2 (.inr rfl)
    |kid _ t _ ht hx =>
     subst hT;exact .inr ⟨t,ht,hx⟩
theorem zGO:∀(l:wS) (L:wF) (x:Id),x∈zEL l L↔x∈L\/∃t∈l,Nam t x
 |[],L,x=>by simp[zEL]
 |t::l,L,x=>by rw[zEL,zGO l,zKa t];simp only[jA3,exists_eq_or_imp,or_assoc]
end
mutual
theorem zNI:∀(t:Typ) (L:wF),SS L->SS (zJZ t L)
 | .mk k y l,L,h=>by
  rw[zJZ];refine zKb l _ ?_;split
  .exact zHU h
  .exact h
theorem zKb:∀(l:wS) (L:wF),SS L->SS (zEL l L)
 |[],L,h=>h
 |t::l,L,h=>by rw[zEL];exact zKb l _ (zNI t L h)
end
def namS(ss:List Slt)(L:wF):wF:=ss.foldl (fun L s=>zJZ s.typ L) L
end Go.Proofs.YtdnelmeboihpkaaGreatDoor
namespace Go.Proofs.YtdnelmeboihpkaaGreatDoor
open Go.Abs
def zZo(l:wF):List (wB×A):=l.map fun x=>(zA2 x,.lit (.bool true))
@[simp]theorem qJs{rf:Bool->Nat->Nat->A}{g:Nat->wC}(l:wF):((zZo l).map fun p=>(p.1,vw rf g p.2))=zZo l:=by
 simp only[zZo,jCc];refine jC2 fun x _=>?_
 simp
@[simp]theorem qJg{a:A}:sU (.bool false) false (some a)=a:=rfl
@[simp]theorem qJf:sU (.bool false) false none=.lit (.bool false):=rfl
structure RL(p:Prg)(L:List Id):Prop where
 nd:L.Nodup
 sub:∀x∈L,x∈p.defs.map Dfn.id
theorem RL.len{p:Prg}{hs:wP}(hf:Fit p hs){L:wF}(h:RL p L):L.length<=100:=by
 have:=h.nd.length_le_of_subset (l₂:=p.defs.map Dfn.id) h.sub;have:=hf.len8;simp at *
 omega
theorem RL.fold{p:Prg} {α:Type}(g : α->List Id->wF):∀(l:List α) (L:wF),(∀a∈l,∀L,RL p L->RL p (g a L))->RL p L->RL p (l.foldl (fun L a=>g a L) L)
 |[],L,_,h=>h
 |a::l,L,hg,h=>by rw[jBp];exact RL.fold g l _ (fun b hb=>hg b (by simp[hb])) (hg a (by simp) L h)
end Go.Proofs.YtdnelmeboihpkaaGreatDoor
namespace Go.Abs
theorem zBn{ks:wB}:∀(l m:List (wB×A)),fF ks (l++m)=(fF ks l).or (fF ks m)
 |[],m=>rfl
 |p::l,m=>by
  simp only[jB6,fF];split
  .rfl
  .exact zBn l m
end Go.Abs
namespace Go.Proofs.YtdnelmeboihpkaaGreatDoor
open Go.Abs
def zEE(l:wO):List (wB×A):=l.map fun b=>([b.id.a,b.id.b,b.id.c,b.n],.agg [.lit (.int .i64 b.v.k),.lit (.int .i64 b.v.n),.sl b.v.kids.length (zR b.v.kids)])
@[simp]theorem qJt{rf:Bool->Nat->Nat->A}{g:Nat->wC}(l:wO):((zEE l).map fun p=>(p.1,vw rf g p.2))=zEE l:=by
 simp only[zEE,jCc];refine jC2 fun x _=>?_
 simp
def Fr(V:wO)(i:Id)(n:Int):Prop:=∀b∈V,¬(b.id=i/\b.n=n)
theorem qMN{a b:Id}{n m:Int}:[a.a,a.b,a.c,n]=[b.a,b.b,b.c,m]↔a=b/\n=m:=by obtain⟨x,y,z⟩:=a;obtain⟨x',y',z'⟩:=b;simp[and_assoc]
theorem zJk{i:Id}{n:Int}:∀{V:wO},Fr V i n->fF [i.a,i.b,i.c,n] (zEE V)=none
 |[],_=>rfl
 |b::V,h=>by
  have h1:=h b (by simp);have ih:=zJk (V:=V) fun x hx=>h x (by simp[hx])
  simp only[zEE,jAi,fF]at ih ⊢;rw[if_neg fun e=>h1 (qMN.1 e)];exact ih
def NdV(V:wO):Prop:=V.Pairwise fun a b=>¬(a.id=b.id/\a.n=b.n)
variable{V:wO}{i:Id}
theorem NdV.push(h:NdV V){n:Int}{v:Val}(hf:Fr V i n):NdV (V++[⟨i,n,v⟩]):=by unfold NdV;rw[jCr];refine⟨h,by simp,fun a ha b hb=>?_⟩;rw[jAo.1 hb];exact hf a ha
theorem Fr.of(h:∀b∈V,b.id≠i)(n:Int):Fr V i n:=fun b hb e=>h b hb e.1
theorem Fr.push(h:∀b∈V,b.id≠i){n m:Int}(hne:m≠n)(v:Val):Fr (V++[⟨i,m,v⟩]) i n:=fun b hb e=>by
 rcases jAc.1 hb with hb|hb
 .exact h b hb e.1
 .rw[jAo.1 hb]at e;exact hne e.2
theorem EnvT.get{p:Prg}{B:wJ}(h:EnvT p B V)(hn:NdV V){x:Id}{n:Int}{t:Typ}:fI B x n=some t ->
 fF [x.a,x.b,x.c,n] (zEE V)=some (.agg [.lit (.int .i64 (lF V x n).k),.lit (.int .i64 (lF V x n).n),.sl (lF V x n).kids.length (zR (lF V x n).kids)]):=by
 induction h with
 |nil=>intro h;simp[fI]at h
 |snoc B V b v h hi hb ht hz ih =>
  intro hl;unfold NdV at hn;rw[jCr]at hn;have e:zEE (V++[v])=zEE V++zEE [v]:=by simp[zEE]
  rw[e,zBn,zAz];rw[s8]at hl;by_cases hc:b.id=x/\b.n=n
  .have hv:v.id=x/\v.n=n:=⟨hi.trans hc.1,hb.trans hc.2⟩;have hfr:Fr V x n:=fun y hy e=>hn.2.2 y hy v (by simp) ⟨e.1.trans hv.1.symm,e.2.trans hv.2.symm⟩
   rw[zJk hfr,if_pos hv];simp[zEE,fF,hv.1,hv.2]
  .rw[if_neg hc]at hl;rw[if_neg (fun e=>hc ⟨hi.symm.trans e.1,hb.symm.trans e.2⟩),ih hn.1 hl];rfl
@[simp]theorem qMK{z:Value}{a:A}:sU z false (some a)=a:=rfl
@[simp]theorem qJh:sU (.agg #[(.int .i64 0),(.int .i64 0),(.slice none 0 0)]) true none=.tup [.agg [.lit (.int .i64 0),.lit (.int .i64 0),.nil],.lit (.bool false)]:=by kernel_rfl
def Adm(p:Prg)(e:Exp)(V:wO)(s:XS):Prop:=s.fail=0->∃B t,WE p B e t/\EnvT p B V/\NdV V
section
variable{p:Prg}{c:Nat}{m:Int}{ev:Evl}{B:wJ}{e:Exp}{V:wO}{s:XS}
theorem Adm.of{t:Typ}(h:WE p B e t)(hV:EnvT p B V)(hN:NdV V):Adm p e V s:=fun _=>⟨B,t,h,hV,hN⟩
theorem Adm.bad(h:s.fail≠0):Adm p e V s:=fun e=>(h e).elim
end
section
variable{p:Prg}{c:Nat}{m:Int}{ev:Evl}{e:Exp}{V:wO}{s:XS}
end
abbrev zJh(x:Int):Value:=.iface 51 (.int .i64 x)
def eS(p:Prg)(F:Int)(s:XS):St:=[.box (zN p++[int F,int (F-s.fuel)])]
structure RP(f:FuncId)(args:List A)(p:Prg)(F:Int)(s:XS)(r:A)(s':XS):Prop where
 ret:s'.fail=0->my f args (eS p F s) r (eS p F s')
 pan:s'.fail≠0->Pan prog f args (eS p F s) (zJh s'.fail)
abbrev zFI(p:Prg)(F:Int)(e:Exp)(V:wO)(s:XS)(r:Val×XS):Prop:=RP 110 [.ptr 0 0,.agg (zJ e),scE V] p F s (.agg (zC r.1)) r.2
structure IhE(p:Prg)(F m:Int)(ev:Evl):Prop where
 stop:pB ev
 snd:Snd p ev
 fu:∀e V s,Fu m s->Fu m (ev e V s).2
 ok:∀e V s,s.fail=0->Adm p e V s->Fu m s->zFI p F e V s (ev e V s)
section
variable{p:Prg}{F m:Int}{ev:Evl}{e:Exp}{V:wO}{s:XS}
noncomputable def zX7:K:=zY prog f176 qD []
theorem qEl:ky f176 zX7:=m_ (by kernel_rfl)
theorem zBd(h:IhE p F m ev)(V:wO)(l:wG)(hl6:l.length<=32768)(hs:s.fail=0)(hA:∀k∈l,∀s,Adm p k V s)(hB:Fu m s) :
 RP 176 [.ptr 0 0,.sl l.length (qQ l),scE V] p F s (.sl l.length (zR (jG ev V l s).1)) (jG ev V l s).2:=by
 have hP:=eP p;have hst:∀i,Fu m (jG ev V (l.take i) s).2:=fun i=>uE h.fu V _ _ hB
 have hln:∀i,i<=l.length->(jG ev V (l.take i) s).1.length=i:=fun i hi=>by rw[fK,jAs];omega
 have h00:jG ev V [] s=([],s):=rfl;have htk:l.take l.length=l:=jAu;constructor
 .intro hf;have hpre:∀i,i<=l.length->(jG ev V (l.take i) s).2.fail=0:=fun i hi=>zDR h.stop V l s i l.length hi (by rw[htk];exact hf)
  refine zI func176 rfl qEl (rs:=[.slot 6]) (by kernel_rfl) ?_
  (conv in zX7=>cbv)
  simp[eS,hP];intro hl;refine qO (S:=Nat) (fun i=>[(0,.ptr 0 0),(2,scE V),(7,.row 1 i),(10,.sl l.length (qQ l)),(11,int l.length),(12,int i)])
   (fun i=>eS p F (jG ev V (l.take i) s).2++[.row false 46 3 i (zR (jG ev V (l.take i) s).1)]) (fun i=>i<=l.length) (fun i=>l.length-i) 0 (by simp)
   ((yK (t:=7) (by simp) 46 3).trans (mw [0,1] 0 (by rfl) (by simp[eS,hP,h00]))) ?_
  intro i hi;by_cases hil:i<l.length
  .have hsn:=vY ev V l[i] (l.take i) s;rw[<-jA8 hil]at hsn;have hp1:=hpre (i+1) hil;rw[hsn]at hp1;have hr:=(h.ok l[i] V (jG ev V (l.take i) s).2 (hpre i hi) (hA _ (jA0 hil) _) (hst i)).ret hp1;have hdr:=y5 hil;have hln:=hln i hi;generalize hFn:jG ev V (l.take (i+1)) s=Fn at hsn;subst hsn;generalize hFi:jG ev V (l.take i) s=Fi at *
   obtain⟨vs,si⟩:=Fi;simp only at *
   generalize ev l[i] V si=rk at *
   obtain⟨v,sk⟩:=rk;simp only at *
   simp[eS,hP,hil,hdr,hFi,zJ];refine mr hr [0] (by simp[eS,hP,zJ]) ?_;simp[eS,hP,zC];refine⟨⟨by simp[maxLen];omega,by omega⟩,?_⟩;exact zS (i+1) hil (by omega) (mw [0,1] 0 (by rfl) (by simp[eS,hP,hFn,bS,qF hil hl]))
  .have hil:i=l.length:=by omega
   subst hil;rw[htk];generalize jG ev V l s=Fi at *
   obtain⟨vs,si⟩:=Fi;simp;exact mv [0] 1 (by rfl) (by simp[eS,hP])
 .intro hf;obtain⟨k,hk,hk0,hk1⟩:=zDQ h.stop V l s hs hf;have hpre:∀i,i<=k->(jG ev V (l.take i) s).2.fail=0:=fun i hi=>zDR h.stop V l s i k hi hk0
  rw[<-hk1]at hf ⊢;refine rK func176 rfl qEl (rs:=[.slot 6]) (by kernel_rfl) ?_
  (conv in zX7=>cbv);unfold wpF
  simp[eS,hP];intro hl;refine qO (S:=Nat) (fun i=>[(0,.ptr 0 0),(2,scE V),(7,.row 1 i),(10,.sl l.length (qQ l)),(11,int l.length),(12,int i)])
   (fun i=>eS p F (jG ev V (l.take i) s).2++[.row false 46 3 i (zR (jG ev V (l.take i) s).1)]) (fun i=>i<=k) (fun i=>l.length-i) 0 (by simp)
   ((yK (t:=7) (by simp) 46 3).trans (mw [0,1] 0 (by rfl) (by simp[eS,hP,h00]))) ?_
  intro i hi;have hil:i<l.length:=by omega
  have hdr:=y5 hil;have hok:=h.ok l[i] V (jG ev V (l.take i) s).2 (hpre i hi) (hA _ (jA0 hil) _) (hst i);by_cases hik:i<k
  .have hsn:=vY ev V l[i] (l.take i) s;rw[<-jA8 hil]at hsn;have hp1:=hpre (i+1) hik;rw[hsn]at hp1;have hr:=hok.ret hp1;have hln:=hln i (by omega);generalize hFn:jG ev V (l.take (i+1)) s=Fn at hsn;subst hsn;generalize hFi:jG ev V (l.take i) s=Fi at *
   obtain⟨vs,si⟩:=Fi;simp only at *
   generalize ev l[i] V si=rk at *
   obtain⟨v,sk⟩:=rk;simp only at *
   simp[eS,hP,hil,hdr,hFi,zJ];refine mr hr [0] (by simp[eS,hP,zJ]) ?_;simp[eS,hP,zC];refine⟨⟨by simp[maxLen];omega,by omega⟩,?_⟩;exact zS (i+1) hik (by omega) (mw [0,1] 0 (by rfl) (by simp[eS,hP,hFn,bS,qF hil hl]))
  .have hik:i=k:=by omega
   subst hik;have hr:=hok.pan hf;generalize hFi:jG ev V (l.take i) s=Fi at *
   obtain⟨vs,si⟩:=Fi;simp only at *
   simp[eS,hP,hil,hdr,hFi,zJ];refine zAW hr [0] (by decide) (by simp[eS,hP]) (by simp[zJ]) fun τ=>?_
   simp
noncomputable def zX8:K:=zY prog f72 qD []
theorem qEm:ky f72 zX8:=m_ (by kernel_rfl)
theorem zJd(h:IhE p F m ev)(d:Dfn)(vs:wI)(hl:vs.length=d.slots.length)(hd6:d.slots.length<=6)(hs:s.fail=0)(hA:Adm p d.body (cG d.slots vs) {s with ds:=s.ds++[d.id]})(hB:Fu m s) :
 RP 72 [.ptr 0 0,.agg (zK d),.sl vs.length (zR vs)] p F s (.agg (zC (bX ev d vs s).1)) (bX ev d vs s).2:=by
 have hP:=eP p;have hx:bX ev d vs s=ev d.body (cG d.slots vs) {s with ds:=s.ds++[d.id]}:=by unfold bX;rw[if_neg (by simp[hs])]
 rw[hx];have he:=h.ok _ _ _ (by exact hs) hA ((zEz m).dfn d.id s hB);generalize ev d.body (cG d.slots vs) {s with ds:=s.ds++[d.id]}=r at *
 have hel:=zBe d.slots vs hl;have hall:(cG d.slots vs).take d.slots.length=cG d.slots vs:=by rw[<-hel];exact jAu
 constructor
 .intro hf;refine zI func72 rfl qEm (rs:=[.cell 6 3 true]) (by kernel_rfl) ?_
  (conv in zX8=>cbv)
  simp[eS,hP,zK];intro hls;refine qO (S:=Nat) (fun i=>[(0,.ptr 0 0),(2,.sl vs.length (zR vs)),(4,.ptr 1 0),(6,.ptr 2 0),(7,scE ((cG d.slots vs).take i)),(11,.sl d.slots.length (jN d.slots)),(12,int d.slots.length),(13,int i)])
   (fun i=>eS p F s++[.box (zK d),.box [int 0,int 0,.nil]]) (fun i=>i<=d.slots.length) (fun i=>d.slots.length-i) 0 (by simp)
   (mw [0,1,2] 0 (by rfl) (by simp[eS,hP,zK])) ?_
  intro i hi;by_cases hil:i<d.slots.length
  .have hiv:i<vs.length:=by omega
   have hdr:=qW hil;have hdv:=qT hiv;have htk:=zGu hl hil;have hw:=iR ((cG d.slots vs).take i).reverse ⟨d.slots[i].id,0,vs[i]⟩;simp[eS,hP,hil,hiv,hdr,hdv,j4];refine qA hw (by simp[zL,zC]) (by simp) ?_;simp;exact zS (i+1) hil (by omega) (mw [0,1,2] 0 (by rfl) (by simp[eS,hP,zK,qF hil hls,htk]))
  .have hil:i=d.slots.length:=by omega
   subst hil;rw[hall];simp[eS,hP,zK];refine mr (he.ret hf) [0] (by simp[eS,hP,zJ]) ?_;simp[eS,hP,zC];exact mv [0] 0 (by rfl) (by simp[zC])
 .intro hf;refine rK func72 rfl qEm (rs:=[.cell 6 3 true]) (by kernel_rfl) ?_
  (conv in zX8=>cbv);unfold wpF
  simp[eS,hP,zK];intro hls;refine qO (S:=Nat) (fun i=>[(0,.ptr 0 0),(2,.sl vs.length (zR vs)),(4,.ptr 1 0),(6,.ptr 2 0),(7,scE ((cG d.slots vs).take i)),(11,.sl d.slots.length (jN d.slots)),(12,int d.slots.length),(13,int i)])
   (fun i=>eS p F s++[.box (zK d),.box [int 0,int 0,.nil]]) (fun i=>i<=d.slots.length) (fun i=>d.slots.length-i) 0 (by simp)
   (mw [0,1,2] 0 (by rfl) (by simp[eS,hP,zK])) ?_
  intro i hi;by_cases hil:i<d.slots.length
  .have hiv:i<vs.length:=by omega
   have hdr:=qW hil;have hdv:=qT hiv;have htk:=zGu hl hil;have hw:=iR ((cG d.slots vs).take i).reverse ⟨d.slots[i].id,0,vs[i]⟩;simp[eS,hP,hil,hiv,hdr,hdv,j4];refine qA hw (by simp[zL,zC]) (by simp) ?_;simp;exact zS (i+1) hil (by omega) (mw [0,1,2] 0 (by rfl) (by simp[eS,hP,zK,qF hil hls,htk]))
  .have hil:i=d.slots.length:=by omega
   subst hil;rw[hall];simp[eS,hP,zK];refine zAW (he.pan hf) [0] (by decide) (by simp[eS,hP]) (by simp[zJ]) fun τ=>?_
   simp
end
section
variable{p:Prg}{c:Nat}{m:Int}{ev:Evl}{e:Exp}{V:wO}{s:XS}
def zQ5(p:Prg):Prop:=∀d∈p.defs,d.slots.length<=6/\d.slots.Pairwise fun a b=>a.id≠b.id
theorem zDC{ss:List Slt}(hnd:ss.Pairwise fun a b=>a.id≠b.id)(vs:wI)(hl:vs.length=ss.length):NdV (cG ss vs):=by
 unfold NdV;rw[jCp];intro i j hi hj hij e;have hi':i<ss.length:=by rw[zBe ss vs hl]at hi;exact hi
 have hj':j<ss.length:=by rw[zBe ss vs hl]at hj;exact hj
 have:=jCp.1 hnd i j hi' hj' hij;have e1:(cG ss vs)[i].id=ss[i].id:=by simp[cG]
 have e2:(cG ss vs)[j].id=ss[j].id:=by simp[cG]
 exact this (by rw[<-e1,<-e2];exact e.1)
end
section
variable{p:Prg}{c:Nat}{m:Int}{ev:Evl}{e:Exp}{V:wO}{s:XS}
end
def cK(ev:Evl)(e:Exp)(V:wO)(v:Val)(s:XS):Val×XS :=
 if e.k=5 then ev (e.kids.getD (if v.n=1 then 1 else 2) .zero) V s
 else if e.k=6 then ev (e.kids.getD 1 .zero) (V++[⟨e.id,0,v⟩]) s
 else if e.k=8 then (v.kids.getD e.n.toNat vz,s)
 else if e.k=10 then ev (e.kids.getD (1+v.n).toNat .zero) (V++[⟨e.id,v.n,v.kids.headD vz⟩]) s
 else j7 ev V e.id (e.kids.getD 2 .zero) v.kids (ev (e.kids.getD 1 .zero) V s)
theorem zOp{ev:Evl}{e:Exp}{s:XS}(h:(ev (e.kids.headD .zero) V s).2.fail=0):jW ev e V s=cK ev e V (ev (e.kids.headD .zero) V s).1 (ev (e.kids.headD .zero) V s).2:=by unfold jW cK;rw[if_neg (fun hn=>hn h)]
section
variable{p:Prg}{F m:Int}{ev:Evl}{B:wJ}{e:Exp}{V:wO}{v:Val}{s:XS}
def qF8:Nat->Option wD:=fun|7=>k_ [0,0,0,0,0,0,0,0,0,0,10,0] | 11=>k_ [0,0,0,0,0,0,0,0,0,0,0,0,0,0,0,0,0,0,10,0] | 16=>k_ [0,0,0,0,0,0,0,0,0,0,0,0,0,0,10,0]|_=>none
noncomputable def zBP:K:=zY prog f178 qF8 []
theorem zDy:kx f178 qF8 zBP:=mz (by kernel_rfl)
abbrev BrE(p:Prg)(F:Int)(e:Exp)(V:wO)(v:Val)(s:XS)(r:Val×XS):Prop:=RP 178 [.ptr 0 0,.agg (zJ e),scE V,.agg (zC v)] p F s (.agg (zC r.1)) r.2
variable{a b:Exp}
theorem zTU{d:Exp}{x:Int}(hx:x=0\/x=1)(hk:e.k=5)(hks:e.kids=[a,b,d])(hb:zFI p F b V s (ev b V s))(hd:zFI p F d V s (ev d V s)):BrE p F e V (.mk 1 x []) s (cK ev e V (.mk 1 x []) s):=by
 have hP:=eP p;have hY:cK ev e V (.mk 1 x []) s=ev (if x=1 then b else d) V s:=by unfold cK;rw[hks];rcases hx with rfl|rfl<;>simp[hk,zQ]
 rw[hY];rcases hx with rfl|rfl
 .rw[if_neg (by decide)];generalize ev d V s=r at *
  constructor
  .intro hf;refine zM func178 rfl zDy (rs:=[.cell 8 3 true]) (by kernel_rfl) ?_
   (conv in zBP=>cbv)
   simp[eS,hP,zJ,zC,hk,hks,zO,zX,zQ,zH];refine mr (hd.ret hf) [0] (by simp[eS,hP,zJ]) ?_;simp[eS,hP,zC];exact mv [0] 0 (by rfl) (by simp[zC])
  .intro hf;refine bF func178 rfl zDy (rs:=[.cell 8 3 true]) (by kernel_rfl) ?_
   (conv in zBP=>cbv);unfold wpF
   simp[eS,hP,zJ,zC,hk,hks,zO,zX,zQ,zH];refine zAW (hd.pan hf) [0] (by decide) (by simp[eS,hP]) (by simp[zJ]) fun τ=>?_
   simp
 .rw[if_pos rfl];generalize ev b V s=r at *
  constructor
  .intro hf;refine zM func178 rfl zDy (rs:=[.cell 8 3 true]) (by kernel_rfl) ?_
   (conv in zBP=>cbv)
   simp[eS,hP,zJ,zC,hk,hks,zO,zX,zQ,zH];refine mr (hb.ret hf) [0] (by simp[eS,hP,zJ]) ?_;simp[eS,hP,zC];exact mv [0] 0 (by rfl) (by simp[zC])
  .intro hf;refine bF func178 rfl zDy (rs:=[.cell 8 3 true]) (by kernel_rfl) ?_
   (conv in zBP=>cbv);unfold wpF
   simp[eS,hP,zJ,zC,hk,hks,zO,zX,zQ,zH];refine zAW (hb.pan hf) [0] (by decide) (by simp[eS,hP]) (by simp[zJ]) fun τ=>?_
   simp
theorem zTV(hk:e.k=6)(hks:e.kids=[a,b])(hb:zFI p F b (V++[⟨e.id,0,v⟩]) s (ev b (V++[⟨e.id,0,v⟩]) s)):BrE p F e V v s (cK ev e V v s):=by
 have hP:=eP p;have hY:cK ev e V v s=ev b (V++[⟨e.id,0,v⟩]) s:=by unfold cK;rw[hks];simp[hk]
 rw[hY];generalize ev b (V++[⟨e.id,0,v⟩]) s=r at *
 have hw:=iR V.reverse ⟨e.id,0,v⟩;constructor
 .intro hf;refine zM func178 rfl zDy (rs:=[.cell 8 3 true]) (by kernel_rfl) ?_
  (conv in zBP=>cbv)
  simp[eS,hP,zJ,zC,hk,hks,zO,zX,zQ,zH];refine qA hw (by simp[zL,zC]) (by simp) ?_;simp[eS,hP];refine gR (hb.ret hf) [0] (by decide) (by simp[eS,hP]) (by simp[zJ]) ?_;simp[eS,hP,zC];exact mv [0] 0 (by rfl) (by simp[zC])
 .intro hf;refine bF func178 rfl zDy (rs:=[.cell 8 3 true]) (by kernel_rfl) ?_
  (conv in zBP=>cbv);unfold wpF
  simp[eS,hP,zJ,zC,hk,hks,zO,zX,zQ,zH];refine qA hw (by simp[zL,zC]) (by simp) ?_;simp[eS,hP];refine mY (hb.pan hf) [0] (by decide) (by simp[eS,hP]) (by simp[zJ]) fun τ=>?_
  simp
theorem zO2{vs:wI}{j:Nat}(hk:e.k=8)(hn:e.n=j)(hs:s.fail=0)(hj:j<vs.length)(hks:e.kids=[a]):BrE p F e V (.mk 2 0 vs) s (cK ev e V (.mk 2 0 vs) s):=by
 have hP:=eP p;have hY:cK ev e V (.mk 2 0 vs) s=(vs[j],s):=by unfold cK;simp[hk,hn,zH,hj]
 rw[hY];refine⟨fun _=>?_,fun hf=>(hf hs).elim⟩;refine zM func178 rfl zDy (rs:=[.cell 8 3 true]) (by kernel_rfl) ?_
 (conv in zBP=>cbv)
 simp[eS,hP,zJ,zC,hk,hks,zO,zX,zQ,zH,hn,hj,qT hj];exact mv [0] 0 (by rfl) (by simp[zC])
theorem zO3{ks:wG}{q:Nat}{x:Val}(hk:e.k=10)(hks:e.kids=a::ks)(hq:q<ks.length)(hl6:ks.length<=32768)(hb:zFI p F ks[q] (V++[⟨e.id,q,x⟩]) s (ev ks[q] (V++[⟨e.id,q,x⟩]) s)):BrE p F e V (.mk 3 q [x]) s (cK ev e V (.mk 3 q [x]) s):=by
 have hP:=eP p;have e2:(1+(q:Int)).toNat=q+1:=by omega
 have hw1:IntKind.i64.wrap (1+(q:Int))=((q+1:Nat):Int):=by rw[IntWalk.i64_in _ (by omega)];omega
 have hY:cK ev e V (.mk 3 q [x]) s=ev ks[q] (V++[⟨e.id,q,x⟩]) s:=by unfold cK;rw[hks];simp[hk,zQ,zH,e2,hq]
 rw[hY];generalize ev ks[q] (V++[⟨e.id,q,x⟩]) s=r at *
 have hw:=iR V.reverse ⟨e.id,q,x⟩;have hdr:(qQ (a::ks)).drop ((q+1)*15)=zJ ks[q]++qQ (ks.drop (q+1)):=by
  have:=y5 (l:=a::ks) (i:=q+1) (by simpa using hq)
  simpa using this
 have hlt:q+1<(a::ks).length:=by simpa using hq
 generalize hQ:a::ks=Q at *
 obtain⟨M,hM⟩:∃M,M=q+1:=⟨_,rfl⟩;rw[<-hM]at hw1 hdr hlt;constructor
 .intro hf;refine zM func178 rfl zDy (rs:=[.cell 8 3 true]) (by kernel_rfl) ?_
  (conv in zBP=>cbv)
  simp[eS,hP,zJ,zC,hk,hks,zX,zQ,zH,hw1,hlt,hdr];refine qA hw (by simp[zL,zC]) (by simp) ?_;simp[eS,hP];refine gR (hb.ret hf) [0] (by decide) (by simp[eS,hP]) (by simp[zJ]) ?_;simp[eS,hP,zC];exact mv [0] 0 (by rfl) (by simp[zC])
 .intro hf;refine bF func178 rfl zDy (rs:=[.cell 8 3 true]) (by kernel_rfl) ?_
  (conv in zBP=>cbv);unfold wpF
  simp[eS,hP,zJ,zC,hk,hks,zX,zQ,zH,hw1,hlt,hdr];refine qA hw (by simp[zL,zC]) (by simp) ?_;simp[eS,hP];refine mY (hb.pan hf) [0] (by decide) (by simp[eS,hP]) (by simp[zJ]) fun τ=>?_
  simp
theorem zRf{l z:Exp}{vs:wI}(h:pB ev)(hk:e.k=12)(hks:e.kids=[l,z,b])(hz:zFI p F z V s (ev z V s))(hb:∀x a s',s'.fail=0->(∃i,(j7 ev V e.id b (vs.take i) (ev z V s))=(a,s')/\vs[i]?=some x)->zFI p F b (V++[⟨e.id,0,x⟩]++[⟨e.id,1,a⟩]) s' (ev b (V++[⟨e.id,0,x⟩]++[⟨e.id,1,a⟩]) s')) :
 BrE p F e V (.mk 4 0 vs) s (cK ev e V (.mk 4 0 vs) s):=by
 have hP:=eP p;have hY:cK ev e V (.mk 4 0 vs) s=j7 ev V e.id b vs (ev z V s):=by unfold cK;rw[hks];simp[hk,zH]
 rw[hY];have htk:vs.take vs.length=vs:=jAu;generalize ev z V s=r at *
 by_cases hr0:r.2.fail=0
 .have hz:=hz.ret hr0;constructor
  .intro hf;have hpre:∀i,i<=vs.length->(j7 ev V e.id b (vs.take i) r).2.fail=0:=fun i hi=>zCn h V e.id b vs r i vs.length hi (by rw[htk];exact hf)
   refine zM func178 rfl zDy (rs:=[.cell 8 3 true]) (by kernel_rfl) ?_
   (conv in zBP=>cbv)
   simp[eS,hP,zJ,zC,hk,hks,zO,zX,zQ,zH];refine mr hz [0] (by simp[eS,hP,zJ]) ?_;simp[eS,hP,zC];intro hls;refine qO (S:=Nat) (fun i=>[(0,.ptr 0 0),(2,scE V),(5,.ptr 1 0),(8,.ptr 3 0),(9,.ptr 4 0),(83,.sl vs.length (zR vs)),(84,int vs.length),(85,int i)])
    (fun i=>eS p F (j7 ev V e.id b (vs.take i) r).2++[.box (zJ e),.box (zC (.mk 4 0 vs)),.box [int 0,int 0,.nil],.box (zC (j7 ev V e.id b (vs.take i) r).1)]) (fun i=>i<=vs.length) (fun i=>vs.length-i) 0 (by simp)
    (mw [0,1,2,3,4] 0 (by rfl) (by simp[eS,hP,zJ,zC,hks,zO,hk,j7,zX,zQ,zH])) ?_
   intro i hi;by_cases hil:i<vs.length
   .have hw0:=iR V.reverse ⟨e.id,0,vs[i]⟩;have hsn:=sO ev V e.id b vs[i] (vs.take i) r;rw[<-jA8 hil]at hsn;have hdr:=qT hil;have HP1:=hpre (i+1) hil;have hok:=hb vs[i] _ _ (hpre i hi) ⟨i,rfl,jA1 hil⟩;generalize hFn:j7 ev V e.id b (vs.take (i+1)) r=Fn at hsn HP1;subst hsn;generalize hFi:j7 ev V e.id b (vs.take i) r=Fi at *
    obtain⟨acc,si⟩:=Fi;simp only at *
    have hw1:=iR (⟨e.id,0,vs[i]⟩::V.reverse) ⟨e.id,1,acc⟩;generalize ev b (V++[⟨e.id,0,vs[i]⟩]++[⟨e.id,1,acc⟩]) si=rk at *
    obtain⟨v',sk⟩:=rk;simp only at *
    simp[eS,hP,zJ,zC,hil,hdr,hks,zO,hFi,zX,zQ,zH];refine qA hw0 (by simp[zL,zC]) (by simp) ?_;simp[eS,hP];refine qA hw1 (by simp[zL,zC]) (by simp) ?_;simp[eS,hP];refine gR (hok.ret HP1) [0] (by decide) (by simp[eS,hP]) (by simp[zJ]) ?_;simp[eS,hP,zC];exact zS (i+1) hil (by omega) (mw [0,1,2,3,4] 0 (by rfl) (by simp[eS,hP,zJ,zC,hks,zO,hFn,hk,zX,zQ,zH,qF hil hls]))
   .have hil:i=vs.length:=by omega
    subst hil;rw[htk];simp[eS,hP,zC];exact mv [0] 0 (by rfl) (by simp[zC])
  .intro hf;obtain⟨k,hk1,hk0,hk2⟩:=zDd h V e.id b vs r hr0 hf;have hpre:∀i,i<=k->(j7 ev V e.id b (vs.take i) r).2.fail=0:=fun i hi=>zCn h V e.id b vs r i k hi hk0
   rw[<-hk2]at hf ⊢;refine bF func178 rfl zDy (rs:=[.cell 8 3 true]) (by kernel_rfl) ?_
   (conv in zBP=>cbv);unfold wpF
   simp[eS,hP,zJ,zC,hk,hks,zO,zX,zQ,zH];refine mr hz [0] (by simp[eS,hP,zJ]) ?_;simp[eS,hP,zC];intro hls;refine qO (S:=Nat) (fun i=>[(0,.ptr 0 0),(2,scE V),(5,.ptr 1 0),(8,.ptr 3 0),(9,.ptr 4 0),(83,.sl vs.length (zR vs)),(84,int vs.length),(85,int i)])
    (fun i=>eS p F (j7 ev V e.id b (vs.take i) r).2++[.box (zJ e),.box (zC (.mk 4 0 vs)),.box [int 0,int 0,.nil],.box (zC (j7 ev V e.id b (vs.take i) r).1)]) (fun i=>i<=k) (fun i=>vs.length-i) 0 (by simp)
    (mw [0,1,2,3,4] 0 (by rfl) (by simp[eS,hP,zJ,zC,hks,zO,hk,j7,zX,zQ,zH])) ?_
   intro i hi;have hil:i<vs.length:=by omega
   have hw0:=iR V.reverse ⟨e.id,0,vs[i]⟩;have hsn:=sO ev V e.id b vs[i] (vs.take i) r;rw[<-jA8 hil]at hsn;have hdr:=qT hil;have hok:=hb vs[i] _ _ (hpre i hi) ⟨i,rfl,jA1 hil⟩;by_cases hik:i<k
   .have HP1:=hpre (i+1) hik;generalize hFn:j7 ev V e.id b (vs.take (i+1)) r=Fn at hsn HP1;subst hsn;generalize hFi:j7 ev V e.id b (vs.take i) r=Fi at *
    obtain⟨acc,si⟩:=Fi;simp only at *
    have hw1:=iR (⟨e.id,0,vs[i]⟩::V.reverse) ⟨e.id,1,acc⟩;generalize ev b (V++[⟨e.id,0,vs[i]⟩]++[⟨e.id,1,acc⟩]) si=rk at *
    obtain⟨v',sk⟩:=rk;simp only at *
    simp[eS,hP,zJ,zC,hil,hdr,hks,zO,hFi,zX,zQ,zH];refine qA hw0 (by simp[zL,zC]) (by simp) ?_;simp[eS,hP];refine qA hw1 (by simp[zL,zC]) (by simp) ?_;simp[eS,hP];refine gR (hok.ret HP1) [0] (by decide) (by simp[eS,hP]) (by simp[zJ]) ?_;simp[eS,hP,zC];exact zS (i+1) hik (by omega) (mw [0,1,2,3,4] 0 (by rfl) (by simp[eS,hP,zJ,zC,hks,zO,hFn,hk,zX,zQ,zH,qF hil hls]))
   .have hik:i=k:=by omega
    subst hik;have HP1:=hf;generalize hFn:j7 ev V e.id b (vs.take (i+1)) r=Fn at hsn HP1;subst hsn;generalize hFi:j7 ev V e.id b (vs.take i) r=Fi at *
    obtain⟨acc,si⟩:=Fi;simp only at *
    have hw1:=iR (⟨e.id,0,vs[i]⟩::V.reverse) ⟨e.id,1,acc⟩;generalize ev b (V++[⟨e.id,0,vs[i]⟩]++[⟨e.id,1,acc⟩]) si=rk at *
    obtain⟨v',sk⟩:=rk;simp only at *
    simp[eS,hP,zJ,zC,hil,hdr,hks,zO,hFi,zX,zQ,zH];refine qA hw0 (by simp[zL,zC]) (by simp) ?_;simp[eS,hP];refine qA hw1 (by simp[zL,zC]) (by simp) ?_;simp[eS,hP];refine mY (hok.pan HP1) [0] (by decide) (by simp[eS,hP]) (by simp[zJ]) fun τ=>?_
    simp
 .have hx:(j7 ev V e.id b vs r).2=r.2:=nS h V e.id b vs r hr0;unfold BrE;rw[hx];refine⟨fun hf=>(hr0 hf).elim,fun hf=>?_⟩;refine bF func178 rfl zDy (rs:=[.cell 8 3 true]) (by kernel_rfl) ?_
  (conv in zBP=>cbv);unfold wpF
  simp[eS,hP,zJ,zC,hk,hks,zO,zX,zQ,zH];refine zAW (hz.pan hf) [0] (by decide) (by simp[eS,hP]) (by simp[zJ]) fun τ=>?_
  simp
end
def rN(p:Prg)(d:Dfn)(vs:wI)(fuel:Int):Val×XS:=bX (aM p 1 fuel.toNat) d vs ⟨fuel,0,zMx p d.slots [],[]⟩
theorem zCk{P:Prg}:∀{ts:wS} {vs:wI},vs.length=ts.length->(∀(j:Nat) (h1:j<ts.length) (h2:j<vs.length),aO P ts[j] vs[j]=true)->dF P ts vs=true
 |[],[],_,_=>rfl
 |t::ts,v::vs,hl,h=>by rw[dF,jA6];exact⟨h 0 (by simp) (by simp),zCk (by simpa using hl) fun j h1 h2=>h (j+1) (by simpa using h1) (by simpa using h2)⟩
 |[],v::vs,hl,_=>by simp at hl
 |t::ts,[],hl,_=>by simp at hl
theorem zGi{d:Dfn}(h:zBU d.kind=true):fA d=true:=by simp[zBU]at h;simp[fA];omega
theorem zGj{p:Prg}{hs:wP}(hf:Fit p hs):zQ5 p:=fun d hd=>⟨(hf.slots d hd).2.1,(hf.slots d hd).2.2.2.1⟩
end Go.Proofs.YtdnelmeboihpkaaGreatDoor

/-
  The maker's programs: their definitions have IDs of their own, their bodies have types, their types have few levels.
  Runs: what each step keeps; where the first failure is.
  Programs with other names, walked.
  The law's calls: a definition with a body, and arguments made of numbers.
  The definitions that types reach: met one by one, or in rounds.
  The law TraceChanges, walked.
  The law's calls: which definition is called.
  trace: notes, and the definitions that types reach.
  The law's calls: in a program that has a body, a definition is called.
  trace: environments as maps.
-/
import Derived.Test.YthglhccibdlccaaGreatDoorX19
import Derived.Test.YthglhccibdlccaaGreatDoorX18
import Derived.Test.YthglhccibdlccaaGreatDoorX15
import Derived.Test.YthglhccibdlccaaGreatDoorX17
import Derived.Test.YthglhccibdlccaaGreatDoorX14
import Derived.Test.YthglhccibdlccaaGreatDoorX12
set_option linter.unusedVariables false
set_option maxHeartbeats 8000000
set_option maxRecDepth 100000
set_option linter.unusedSimpArgs false
open Go.Proofs.Tryz (prog)
namespace Go.Proofs.YthglhccibdlccaaGreatDoor
open Go.Abs
def zH4 (f:Int→Id)(x:Id):Id:=if x.b=0 then f x.c else x
def zJr (f:Int→Id)(b:Bnd):Bnd:={b with id:=zH4 f b.id}
def qGT (f:Int→Id)(env:List Bnd):Prop:=∀b∈env,∀b'∈env,zH4 f b.id=zH4 f b'.id→b.id=b'.id
theorem zUm {f:Int→Id}{env:List Bnd}(h:qGT f env){x:Id}{n:Int}{t:Typ}:zCv env x n=some t→zCv (env.map (zJr f)) (zH4 f x) n=some t:=by
 have hmem:zCv env x n=some t→∃b∈env,b.id=x:=by intro he;unfold zCv at he;rw[jAe]at he;obtain⟨b,hb,_⟩:=he;have h1:=jDa hb;have h2:=jDb hb;rw[jA6]at h1;exact⟨b,List.mem_reverse.1 h2,of_decide_eq_true h1.1⟩
 intro he;obtain⟨b0,hb0,rfl⟩:=hmem he;clear hmem;have key:∀l:List Bnd,(∀b∈l,b∈env)→zCv l b0.id n=some t→zCv (l.map (zJr f)) (zH4 f b0.id) n=some t:=by
  intro l;induction l using zBK with
  | nil=>intro _ h; simp[zCv]at h
  | snoc l y ih =>
   intro hl hk;rw[zFl]at hk;rw[jB1,jDf,zFl];have hy:=hl y (by simp);by_cases c1:y.id=b0.id
   ·by_cases c2:y.n=n
    ·rw[if_pos ⟨c1,c2⟩]at hk;rw[if_pos ⟨by simp only[zJr]; rw[c1],c2⟩];exact hk
    ·rw[if_neg fun h=>c2 h.2]at hk;rw[if_neg fun h=>c2 h.2];exact ih (fun b hb=>hl b (jBn _ hb)) hk
   ·rw[if_neg fun h=>c1 h.1]at hk;rw[if_neg fun e=>c1 (h y hy b0 hb0 e.1)];exact ih (fun b hb=>hl b (jBn _ hb)) hk
 exact key env (fun _ h=>h) he
theorem zNC:∀l:List Exp,l.length≤(jL l).length
 | []=>by simp
 | e::l=>by
  have:=zNC l;have h1:1≤(tmps e).length:=by rw[zA7]; simp
  simp only[jAd,jL,jA5];omega
theorem zLZ:∀{l:List Exp} {e:Exp},e∈l→(tmps e).Sublist (jL l)
 | x::l,e,h=>by
  simp only[jL];rcases jA3.1 h with rfl | h
  ·exact List.sublist_append_left _ _
  ·exact(zLZ h).trans (List.sublist_append_right _ _)
structure Frs (f:Int→Id)(env:List Bnd)(e:Exp):Prop where
 nd:(tmps e).Nodup
 num:e.num0
 inj:∀c∈tmps e,∀c'∈tmps e,f c=f c'→c=c'
 new:∀b∈env,∀c∈tmps e,zH4 f b.id≠f c
 len:(tmps e).length≤32768
 ib:qGT f env
section
variable {f:Int→Id}{env:List Bnd}{i:Id}{k n:Int}{r:Id}{u:Typ}{ks:List Exp}{ns:List ByteArray}
theorem Frs.id (h:Frs f env (.mk i k n r u ks ns)):i=⟨0,0,i.c⟩:=by obtain⟨a,b,c⟩:=i;have:=h.num;simp only[Exp.num0]at this;simp[this.1.1,this.1.2]
theorem Frs.kid (h:Frs f env (.mk i k n r u ks ns)){e:Exp}(he:e∈ks):Frs f env e:=by
 obtain⟨h1,h2,h3,h4,h5,h6⟩:=h;simp only[tmps]at h1 h3 h4 h5;simp only[Exp.num0,zJf]at h2;have hs:=zLZ he;have hm:∀c∈tmps e,c∈jL ks++[i.c]:=fun c hc=>jBn _ (hs.subset hc)
 exact⟨(jCy.1 h1).1.sublist hs,h2.2 e he,fun c hc c' hc'=>h3 c (hm c hc) c' (hm c' hc'),fun b hb c hc=>h4 b hb c (hm c hc),by
  have:=hs.length_le;rw[jA5]at h5;omega,h6⟩
theorem Frs.push (h:Frs f env (.mk i k n r u ks ns)){e:Exp}(he:e∈ks)(m:Int)(t:Typ){env':List Bnd}(hb:env'=env∨∃m' t',env'=env++[⟨i,m',t'⟩]):Frs f (env'++[⟨i,m,t⟩]) e:=by
 have hk:=h.kid he;have hi:=h.id;obtain⟨h1,h2,h3,h4,h5,h6⟩:=h;simp only[tmps]at h1 h3 h4;have hic:i.c∈jL ks++[i.c]:=by simp
 have hri:zH4 f i=f i.c:=by unfold zH4; rw[if_pos (by rw[hi])]
 have hmem:∀b∈env'++[(⟨i,m,t⟩:Bnd)],b∈env∨b.id=i:=by
  intro b hb';rcases jA8.1 hb' with hb' | hb'
  ·rcases hb with rfl | ⟨m',t',rfl⟩
   ·exact .inl hb'
   ·rcases jA8.1 hb' with hb' | hb'
    ·exact .inl hb'
    ·rw[jAg.1 hb']; exact .inr rfl
  ·rw[jAg.1 hb']; exact .inr rfl
 refine⟨hk.nd,hk.num,hk.inj,fun b hb' c hc=>?_,hk.len,fun b hb1 b' hb2 e=>?_⟩
 ·rcases hmem b hb' with h' | h'
  ·exact hk.new b h' c hc
  ·rw[h',hri];intro e;have hc':=(zLZ he).subset hc;have:=h3 i.c hic c (jBn _ hc') e;exact(jCy.1 h1).2.2 c hc' i.c (by simp) this.symm
 ·rcases hmem b hb1 with h' | h'<;>rcases hmem b' hb2 with h'' | h''
  ·exact h6 b h' b' h'' e
  ·rw[h'',hri]at e;exact(h4 b h' i.c hic e).elim
  ·rw[h',hri]at e;exact(h4 b' h'' i.c hic e.symm).elim
  ·rw[h',h'']
theorem Frs.fresh (h:Frs f env (.mk i k n r u ks ns)):∀x∈env.map (zJr f),x.id≠f i.c:=by intro x hx;obtain⟨b,hb,rfl⟩:=jAi.1 hx;exact h.new b hb i.c (by simp[tmps])
theorem Frs.kids (h:Frs f env (.mk i k n r u ks ns)):(ks.map (zBU f)).length≤32768:=by have h1:=h.len;have h2:=zNC ks;simp only[tmps,jA5]at h1;rw[jAa];omega
end
theorem zAO {f:Int→Id}{i:Id}{k n:Int}{r:Id}{u:Typ}{ks:List Exp}{ns:List ByteArray}(h:k≠2):zBU f (.mk i k n r u ks ns)=.mk (f i.c) k n r u (ks.map (zBU f)) ns:=by simp only[zBU,zEE,h,false_and,if_false]
def zUP (P:Prg)(hs:List Hd):Prop:=∀(k:Nat) (h:k<hs.length),∃d,jO P.defs hs[k].id=some d∧d.hd=hs[k]
theorem qLv {P:Prg}{hs:List Hd}(hh:zUP P hs){f:Int→Id}{own:Int}{env:List Bnd}{e:Exp}{t:Typ}(h:WT hs own env e t):Frs f env e→WE P (env.map (zJr f)) (zBU f e) t:=by
 induction h with
 | int env i n h1 h2=>intro hF; rw[zAO (by decide)]; exact .int _ _ _ _ _ _ h1 h2
 | bool env i n h=>intro hF; rw[zAO (by decide)]; exact .bool _ _ _ _ _ _ h
 | var env i n x t h =>
  intro hF;have e:zBU f (.mk i 2 n x Typ.zero [] [])=.mk (f i.c) 2 n (zH4 f x) Typ.zero [] []:=by simp only[zBU,zF7,true_and,zH4]
  rw[e];exact .var _ _ _ _ _ _ _ (zUm hF.ib h)
 | call env i k h ks ho hk hl hw ih =>
  intro hF;obtain⟨d,hd,hhd⟩:=hh k h;have e1:d.kind=hs[k].kind:=congrArg Hd.kind hhd;have e2:d.slots=hs[k].slots:=congrArg Hd.slots hhd;have e3:d.res=hs[k].res:=congrArg Hd.res hhd;rw[zAO (by decide),←e3];refine .call _ _ _ _ _ _ _ hF.kids d hd (by rw[e1]; exact hk) (by simp only[jAa,e2]; exact hl) fun j hj=>?_
  simp only[jAr,e2];rw[jAa]at hj;exact ih j hj (hF.kid (jA0 hj))
 | arith env i n a b h1 h2 ha hb iha ihb =>
  intro hF;rw[zAO (by decide)];refine .op _ _ _ _ _ _ _ hF.kids [jT,jT] jT (.arith n h1 h2) rfl fun j hj=>?_
  match j,hj with
  | 0,_=>exact iha (hF.kid (by simp))
  | 1,_=>exact ihb (hF.kid (by simp))
 | less env i a b ha hb iha ihb =>
  intro hF;rw[zAO (by decide)];refine .op _ _ _ _ _ _ _ hF.kids [jT,jT] yC .less rfl fun j hj=>?_
  match j,hj with
  | 0,_=>exact iha (hF.kid (by simp))
  | 1,_=>exact ihb (hF.kid (by simp))
 | same env i a b u ha hb iha ihb =>
  intro hF;rw[zAO (by decide)];refine .op _ _ _ _ _ _ _ hF.kids [u,u] yC (.same u) rfl fun j hj=>?_
  match j,hj with
  | 0,_=>exact iha (hF.kid (by simp))
  | 1,_=>exact ihb (hF.kid (by simp))
 | andor env i n a b h ha hb iha ihb =>
  intro hF;rw[zAO (by decide)];refine .op _ _ _ _ _ _ _ hF.kids [yC,yC] yC (.andor n h) rfl fun j hj=>?_
  match j,hj with
  | 0,_=>exact iha (hF.kid (by simp))
  | 1,_=>exact ihb (hF.kid (by simp))
 | not env i a ha iha =>
  intro hF;rw[zAO (by decide)];refine .op _ _ _ _ _ _ _ hF.kids [yC] yC .not rfl fun j hj=>?_
  match j,hj with
  | 0,_=>exact iha (hF.kid (by simp))
 | join env i a b t ha hb iha ihb =>
  intro hF;rw[zAO (by decide)];refine .op _ _ _ _ _ _ _ hF.kids [jV t,jV t] (jV t) (.join t) rfl fun j hj=>?_
  match j,hj with
  | 0,_=>exact iha (hF.kid (by simp))
  | 1,_=>exact ihb (hF.kid (by simp))
 | len env i a t ha iha =>
  intro hF;rw[zAO (by decide)];refine .op _ _ _ _ _ _ _ hF.kids [jV t] jT (.len t) rfl fun j hj=>?_
  match j,hj with
  | 0,_=>exact iha (hF.kid (by simp))
 | ite env i a b c t ha hb hc iha ihb ihc =>
  intro hF;rw[zAO (by decide)];exact .ite _ _ _ _ _ _ _ _ _ _ (iha (hF.kid (by simp))) (ihb (hF.kid (by simp))) (ihc (hF.kid (by simp)))
 | lets env i a b u t ns hn ha hb iha ihb =>
  intro hF;rw[zAO (by decide)];have hb':=ihb (hF.push (by simp) 0 u (.inl rfl));rw[jB1,jDf]at hb';have hi:=hF.id;have e:zJr f ⟨i,0,u⟩=⟨f i.c,0,u⟩:=by simp only[zJr,zH4]; rw[if_pos (by rw[hi])]
  rw[e]at hb';exact .lets _ _ _ _ _ _ _ _ _ _ hF.fresh (iha (hF.kid (by simp))) hb'
 | record env i k h ks hk hl hw ih =>
  intro hF;obtain⟨d,hd,hhd⟩:=hh k h;have e1:d.kind=hs[k].kind:=congrArg Hd.kind hhd;have e2:d.slots=hs[k].slots:=congrArg Hd.slots hhd;rw[zAO (by decide)];refine .record _ _ _ _ _ _ _ hF.kids d hd (by rw[e1]; exact hk) (by simp only[jAa,e2]; exact hl) fun j hj=>?_
  simp only[jAr,e2];rw[jAa]at hj;exact ih j hj (hF.kid (jA0 hj))
 | field env i k h j hj a hk ha iha =>
  intro hF;obtain⟨d,hd,hhd⟩:=hh k h;have e1:d.kind=hs[k].kind:=congrArg Hd.kind hhd;have e2:hs[k].slots=d.slots:=(congrArg Hd.slots hhd).symm;rw[zAO (by decide)];have hjd:j<d.slots.length:=by rw[←e2]; exact hj
  have et:hs[k].slots[j]=d.slots[j]:=by simp only[e2]
  rw[et];exact .field _ _ _ _ _ _ d j hd (by rw[e1]; exact hk) hjd (iha (hF.kid (by simp)))
 | case env i k h j hj a hk ha iha =>
  intro hF;obtain⟨d,hd,hhd⟩:=hh k h;have e1:d.kind=hs[k].kind:=congrArg Hd.kind hhd;have e2:hs[k].slots=d.slots:=(congrArg Hd.slots hhd).symm;rw[zAO (by decide)];have hjd:j<d.slots.length:=by rw[←e2]; exact hj
  have et:hs[k].slots[j]=d.slots[j]:=by simp only[e2]
  have ih:=iha (hF.kid (by simp));rw[et]at ih;exact .case _ _ _ _ _ _ d j hd (by rw[e1]; exact hk) hjd ih
 | mtch env i k h a ks t ns hn hk hl ha hw iha ih =>
  intro hF;obtain⟨d,hd,hhd⟩:=hh k h;have e1:d.kind=hs[k].kind:=congrArg Hd.kind hhd;have e2:d.slots=hs[k].slots:=congrArg Hd.slots hhd;rw[zAO (by decide),jAj];have hi:=hF.id;refine .mtch _ _ _ _ _ _ _ _ d _ hF.fresh hd (by rw[e1]; exact hk) (by simp only[jAa,e2]; exact hl) (iha (hF.kid (by simp))) fun j hj=>?_
  have hj':j<ks.length:=by rw[jAa]at hj; exact hj
  have:=ih j hj' (hF.push (jAm _ (jA0 hj')) _ _ (.inl rfl));rw[jB1,jDf]at this;have e:∀t,zJr f ⟨i,j,t⟩=⟨f i.c,j,t⟩:=fun t=>by simp only[zJr,zH4]; rw[if_pos (by rw[hi])]
  rw[e]at this;simp only[jAr,e2];exact this
 | list env i t ks hw ih =>
  intro hF;rw[zAO (by decide)];refine .list _ _ _ _ _ _ _ _ hF.kids fun j hj=>?_
  rw[jAa]at hj;rw[jAr];exact ih j hj (hF.kid (jA0 hj))
 | fold env i l s b u t ns hn hl hs' hb ihl ihs ihb =>
  intro hF;rw[zAO (by decide)];have hb':=ihb (hF.push (by simp) 1 t (.inr ⟨0,u,rfl⟩));rw[jB1,jDf,jB1,jDf]at hb';have hi:=hF.id;have e:∀m t,zJr f ⟨i,m,t⟩=⟨f i.c,m,t⟩:=fun m t=>by simp only[zJr,zH4]; rw[if_pos (by rw[hi])]
  rw[e,e]at hb';exact .fold _ _ _ _ _ _ _ _ _ _ _ hF.fresh (ihl (hF.kid (by simp))) (ihs (hF.kid (by simp))) hb'
theorem zKo:∀{ds:List Dfn} (_:ds.Pairwise fun a b=>a.id≠b.id) {k:Nat} (hk:k<ds.length),jO ds ds[k].id=some ds[k]
 | d::ds,h,0,_=>by rw[zHw]; simp
 | d::ds,h,k+1,hk=>by
  rw[jCt]at h;have hk':k<ds.length:=by simpa using hk
  rw[zHw];have:=h.1 ds[k] (jA0 hk');simp only[jDy];rw[if_neg this];exact zKo h.2 hk'
structure Fit (P:Prg)(hs:List Hd):Prop where
 heads:P.defs.map Dfn.hd=hs
 len5:5≤P.defs.length
 len8:P.defs.length≤8
 nd:P.defs.Pairwise fun a b=>a.id≠b.id
 slots:∀d∈P.defs,1≤d.slots.length∧d.slots.length≤6∧(d.kind=0∨d.kind=1→d.slots.length≤3)∧(d.slots.Pairwise fun a b=>a.id≠b.id)∧∀s∈d.slots,TyOk hs 4 s.typ
 kinds:∀d∈P.defs,0≤d.kind∧d.kind≤5
 bods:zQ8 P
theorem Fit.hd {P:Prg}{hs:List Hd}(h:Fit P hs):zUP P hs:=fun k hk=>by
 have hk':k<P.defs.length:=by rw[←h.heads]at hk; simpa using hk
 have e:hs[k]=P.defs[k].hd:=by simp[←h.heads]
 refine⟨P.defs[k],?_,e.symm⟩;rw[e];exact zKo h.nd hk'
theorem zAt {ds:List Dfn}{r:Id}{d:Dfn}(h:jO ds r=some d):d∈ds∧d.id=r:=⟨jDb h,by simpa using jDa h⟩
section
variable {l:List Int}{mods:Int}(hl:∀x∈l,w64 x=x)
include hl
theorem zUu:∀p∈qC l mods,p.kind=0∨p.kind=1→p.types.length≤3:=by
 intro p hp;have a2:=yM (i:=2) hl (most:=3) (by omega);have a6:=yM (i:=6) hl (most:=2) (by omega);have a9:=yM (i:=9) hl (most:=3) (by omega);have hp':p=zBr l mods∨p=zB8 l mods∨p=zCS l mods∨p=zKh mods∨p.kind=2∨p.kind=3∨p.kind=4∨p.kind=5:=by
  simp only[qC,plB,plC,plD,plE,jA8,jA3]at hp;rcases hp with ((h | h | h) | h) | h | h | h | h
  ·simp[h]
  ·simp[h]
  ·simp at h
  ·split at h
   ·simp at h; rcases h with h | h<;>simp[h]
   ·simp at h
  ·simp[h,pF]
  ·split at h<;>simp[h,zIq,pG]
  ·simp[h,pT]
  ·split at h
   ·simp at h; simp[h,pC]
   ·simp at h
 rcases hp' with rfl | rfl | rfl | rfl | h
 ·intro _; simp only[zBr,zCX]; omega
 ·intro _; simp only[zB8,jAd,zCX]; omega
 ·intro _; simp only[zCS,jAd,zCX]; omega
 ·intro _; simp only[zKh,jAd,jBm]; omega
 ·omega
end
theorem PrgOk.fit {l:List Int}(hl:∀x∈l,w64 x=x){P:Prg}(h:PrgOk l P):Fit P (hsV l (nmV l)):=by
 obtain⟨hnm,hnm2⟩:=zOl l hl;generalize hN:nmV l=nm at *
 have m1:1≤(nm:Int):=by omega
 have m2:(nm:Int)≤2:=by omega
 obtain⟨n5,n8⟩:=zAE l (nm:Int);have hh:=h.heads;rw[hN]at hh;have hlen:P.defs.length=(qC l nm).length:=by have:=congrArg List.length hh; simpa using this
 have hget:∀(k:Nat) (hk:k<P.defs.length),P.defs[k].hd=⟨idR (nm+k),((qC l nm)[k]'(by omega)).kind,zBw (zA9 nm (qC l nm) k) ((qC l nm)[k]'(by omega)),((qC l nm)[k]'(by omega)).out⟩:=fun k hk=>by
  rw[←zE6 nm (qC l nm) (by omega)];have:(P.defs.map Dfn.hd)[k]'(by simpa using hk)=(zM4 nm (qC l nm))[k]'(by simpa using (by omega:k<(qC l nm).length)):=by simp only[hh]
  rwa [jAr]at this
 have hnd:P.defs.Pairwise fun a b=>a.id≠b.id:=by rw[jCd];intro i j hi hj hij e;have e1:P.defs[i].id=idR (nm+i):=congrArg Hd.id (hget i hi);have e2:P.defs[j].id=idR (nm+j):=congrArg Hd.id (hget j hj);rw[e1,e2]at e;have:=zFf (by omega) (by omega) (by omega) (by omega) e;omega
 have hpl:=zBs l nm m1 m2 hl;have hrange:=fun i=>zCw (show 0≤(nm:Int) by omega) (fun p hp=>(hpl p hp).t6) i
 have henv:∀(k:Nat) (hk:k<P.defs.length),EnvOk (hsV l nm) 4 0 (zBk P.defs[k])∧1≤(zBk P.defs[k]).length∧(zBk P.defs[k]).length≤6∧TyOk (hsV l nm) 4 P.defs[k].res:=fun k hk=>zHv m1 m2 hl (i:=k) (by rw[←hh,jBd,jA2 hk]; rfl) 0
 have hslot:∀(k:Nat) (hk:k<P.defs.length),∀s∈P.defs[k].slots,∃j:Int,s.id=idR j∧0≤j∧j<zA9 nm (qC l nm) (qC l nm).length:=fun k hk s hs=>by have e:P.defs[k].slots=zBw (zA9 nm (qC l nm) k) ((qC l nm)[k]'(by omega)):=congrArg Hd.slots (hget k hk);rw[e]at hs;simp only[zBw,jAi,jC0]at hs;obtain⟨j,hj,rfl⟩:=hs;have h1:=hrange k;have h2:=zLv nm (qC l nm) (i:=k) (by omega);have h3:=zR3 (mods:=nm) (ps:=qC l nm) (show k+1≤(qC l nm).length by omega);exact⟨_,rfl,by omega,by omega⟩
 refine⟨hh,by omega,by omega,hnd,fun d hd=>?_,fun d hd=>?_,fun r d hd hb=>?_⟩
 ·obtain⟨k,hk,rfl⟩:=jAh hd;obtain⟨a1,a2,a3,a4⟩:=henv k hk;rw[zFU]at a2 a3;refine⟨a2,a3,fun hkd=>?_,?_,fun s hs=>a1.typs ⟨s.id,0,s.typ⟩ (jAi.2 ⟨s,hs,rfl⟩)⟩
  ·have e1:P.defs[k].kind=((qC l nm)[k]'(by omega)).kind:=congrArg Hd.kind (hget k hk);have e2:P.defs[k].slots=zBw (zA9 nm (qC l nm) k) ((qC l nm)[k]'(by omega)):=congrArg Hd.slots (hget k hk);rw[e2,zCW];exact zUu hl _ (jA0 _) (by rw[←e1]; exact hkd)
  ·have:=a1.nd;simp only[zBk]at this;rw[jD0]at this;exact this.imp fun h e=>h ⟨e,rfl⟩
 ·obtain⟨k,hk,rfl⟩:=jAh hd;have e1:P.defs[k].kind=((qC l nm)[k]'(by omega)).kind:=congrArg Hd.kind (hget k hk);rw[e1];have:=hpl _ (jA0 (show k<(qC l nm).length by omega));exact⟨this.kind0,this.kind5⟩
 ·obtain⟨hd1,rfl⟩:=zAt hd;obtain⟨k,hk,rfl⟩:=jAh hd1;obtain⟨base,hb0,hbs⟩:=h.bodies;rw[hN]at hb0 hbs;have hbase:∀k,k≤P.defs.length→zA9 nm (qC l nm) (qC l nm).length≤base k∧base k≤zA9 nm (qC l nm) (qC l nm).length+32768*k:=by
   intro k;induction k with
   | zero=>intro _; rw[hb0]; omega
   | succ k ih =>
    intro hk;have ih:=ih (by omega);rcases hbs k P.defs[k] (jA2 (by omega))with ⟨_,_,e⟩ | ⟨_,e,f,hr,e'⟩
    ·rw[e]; omega
    ·rw[e'];have:=hr.len;omega
  have hbk:=hbase k (by omega);have hr0:=hrange (qC l nm).length;rcases hbs k P.defs[k] (jA2 hk)with ⟨h0,_,_⟩ | ⟨_,e,f,hr,_⟩
  ·rw[h0]at hb; cases hb
  ·have hlt:=hr.len;have hfc:∀c∈tmps e,∃j:Nat,∃hj:j<(tmps e).length,(tmps e)[j]=c∧f c=idR (base k+j):=fun c hc=>by obtain⟨j,hj,rfl⟩:=jAh hc;exact⟨j,hj,rfl,hr.ids j hj⟩
   have hsb:∀b∈zBk P.defs[k],∃j:Int,b.id=idR j∧zH4 f b.id=idR j∧0≤j∧j<zA9 nm (qC l nm) (qC l nm).length:=fun b hb=>by simp only[zBk,jAi]at hb;obtain⟨s,hs,rfl⟩:=hb;obtain⟨j,h1,h2,h3⟩:=hslot k hk s hs;have:=qB6 (k:=j) h2 (by omega);refine⟨j,h1,?_,h2,h3⟩;simp only[zH4,h1];rw[if_neg (by omega)]
   have hF:Frs f (zBk P.defs[k]) e:=by
    refine⟨hr.nd,hr.num,fun c hc c' hc' he=>?_,fun b hb' c hc he=>?_,hr.len,fun b hb1 b' hb2 he=>?_⟩
    ·obtain⟨j,hj,e1,e2⟩:=hfc c hc;obtain⟨j',hj',e1',e2'⟩:=hfc c' hc';rw[e2,e2']at he;have:=zFf (by omega) (by omega) (by omega) (by omega) he;have:j=j':=by omega
     subst this;rw[←e1,←e1']
    ·obtain⟨j,hj,e1,e2⟩:=hfc c hc;obtain⟨j',_,e3,h0,h1⟩:=hsb b hb';rw[e3,e2]at he;have:=zFf (by omega) (by omega) (by omega) (by omega) he;omega
    ·obtain⟨j,e1,e2,h0,h1⟩:=hsb b hb1;obtain⟨j',e1',e2',h0',h1'⟩:=hsb b' hb2;rw[e2,e2']at he;rw[e1,e1',he]
   have hho:zUP P (hsV l nm):=fun k hk=>by
    have hk':k<P.defs.length:=by rw[←hh]at hk; simpa using hk
    have e:(hsV l nm)[k]=P.defs[k].hd:=by simp[←hh]
    exact⟨P.defs[k],by rw[e]; exact zKo hnd hk',e.symm⟩
   have:=qLv hho hr.wt hF;rw[←hr.body]at this;have e2:(zBk P.defs[k]).map (zJr f)=zBk P.defs[k]:=by
    rw[jCw (g:=id)]
    ·simp
    ·intro b hb';obtain⟨j,e1,e2,_,_⟩:=hsb b hb';simp only[zJr,id,e2];rw[←e1]
   rw[e2]at this;exact this
theorem TyOk.valid {P:Prg}{hs:List Hd}(hh:zUP P hs){r:Nat}{t:Typ}(h:TyOk hs r t):∀n,r<n→yD P n t=true:=by
 induction h with
 | int r=>intro n hn; obtain⟨m,rfl⟩:∃m,n=m+1:=⟨n-1,by omega⟩; simp[yD]
 | bool r=>intro n hn; obtain⟨m,rfl⟩:∃m,n=m+1:=⟨n-1,by omega⟩; simp[yD]
 | list r t h ih =>
  intro n hn;obtain⟨m,rfl⟩:∃m,n=m+1:=⟨n-1,by omega⟩;simp[yD,ih m (by omega)]
 | dfn r k h h1 h2 h3 h4 ih =>
  intro n hn;obtain⟨m,rfl⟩:∃m,n=m+1:=⟨n-1,by omega⟩;obtain⟨d,hd,hhd⟩:=hh k h;have e1:d.kind=hs[k].kind:=congrArg Hd.kind hhd;simp[yD,zDM,hd,e1];omega
theorem TyOk.validT {P:Prg}{hs:List Hd}(hh:zUP P hs){r:Nat}{t:Typ}(h:TyOk hs r t)(hr:r<24):validT P t=true:=h.valid hh 24 hr
theorem Fit.at_ {P:Prg}{hs:List Hd}(h:Fit P hs)(k:Nat)(hk:k<hs.length):(dfn P hs[k].id).hd=hs[k]∧dfn P hs[k].id∈P.defs:=by
 obtain⟨d,hd,hhd⟩:=h.hd k hk;have:dfn P hs[k].id=d:=by simp[dfn,hd]
 rw[this];exact⟨hhd,(zAt hd).1⟩
theorem zTg {P:Prg}{hs:List Hd}(hf:Fit P hs){r:Nat}{t:Typ}(h:TyOk hs r t):r<24→∀n,r<n→Wf P n t:=by
 induction h with
 | int r=>intro hr n hn; obtain⟨m,rfl⟩:∃m,n=m+1:=⟨n-1,by omega⟩; exact⟨(TyOk.int r).validT hf.hd hr,.inl rfl⟩
 | bool r=>intro hr n hn; obtain⟨m,rfl⟩:∃m,n=m+1:=⟨n-1,by omega⟩; exact⟨(TyOk.bool r).validT hf.hd hr,.inr (.inl rfl)⟩
 | list r t h ih=>intro hr n hn; obtain⟨m,rfl⟩:∃m,n=m+1:=⟨n-1,by omega⟩; exact⟨(TyOk.list r t h).validT hf.hd hr,.inr (.inr (.inl ⟨rfl,t,rfl,ih (by omega) m (by omega)⟩))⟩
 | dfn r k h h1 h2 h3 h4 ih =>
  intro hr n hn;obtain⟨m,rfl⟩:∃m,n=m+1:=⟨n-1,by omega⟩;obtain⟨hd,hdm⟩:=hf.at_ k h;have e1:(dfn P hs[k].id).kind=hs[k].kind:=congrArg Hd.kind hd;have e2:(dfn P hs[k].id).slots=hs[k].slots:=congrArg Hd.slots hd;have hs':=hf.slots _ hdm;have hkd:hs[k].kind=0∨hs[k].kind=1:=by omega
  refine⟨(TyOk.dfn r k h h1 h2 h3 h4).validT hf.hd hr,.inr (.inr (.inr ⟨rfl,?_⟩))⟩;simp only[Typ.id_mk];refine⟨by rw[e1]; exact hkd,hs'.1,hs'.2.2.1 (by rw[e1]; exact hkd),fun s hs''=>?_⟩;rw[e2]at hs'';exact ih s hs'' (by omega) m (by omega)
theorem zTh {P:Prg}{hs:List Hd}(hf:Fit P hs){r:Nat}{t:Typ}(h:TyOk hs r t):r<24→∀n,r<n→Wz P n t:=by
 induction h with
 | int r=>intro hr n hn; obtain⟨m,rfl⟩:∃m,n=m+1:=⟨n-1,by omega⟩; exact⟨(TyOk.int r).validT hf.hd hr,.inl rfl⟩
 | bool r=>intro hr n hn; obtain⟨m,rfl⟩:∃m,n=m+1:=⟨n-1,by omega⟩; exact⟨(TyOk.bool r).validT hf.hd hr,.inr (.inl rfl)⟩
 | list r t h ih=>intro hr n hn; obtain⟨m,rfl⟩:∃m,n=m+1:=⟨n-1,by omega⟩; exact⟨(TyOk.list r t h).validT hf.hd hr,.inr (.inr (.inl rfl))⟩
 | dfn r k h h1 h2 h3 h4 ih =>
  intro hr n hn;obtain⟨m,rfl⟩:∃m,n=m+1:=⟨n-1,by omega⟩;obtain⟨hd,hdm⟩:=hf.at_ k h;have e1:(dfn P hs[k].id).kind=hs[k].kind:=congrArg Hd.kind hd;have e2:(dfn P hs[k].id).slots=hs[k].slots:=congrArg Hd.slots hd;have hs':=hf.slots _ hdm;have hkd:hs[k].kind=0∨hs[k].kind=1:=by omega
  refine⟨(TyOk.dfn r k h h1 h2 h3 h4).validT hf.hd hr,.inr (.inr (.inr ⟨rfl,?_⟩))⟩;simp only[Typ.id_mk];refine⟨by rw[e1]; exact hkd,hs'.1,hs'.2.2.1 (by rw[e1]; exact hkd),fun s hs''=>?_⟩;rw[e2]at hs'';exact ih s hs'' (by omega) m (by omega)
theorem zG9 {P:Prg}:∀{ts:List Typ} {vs:List Val},zAG P ts vs=true→∀(j:Nat) (h1:j<ts.length) (h2:j<vs.length),zBq P ts[j] vs[j]=true
 | t::ts,v::vs,h,j,h1,h2=>by
  rw[zAG,jA6]at h;cases j with
  | zero=>exact h.1
  | succ j=>exact zG9 h.2 j (by simpa using h1) (by simpa using h2)
theorem zS4 {P:Prg}{hs:List Hd}(hf:Fit P hs){r:Nat}{t:Typ}(h:TyOk hs r t):∀v,zBq P t v=true→TyV P t v:=by
 induction h with
 | int r =>
  intro v hv;rw[zC7]at hv;simp at hv;obtain⟨_,⟨⟨h1,h2⟩,h3⟩,h4⟩:=hv;obtain⟨k,n,l⟩:=v;simp only[Val.k,Val.n,Val.kids]at h1 h2 h3 h4;subst h1 h2;exact .int n h3 h4
 | bool r =>
  intro v hv;rw[zC7]at hv;simp at hv;obtain⟨_,⟨h1,h2⟩,h3⟩:=hv;obtain⟨k,n,l⟩:=v;simp only[Val.k,Val.n,Val.kids]at h1 h2 h3;subst h1 h2;exact .bool n h3
 | list r t h ih =>
  intro v hv;rw[zC7]at hv;simp at hv;obtain⟨_,⟨h1,h2⟩,h3⟩:=hv;obtain⟨k,n,l⟩:=v;simp only[Val.k,Val.n,Val.kids]at h1 h2 h3;subst h1 h2;exact .list _ _ fun x hx=>ih x (h3 x hx)
 | dfn r k h h1 h2 h3 h4 ih =>
  intro v hv;obtain⟨d,hd,hhd⟩:=hf.hd k h;have e1:d.kind=hs[k].kind:=congrArg Hd.kind hhd;have e2:d.slots=hs[k].slots:=congrArg Hd.slots hhd;have ed:dfn P hs[k].id=d:=by simp[dfn,hd]
  rw[zC7]at hv;simp only[Typ.k_mk,Typ.id_mk,ed]at hv;obtain⟨kk,n,l⟩:=v;by_cases hk:d.kind=1
  ·simp[hk,Val.k,Val.n,Val.kids]at hv;obtain⟨_,⟨⟨⟨g1,g2⟩,g3⟩,g4⟩,g5⟩:=hv;replace g1:=of_decide_eq_true g1;replace g2:=of_decide_eq_true g2;replace g3:=of_decide_eq_true g3;replace g4:=of_decide_eq_true g4;obtain⟨x,rfl⟩:=List.length_eq_one_iff.1 g4;obtain⟨j,rfl⟩:∃j:Nat,n=j:=⟨n.toNat,by omega⟩;have hj:j<d.slots.length:=by omega
   rw[jD,jA2 hj,jBs,zEj]at g5;subst g1;exact .case _ d j x hd hk hj (ih d.slots[j] (by rw[←e2]; exact jA0 hj) x g5)
  ·simp[hk,Val.k,Val.n,Val.kids]at hv;obtain⟨_,⟨⟨g1,g2⟩,g3⟩,g4⟩:=hv;replace g1:=of_decide_eq_true g1;replace g2:=of_decide_eq_true g2;replace g3:=of_decide_eq_true g3;subst g1 g2;refine .record _ d l hd (by omega) g3 fun j hj=>?_
   have hjd:j<d.slots.length:=by omega
   have:=zG9 g4 j (by simpa using hjd) hj;rw[jAr]at this;exact ih d.slots[j] (by rw[←e2]; exact jA0 hjd) l[j] this
structure InvX (I:XS→Prop):Prop where
 tick:∀e s,I s→¬s.fuel≤0→I (zCe e s)
 dfn:∀(d:Id) s,I s→I {s with ds:=s.ds++[d]}
 fail:∀(x:Int) s,I s→I {s with fail:=x}
section
variable {p:Prg}{ev:Evl}{I:XS→Prop}
theorem zFI (h:∀e V s,I s→I (ev e V s).2)(V:List EVar):∀(l:List Exp) (s:XS),I s→I (qP ev V l s).2
 | [],s,hs=>hs
 | e::l,s,hs=>by simp only[qP]; exact zFI h V l _ (h e V s hs)
theorem zGA (h:∀e V s,I s→I (ev e V s).2)(V:List EVar)(i:Id)(b:Exp):∀(l:List Val) (r:Val×XS),I r.2→I (jY ev V i b l r).2
 | [],r,hs=>hs
 | e::l,r,hs=>by simp only[jY]; exact zGA h V i b l _ (h _ _ _ hs)
theorem zG3 (hI:InvX I)(h:∀e V s,I s→I (ev e V s).2)(d:Dfn)(vs:List Val)(s:XS)(hs:I s):I (zAX ev d vs s).2:=by
 unfold zAX;split
 ·exact hs
 ·exact h _ _ _ (hI.dfn d.id s hs)
theorem zOG (h:∀e V s,I s→I (ev e V s).2)(e:Exp)(V:List EVar)(s:XS)(hs:I s):I (jI ev e V s).2:=by
 unfold jI;have h0:=h (e.kids.headD .zero) V s hs;generalize ev (e.kids.headD .zero) V s=r at *
 repeat' split
 all_goals first
  | exact h0
  | exact h _ _ _ h0
  | exact zGA h _ _ _ _ _ (h _ _ _ h0)
theorem zMh (hI:InvX I)(h:∀e V s,I s→I (ev e V s).2)(fl:Nat)(e:Exp)(V:List EVar)(s:XS)(hs:I s):I (qH p fl ev e V s).2:=by
 unfold qH;have h0:=zFI h V e.kids s hs;generalize qP ev V e.kids s=r at *
 repeat' split
 all_goals first
  | exact hs
  | exact h0
  | exact zOG h _ _ _ hs
  | exact zG3 hI h _ _ _ h0
theorem zDD (hI:InvX I)(fl:Nat):∀(n:Nat) e V s,I s→I (zAA p fl n e V s).2
 | 0,e,V,s,hs=>by
  rw[zAA];split
  ·exact hs
  ·exact hI.fail _ _ hs
 | n+1,e,V,s,hs=>by
  rw[zAA];split
  ·exact hs
  ·split
   ·exact hI.fail _ _ hs
   ·rename_i h;have:=zMh (p:=p) hI (zDD hI fl n) fl e V _ (hI.tick e s hs h);show I (zCP _);unfold zCP;split
    ·exact hI.fail _ _ this
    ·exact this
def Fu (F:Int)(s:XS):Prop:=0≤s.fuel∧s.fuel≤F
theorem zLf (F:Int):InvX (Fu F) :=
 ⟨fun e s h hf=>⟨by unfold zCe; dsimp only; omega,by unfold zCe; have:=h.2; dsimp only; omega⟩,fun d s h=>h,fun x s h=>h⟩
theorem zK3 (h:zHG ev)(V:List EVar):∀(l:List Exp) (s:XS) (i k:Nat),i≤k→(qP ev V (l.take k) s).2.fail=0→(qP ev V (l.take i) s).2.fail=0
 | [],s,i,k,_,h0=>by simpa using h0
 | e::l,s,0,k,_,h0=>by
  by_cases hs:s.fail=0
  ·simpa [qP] using hs
  ·rw[zG0 h V _ _ hs]at h0;exact(hs h0).elim
 | e::l,s,i+1,0,hik,h0=>by omega
 | e::l,s,i+1,k+1,hik,h0=>by simp only[jCr,qP]at h0 ⊢;exact zK3 h V l _ i k (by omega) h0
theorem zK2 (h:zHG ev)(V:List EVar):∀(l:List Exp) (s:XS),s.fail=0→(qP ev V l s).2.fail≠0 →
 ∃(k:Nat) (hk:k<l.length),(qP ev V (l.take k) s).2.fail=0∧(ev l[k] V (qP ev V (l.take k) s).2).2=(qP ev V l s).2
 | [],s,hs,hf=>(hf hs).elim
 | e::l,s,hs,hf=>by
  by_cases h0:(ev e V s).2.fail=0
  ·simp only[qP]at hf;obtain⟨k,hk,h1,h2⟩:=zK2 h V l _ h0 hf;exact⟨k+1,by simpa using hk,by simpa only[jCr,qP] using h1,by simpa only[jCr,qP,jDy] using h2⟩
  ·refine⟨0,by simp,hs,?_⟩;simp only[List.take_zero,qP,jDc];rw[zG0 h V l _ h0]
theorem zIT (h:zHG ev)(V:List EVar)(x:Id)(b:Exp):∀(l:List Val) (r:Val×XS) (i k:Nat),i≤k→(jY ev V x b (l.take k) r).2.fail=0→(jY ev V x b (l.take i) r).2.fail=0
 | [],r,i,k,_,h0=>by simpa using h0
 | v::l,r,0,k,_,h0=>by
  by_cases hs:r.2.fail=0
  ·simpa [jY] using hs
  ·rw[zDL h V _ _ _ _ hs]at h0;exact(hs h0).elim
 | v::l,r,i+1,0,hik,h0=>by omega
 | v::l,r,i+1,k+1,hik,h0=>by simp only[jCr,jY]at h0 ⊢;exact zIT h V x b l _ i k (by omega) h0
theorem zJO (h:zHG ev)(V:List EVar)(x:Id)(b:Exp):∀(l:List Val) (r:Val×XS),r.2.fail=0→(jY ev V x b l r).2.fail≠0 →
 ∃(k:Nat) (_:k<l.length),(jY ev V x b (l.take k) r).2.fail=0∧(jY ev V x b (l.take (k+1)) r).2=(jY ev V x b l r).2
 | [],r,hs,hf=>(hf hs).elim
 | v::l,r,hs,hf=>by
  simp only[jY]at hf;by_cases h0:(ev b (V++[⟨x,0,v⟩]++[⟨x,1,r.1⟩]) r.2).2.fail=0
  ·obtain⟨k,hk,h1,h2⟩:=zJO h V x b l _ h0 hf;exact⟨k+1,by simpa using hk,by simpa only[jCr,jY] using h1,by simpa only[jCr,jY] using h2⟩
  ·refine⟨0,by simp,hs,?_⟩;simp only[jB0,jCr,List.take_zero,jY];rw[zDL h V _ _ _ _ h0]
end
@[simp] theorem qPO:zA prog 19=true:=by kernel_rfl
def txt (c:UInt8)(x:Int):ByteArray:=⟨#[c]⟩++strOfNums [IntKind.u8.wrap (IntKind.i64.wrap (97+x.tmod 26))]
@[simp] theorem qF3 {x:Int}:zGd [.lit (.int .u8 x)]=some [x]:=rfl
def qQ6 (x:Int):ByteArray:=[(⟨#[108,101,102,116]⟩:ByteArray),⟨#[114,105,103,104,116]⟩,⟨#[110,111,114,116,104]⟩,⟨#[115,111,117,116,104]⟩].getD (x.tmod 4).toNat ⟨#[]⟩
def qDq (m:Md):List A:=[.lit (.int .i64 m.id.a),.lit (.int .i64 m.id.b),.lit (.int .i64 m.id.c),.lit (.string m.name),.sl m.uses.length (qE m.uses),.nil]
def zID (l:List Md):List A:=l.flatMap qDq
@[simp] theorem qDe (l:List Md):(zID l).length=l.length*6:=by rw[zID,zBD (k:=6) (fun _=>rfl)]
@[simp] theorem qGw {rf g}(l:List Md):vwL rf g (zID l)=zID l:=by
 induction l with
 | nil=>rfl
 | cons m l ih =>
  have e:zID (m::l)=qDq m++zID l:=rfl;rw[e,zMk,ih];simp[qDq]
theorem zIn (a b:List A):jK (a++b)=jK a++jK b:=by
 induction a with
 | nil=>simp
 | cons x a ih=>simp[ih]
def qQX (n:Int)(k:Nat)(s:Slt):Slt:={s with name:=txt 115 (IntKind.i64.wrap (k+n))}
def slN (n:Int)(l:List Slt)(j:Nat):List Slt:=l.mapIdx fun k s=>if k<j then qQX n k s else s
@[simp] theorem qNg (n:Int)(l:List Slt)(j:Nat):(slN n l j).length=l.length:=by simp[slN]
def qQW (n:Int)(len:Nat)(md:Id)(i:Nat)(d:Dfn):Dfn :=
 ⟨d.id,d.kind,md,txt 122 (IntKind.i64.wrap (i+n)),slN n d.slots d.slots.length,d.res,zOj (txt 118 n) d.body,IntKind.i64.wrap (len-i),[⟨#[35,32,120,10]⟩]⟩
def qBZ (n:Int)(md:Id)(ds:List Dfn):List Dfn:=ds.mapIdx fun i d=>qQW n ds.length md i d
@[simp] theorem qFT (n:Int)(md:Id)(ds:List Dfn):(qBZ n md ds).length=ds.length:=by simp[qBZ]
def mcN:Nat→Nat
 | 0=>1
 | f+1=>1+3*mcN f
theorem zJs {g:Typ→Int→Val×Int}{c:Nat}:∀(l:List Typ) (a:Int),(∀t∈l,∀b,qI (g t b).1≤c)→qY (zBl g l a).1≤l.length*c
 | [],a,_=>by simp[zBl,qY]
 | t::l,a,h=>by
  have h1:=h t (by simp) a;have h2:=zJs l (g t a).2 fun x hx b=>h x (by simp[hx]) b
  simp only[zBl,qY,jAd,jBk,Nat.one_mul];omega
theorem zGG (p:Prg)(l:List Int)(hl:∀x∈l,w64 x=x):∀(f:Nat) (t:Typ) (a d:Int),Wf p f t→qI (yN p l f t a d).1≤mcN f
 | 0,t,a,d,h=>h.elim
 | f+1,t,a,d,h=>by
  unfold Wf at h;obtain⟨_,h⟩:=h;have hx:=yM (i:=a) hl (show (0:Int)<1048576 by omega);unfold mcN;by_cases h0:t.k=0
  ·rw[yN,if_pos h0]; simp[qI,qY]
  by_cases h1:t.k=1
  ·rw[yN,if_neg h0,if_pos h1]; simp[qI,qY]
  by_cases h2:t.k=2
  ·obtain⟨_,x,hx1,hx2⟩:=h.resolve_left h0|>.resolve_left h1|>.resolve_right (fun e=>by omega);rw[yN,if_neg h0,if_neg h1,if_pos h2];have hkid:t.kids.headD Typ.zero=x:=by rw[hx1]; rfl
   rw[hkid];have hq:(if 3<d then 0 else ((atV l a 1048576).tmod 3).toNat)≤3:=by
    split
    ·omega
    ·have:=Int.tmod_lt_of_pos (atV l a 1048576) (show (0:Int)<3 by omega);omega
   generalize (if 3<d then 0 else ((atV l a 1048576).tmod 3).toNat)=q at hq;have:=zJs (g:=fun t b=>yN p l f t b (w64 (d+1))) (c:=mcN f) (List.replicate q x) (w64 (a+1)) fun y hy b=>by rw[List.eq_of_mem_replicate hy];exact zGG p l hl f x b _ hx2
   rw[List.length_replicate]at this;have:q*mcN f≤3*mcN f:=jBl _ hq;simp only[qI];omega
  obtain⟨_,_,_,g3,g4⟩:=h.resolve_left h0|>.resolve_left h1|>.resolve_left (fun e=>h2 e.1);by_cases hk:(dfn p t.id).kind=1
  ·rw[yN,if_neg h0,if_neg h1,if_neg h2,if_pos hk];have key:∀y:Typ,y=Typ.zero∨Wf p f y→qI (yN p l f y (w64 (a+1)) (w64 (d+1))).1≤3*mcN f:=by
    intro y hy;rcases hy with rfl | hy
    ·cases f with
     | zero=>simp[yN,qI,qY,mcN]
     | succ f=>rw[yN,if_pos (by rfl)]; simp[qI,qY,mcN]; omega
    ·have:=zGG p l hl f y (w64 (a+1)) (w64 (d+1)) hy;omega
   have:=key (((dfn p t.id).slots.map Slt.typ).getD ((atV l a 1048576).tmod (dfn p t.id).slots.length).toNat Typ.zero) (by
    rw[jC5,jBd];cases hg:(dfn p t.id).slots[((atV l a 1048576).tmod (dfn p t.id).slots.length).toNat]? with
    | none=>left; rfl
    | some s=>right; exact g4 s (jBt hg))
   simp only[qI,qY];omega
  ·rw[yN,if_neg h0,if_neg h1,if_neg h2,if_neg hk];have:=zJs (g:=fun t b=>yN p l f t b (w64 (d+1))) (c:=mcN f) ((dfn p t.id).slots.map Slt.typ) (w64 (a+1)) fun y hy b=>by obtain⟨s,hs,rfl⟩:=jAi.1 hy;exact zGG p l hl f s.typ b _ (g4 s hs)
   rw[jAa]at this;have:(dfn p t.id).slots.length*mcN f≤3*mcN f:=jBl _ g3;simp only[qI];omega
theorem zFP:∀{l:List Val} {c:Nat},(∀v∈l,zAK v≤c)→zAh l≤c
 | [],c,_=>by simp[zAh]
 | v::l,c,h=>by
  have h1:=h v (by simp);have h2:=zFP (l:=l) (c:=c) fun x hx=>h x (by simp[hx])
  simp only[zAh];omega
theorem zMq (p:Prg):∀(f:Nat) (t:Typ),zAK (zAH p f t)≤f+1
 | 0,t=>by simp[zAH,zAK,zAh]
 | f+1,t=>by
  unfold zAH;have hm:∀v∈(dfn p t.id).slots.map fun s=>zAH p f s.typ,zAK v≤f+1:=fun v hv=>by obtain⟨s,_,rfl⟩:=jAi.1 hv;exact zMq p f s.typ
  split
  ·simp[zAK,zAh]
  ·split
   ·simp[zAK,zAh]
   ·split
    ·simp[zAK,zAh]
    ·split
     ·simp only[zAK];have:=zFP (l:=((dfn p t.id).slots.map fun s=>zAH p f s.typ).take 1) fun v hv=>hm v (jBa hv)
      omega
     ·simp only[zAK];have:=zFP hm;omega
theorem zQ3 {p:Prg}{l:List Int}(hl:∀x∈l,w64 x=x){t:Typ}(hf:Wf p 10 t)(hz:Wz p 5 t):qI (zDU p t l)≤256∧zAK (zDU p t l)≤24:=by
 unfold zDU;have hm:=zGG p l hl 10 t 0 1 hf;have:mcN 10=88573:=by decide
 split
 ·have h1:=zGR p 5 t hz;have h2:=zMq p 5 t;have:zcN 5=121:=by decide
  exact⟨by omega,by omega⟩
 ·rename_i h;have h1:=zJv (yN p l 10 t 0 1).1 (by omega);have h2:=zKN (yN p l 10 t 0 1).1 (by omega);exact⟨by omega,by omega⟩
def zDq (p:Prg)(d:Dfn)(l:List Int):List Val:=d.slots.mapIdx fun i s=>zDU p s.typ (l.drop (min (7*i) l.length))
theorem zTn (p:Prg)(d:Dfn)(l:List Int):(zDq p d l).length=d.slots.length:=by simp[zDq]
theorem zOD {p:Prg}{hs:List Hd}(hf:Fit p hs){d:Dfn}(hd:d∈p.defs){l:List Int}(hl:∀x∈l,w64 x=x):∀v∈zDq p d l,qI v≤256∧zAK v≤24:=fun v hv=>by simp only[zDq,List.mem_mapIdx]at hv;obtain⟨i,hi,rfl⟩:=hv;have ht:=(hf.slots d hd).2.2.2.2 _ (jA0 hi);exact zQ3 (fun x hx=>hl x (jBq hx)) (zTg hf ht (by omega) 10 (by omega)) (zTh hf ht (by omega) 5 (by omega))
theorem zLh (l:List Int)(n:Nat):(yH l).drop n=yH (l.drop n):=by simp[yH]
def qHz:K:=G [kO 3 0,kO 4 1,kMn 6] (G [kMn 7] (Z (G [kMi 8 0] (K.block 0 (K.loop (Z (G [M 9 8,D 10 4 8,L 11 10 1,kN 12 11,kB 13 9 12 .lss] (Y 13 ks (K.exit 0))) (Z (K.block 1 (K.dops [(0,0,M 16 7),(1,0,J 17 3 2),(2,0,D 18 4 8),(3,0,L 19 18 1),(4,0,M 20 8),(5,0,kX 21 19 20 11),(6,0,D 22 21 4),(7,0,J 23 22 5),(8,0,M 24 2),(9,0,M 25 8),(10,0,⟨none,.bin (some 26) .mul (kc 7) (kt 25)⟩),(11,0,M 27 2),(12,0,kN 28 27),(13,0,⟨none,.mm (some 29) false [(kt 26),(kt 28)]⟩),(14,0,⟨none,.slc (some 30) (kt 24) 1 (some (kt 29)) none none⟩),(15,0,kC 31 87 [(kt 17),(kt 23),(kt 30)]),(16,0,kd 32 47 3 1 [ki,ki,kl] [(0,3,(kt 31))]),(17,0,kP 33 47 3 40 16 32),(18,0,M 7 33)])) (K.ops [M 14 8,kBi 15 14 1 .add,M 8 15])))))) (G [M 34 7,M 6 34] kr)))
theorem qOv:zL prog Tryz.f38.ntmps (Tryz.f38.body.getD .skip)=some qHz.erase:=by kernel_rfl
@[simp] theorem qP1:zA prog 38=true:=by kernel_rfl
theorem zYm {p:Prg}{hs:List Hd}(hf:Fit p hs){d:Dfn}(hd:d∈p.defs)(l:List Int)(hl:∀x∈l,w64 x=x) :
 Ret prog 38 [.agg (zS p),.agg (zO d),.sl l.length (yH l)] [] (.sl (zDq p d l).length (zV (zDq p d l))) []:=by
 have hL8:=hf.len8;obtain⟨_,s6,_,_,sty⟩:=hf.slots d hd;have hlen:=zTn p d l;refine zK Tryz.func38 rfl qOv (rs:=[.slot 6]) (by kernel_rfl) ?_;unfold qHz;simp[zS,zO];refine qW (S:=Nat) (fun i=>[(2,.sl l.length (yH l)),(3,.ptr 0 0),(4,.ptr 1 0),(7,.row 2 i),(8,int i)]) (fun i=>[.box (zS p),.box (zO d),.row false 47 3 i (zV ((zDq p d l).take i))]) (fun i=>i≤d.slots.length) (fun i=>d.slots.length-i) 0 (by simp)
  ((yG (t:=7) (by simp) 47 3).trans (zR [0,1,2] 0 (by decide) (by simp) (by simp[zS,zO]) (by simp))) ?_
 intro i hi;have hw:=zAk i (by omega);by_cases hil:i<d.slots.length
 ·have hia:i<(zDq p d l).length:=by omega
  have ht:=sty _ (jA0 hil);have hv:=zXU p (by omega) (l.drop (min (7*i) l.length)) (fun x hx=>hl x (jBq hx)) d.slots[i].typ (zTg hf ht (by omega) 10 (by omega)) (zTh hf ht (by omega) 5 (by omega));have hst:zV ((zDq p d l).take (i+1))=zV ((zDq p d l).take i)++[.lit (.int .i64 (zDU p d.slots[i].typ (l.drop (min (7*i) l.length))).k),.lit (.int .i64 (zDU p d.slots[i].typ (l.drop (min (7*i) l.length))).n),.sl (zDU p d.slots[i].typ (l.drop (min (7*i) l.length))).kids.length (zV (zDU p d.slots[i].typ (l.drop (min (7*i) l.length))).kids)]:=by rw[jA9 hia,zBe];simp[zDq]
  have hw7:IntKind.i64.wrap (7*(i:Int))=((7*i:Nat):Int):=by rw[IntWalk.i64_in _ (by omega)]; omega
  generalize zDU p d.slots[i].typ (l.drop (min (7*i) l.length))=v at hv hst;have hdl:(yH (l.drop (min (7*i) l.length))).take (l.length-min (7*i) l.length)=yH (l.drop (min (7*i) l.length)):=jAk (by simp[yH]);rw[jD6]at hv;obtain⟨q,hq⟩:∃q:Nat,q=7*i:=⟨_,rfl⟩;rw[←hq]at hw7 hv hdl;by_cases hc:l.length<q
  ·have e:min q l.length=l.length:=by omega
   rw[e]at hv hdl;have hc':(l.length:Int)<(q:Int):=by omega
   simp[zS,zO,hil,jU hil,zAu,hw7,hc',zLh]
   intros
   refine qK hv (by simp[zS,zB,yH]) (by simp[zJ]) ?_;simp[zJ];refine⟨⟨by simp[maxLen]; omega,by omega⟩,?_⟩;exact zU (i+1) hil (by omega) (zR [0,1,2] 0 (by decide) (by simp) (by simp[zS,zO,hst]) (by simp[hw]))
  ·have e:min q l.length=q:=by omega
   rw[e]at hv hdl;have hc':¬(l.length:Int)<(q:Int):=by omega
   have hle:q≤l.length:=by omega
   simp[zS,zO,hil,jU hil,zAu,hw7,hc',hle,zLh,hdl]
   intros
   refine qK hv (by simp[zS,zB]) (by simp[zJ]) ?_;simp[zJ];refine⟨⟨by simp[maxLen]; omega,by omega⟩,?_⟩;exact zU (i+1) hil (by omega) (zR [0,1,2] 0 (by decide) (by simp) (by simp[zS,zO,hst]) (by simp[hw]))
 ·have hie:i=d.slots.length:=by omega
  subst hie;have hall:(zDq p d l).take d.slots.length=zDq p d l:=by rw[←hlen]; exact jAp
  rw[hall];simp[zS,zO]
  intros
  exact zC 1 (by simp[hlen])
inductive Nam:Typ→Id→Prop
 | here (t:Typ) (h:t.k=3):Nam t t.id
 | kid (t k:Typ) (x:Id) (h:k∈t.kids) (hx:Nam k x):Nam t x
inductive Rch (p:Prg)(T:Typ→Prop):Id→Prop
 | base (t:Typ) (x:Id) (ht:T t) (hx:Nam t x):Rch p T x
 | step (y:Id) (s:Slt) (x:Id) (hy:Rch p T y) (hs:s∈(dfn p y).slots) (hx:Nam s.typ x):Rch p T x
theorem Rch.mono {p:Prg}{T T':Typ→Prop}{x:Id}(h:Rch p T x)(hT:∀t,T t→T' t):Rch p T' x:=by
 induction h with
 | base t x ht hx=>exact .base t x (hT t ht) hx
 | step y s x _ hs hx ih=>exact .step y s x ih hs hx
theorem Rch.one {p:Prg}{T:Typ→Prop}{x:Id}(h:Rch p T x):∃t,T t∧Rch p (· = t) x:=by
 induction h with
 | base t x ht hx=>exact⟨t,ht,.base t x rfl hx⟩
 | step y s x _ hs hx ih =>
  obtain⟨t,ht,h⟩:=ih;exact⟨t,ht,.step y s x h hs hx⟩
def zAb (p:Prg):Nat→Typ→List Id→List Id
 | 0,_,L=>L
 | f+1,t,L=>if t.k=3∧t.id∉t.kids.foldl (fun L k=>zAb p f k L) L then (dfn p t.id).slots.foldl (fun L s=>zAb p f s.typ L) (t.kids.foldl (fun L k=>zAb p f k L) L++[t.id])
  else t.kids.foldl (fun L k=>zAb p f k L) L
structure Meets (p:Prg)(T:Typ→Prop)(L L':List Id):Prop where
 sub:∀x∈L,x∈L'
 all:∀t x,T t→Nam t x→x∈L'
 clo:∀x∈L',x∉L→∀s∈(dfn p x).slots,∀y,Nam s.typ y→y∈L'
 snd:∀x∈L',x∈L∨Rch p T x
theorem Meets.trans {p:Prg}{T T':Typ→Prop}{L L' L'':List Id}(h:Meets p T L L')(k:Meets p T' L' L''):Meets p (fun t=>T t∨T' t) L L'':=by
 refine⟨fun x hx=>k.sub x (h.sub x hx),fun t x ht hx=>?_,fun x hx hn s hs y hy=>?_,fun x hx=>?_⟩
 ·rcases ht with ht | ht
  ·exact k.sub x (h.all t x ht hx)
  ·exact k.all t x ht hx
 ·by_cases hx':x∈L'
  ·exact k.sub y (h.clo x hx' hn s hs y hy)
  ·exact k.clo x hx hx' s hs y hy
 ·rcases k.snd x hx with hx | hx
  ·rcases h.snd x hx with hx | hx
   ·exact .inl hx
   ·exact .inr (hx.mono fun _ h=>.inl h)
  ·exact .inr (hx.mono fun _ h=>.inr h)
theorem Meets.congr {p:Prg}{T T':Typ→Prop}{L L':List Id}(h:Meets p T L L')(hT:∀t,T t↔T' t):Meets p T' L L' :=
 ⟨h.sub,fun t x ht hx=>h.all t x ((hT t).2 ht) hx,h.clo,fun x hx=>(h.snd x hx).imp (fun h=>h) fun h=>h.mono fun t=>(hT t).1⟩
def zBt (p:Prg)(ss:List Slt)(L:List Id):List Id:=ss.foldl (fun L s=>zAb p 10 s.typ L) L
mutual
def zPA:Typ→List Id→List Id
 | .mk k x l,L=>zLu l (if k=3 then zFE L x else L)
def zLu:List Typ→List Id→List Id
 | [],L=>L
 | t::l,L=>zLu l (zPA t L)
end
mutual
theorem zPB:∀(t:Typ) (L:List Id) (x:Id),x∈zPA t L↔x∈L∨Nam t x
 | .mk k y l,L,x=>by
  rw[zPA,zNv l];constructor
  ·rintro(h | ⟨t,ht,h⟩)
   ·split at h
    ·rename_i hk;rcases zE7.1 h with h | h
     ·exact .inl h
     ·subst h; exact .inr (.here (.mk k x l) hk)
    ·exact .inl h
   ·exact .inr (.kid (.mk k y l) t x ht h)
  ·rintro(h | h)
   ·left;split
    ·exact zE7.2 (.inl h)
    ·exact h
   ·generalize hT:Typ.mk k y l=T at h;cases h with
    | here _ h =>
     subst hT;left;show y∈_;rw[if_pos (show k=3 from h)];exact zE7.2 (.inr rfl)
    | kid _ t _ ht hx =>
     subst hT;exact .inr ⟨t,ht,hx⟩
theorem zNv:∀(l:List Typ) (L:List Id) (x:Id),x∈zLu l L↔x∈L∨∃t∈l,Nam t x
 | [],L,x=>by simp[zLu]
 | t::l,L,x=>by rw[zLu,zNv l,zPB t];simp only[jA3,exists_eq_or_imp,or_assoc]
end
mutual
theorem zSJ:∀(t:Typ) (L:List Id),SS L→SS (zPA t L)
 | .mk k y l,L,h=>by
  rw[zPA];refine zPC l _ ?_;split
  ·exact zOh h
  ·exact h
theorem zPC:∀(l:List Typ) (L:List Id),SS L→SS (zLu l L)
 | [],L,h=>h
 | t::l,L,h=>by rw[zLu]; exact zPC l _ (zSJ t L h)
end
def namS (ss:List Slt)(L:List Id):List Id:=ss.foldl (fun L s=>zPA s.typ L) L
@[simp] theorem qLO:zA prog 4=true:=by kernel_rfl
theorem PrgOk.fine {l:List Int}(hl:∀x∈l,w64 x=x){P:Prg}(h:PrgOk l P):FineP P∧5≤P.defs.length∧P.defs.length≤8∧0<P.mods.length:=by
 obtain⟨hnm,hnm2⟩:=zOl l hl;have m1:1≤(nmV l:Int):=by omega
 have m2:(nmV l:Int)≤2:=by omega
 obtain⟨n5,n8⟩:=zAE l (nmV l:Int);have hlen:P.defs.length=(qC l (nmV l)).length:=by have:=congrArg List.length h.heads; simpa using this
 have hml:0<P.mods.length∧P.mods.length≤2:=by rw[h.mods,zIl];split<;>simp
 obtain⟨base,_,hb⟩:=h.bodies;have key:∀d∈P.defs,FineD d:=fun d hd=>by
  obtain⟨k,hk,rfl⟩:=jAh hd;have hg:P.defs[k]?=some P.defs[k]:=jA2 hk;obtain⟨_,e1,e6,_⟩:=zHv m1 m2 hl (i:=k) (d:=P.defs[k]) (by rw[←h.heads,jBd,hg]; rfl) 0;rw[zFU]at e1 e6;rcases hb k _ hg with ⟨_,h2,_⟩ | ⟨_,e,f,hr,_⟩
  ·exact⟨e1,e6,by rw[h2]; exact zUn,by rw[h2]; simp[Exp.zero,tmps,jL]⟩
  ·have:=zQe f e (qAp hr.wt);exact⟨e1,e6,by rw[hr.body]; exact this.1,by rw[hr.body,this.2]; exact hr.len⟩
 exact⟨FineP.mk' (by omega) (by omega) key,by omega,by omega,hml.1⟩
def zHn (l:List Prg):List A:=l.flatMap zS
theorem zQZ (p:Prg):jM (zS p):=by have h1:=zES p.mods;have h2:=zEP p.defs;exact⟨by simp[zS,h1.1],fun rf g=>by simp[zS,h1.2]⟩
theorem zHR (l:List Prg):jM (zHn l):=zBg zQZ l
@[simp] theorem qBN (l:List Prg):jK (zHn l)=zHn l:=(zHR l).1
@[simp] theorem qGv {rf g}(l:List Prg):vwL rf g (zHn l)=zHn l:=(zHR l).2 _ _
@[simp] theorem qDd (l:List Prg):(zHn l).length=l.length*2:=by rw[zHn,zBD (k:=2) (fun _=>rfl)]
def zFA (ds:List Dfn)(n:Nat):List Nat:=(List.range n).filter fun i=>match ds[i]? with | some d=>zAI d.kind | none=>false
def zC9 (l:List Nat):List A:=l.map fun(i:Nat)=>A.lit (.int .i64 (i:Int))
@[simp] theorem qDW (l:List Nat):jK (zC9 l)=zC9 l:=by
 have:zC9 l=yH (l.map fun(i:Nat)=>(i:Int)):=by simp[zC9,yH,Function.comp_def]
 rw[this]; simp
@[simp] theorem qLt {rf:Bool→Nat→Nat→A}{g:Nat→Option Nat}(l:List Nat):vwL rf g (zC9 l)=zC9 l:=by
 have:zC9 l=yH (l.map fun(i:Nat)=>(i:Int)):=by simp[zC9,yH,Function.comp_def]
 rw[this]; simp
@[simp] theorem qFv (l:List Nat):(zC9 l).length=l.length:=by simp[zC9]
theorem zRu {l:List Nat}{i:Nat}(h:i<l.length):(zC9 l).drop i=int l[i]::zC9 (l.drop (i+1)):=by rw[zC9,←List.map_drop,jB8 h]; rfl
theorem zRv (l:List Nat)(i:Nat):zC9 (l++[i])=zC9 l++[A.lit (.int .i64 (i:Int))]:=by simp[zC9]
theorem zTp {ds:List Dfn}{n:Nat}(h:n<ds.length):zFA ds (n+1)=if zAI ds[n].kind then zFA ds n++[n] else zFA ds n:=by unfold zFA;rw[List.range_succ,jDi,List.filter_cons,List.filter_nil,jA2 h];cases hb:zAI ds[n].kind<;>simp[hb]
theorem zKC (ds:List Dfn)(n:Nat):(zFA ds n).length≤n:=by
 have:=jBu (fun i=>match ds[i]? with | some d=>zAI d.kind | none=>false) (List.range n)
 simpa [zFA] using this
theorem zV3 {ds:List Dfn}{n i:Nat}(h:i∈zFA ds n):∃hi:i<ds.length,zAI ds[i].kind=true:=by
 unfold zFA at h;rw[List.mem_filter]at h;have h2:=h.2;cases hg:ds[i]? with
 | none=>rw[hg]at h2; cases h2
 | some d =>
  rw[hg]at h2;obtain⟨a,b⟩:=jA4.1 hg;exact⟨a,by rw[b]; exact h2⟩
def qH0:K:=G [kO 1 0,kMn 2] (G [kMn 3] (Z (G [kMi 4 0] (K.block 0 (K.loop (Z (G [M 5 4,D 6 1 1,L 7 6 1,kN 8 7,kB 9 5 8 .lss] (Y 9 ks (K.exit 0))) (Z (K.block 1 (G [D 12 1 1,L 13 12 1,M 14 4,kX 15 13 14 31,J 16 15 31,kC 17 25 [(kt 16)]] (Y 17 (K.ops [M 18 3,M 19 4,kd 20 3 1 1 [ki] [(0,1,(kt 19))],kP 21 3 1 8 18 20,M 3 21]) ks))) (K.ops [M 10 4,kBi 11 10 1 .add,M 4 11])))))) (G [M 22 3,M 2 22] kr)))
theorem qOw:zL prog Tryz.f27.ntmps (Tryz.f27.body.getD .skip)=some qH0.erase:=by kernel_rfl
@[simp] theorem qP2:zA prog 27=true:=by kernel_rfl
theorem zLC {p:Prg}{hs:List Hd}(hf:Fit p hs):Ret prog 27 [.agg (zS p)] [] (.sl (zFA p.defs p.defs.length).length (zC9 (zFA p.defs p.defs.length))) []:=by
 have hL8:=hf.len8;refine zK Tryz.func27 rfl qOw (rs:=[.slot 2]) (by kernel_rfl) ?_;unfold qH0;have h0:zFA p.defs 0=[]:=rfl;have h00:zC9 []=[]:=rfl;simp[zS];refine qW (S:=Nat) (fun i=>[(1,.ptr 0 0),(3,.row 1 (zFA p.defs i).length),(4,int i)]) (fun i=>[.box (zS p),.row false 3 1 (zFA p.defs i).length (zC9 (zFA p.defs i))]) (fun i=>i≤p.defs.length) (fun i=>p.defs.length-i) 0 (by simp)
  ((yG (t:=3) (by simp) 3 1).trans (zR [0,1] 0 (by decide) (by simp) (by simp[zS,h0,h00]) (by simp[h0]))) ?_
 intro i hi;have hw:=zAk i (by omega);have hbl:=zKC p.defs i;by_cases hil:i<p.defs.length
 ·have hst:=zTp hil;have hdr:=yI hil;have hhb:=zS8 p.defs[i];generalize p.defs[i]=d at *
  simp[zS,hil,hdr,zO]
  intros
  refine zT hhb (by simp[zO]) (by simp) ?_;cases hb:zAI d.kind with
  | true =>
   rw[if_pos hb]at hst;simp;refine⟨⟨by simp[maxLen]; omega,by omega⟩,?_⟩;exact zU (i+1) hil (by omega) (zR [0,1] 0 (by decide) (by simp) (by simp[zS,hst,zRv]) (by simp[hw,hst]))
  | false =>
   rw[if_neg (by simp[hb])]at hst;simp;exact zU (i+1) hil (by omega) (zR [0,1] 0 (by decide) (by simp) (by simp[zS,hst]) (by simp[hw,hst]))
 ·have hie:i=p.defs.length:=by omega
  subst hie;simp[zS]
  intros
  exact zC 1 (by simp)
def qHt:K:=G [kO 3 0,kZ 6 kz0,kMn 7,kMb 8 false] (G [J 11 3 2,kC 12 27 [(kt 11)],M 9 12] (Z (G [M 13 9,kN 14 13,kQi 15 14 0 false] (Y 15 (G [kb 16 kz0 [],S 6 16 31,kMn 7,kMb 8 false] kr) ks)) (Z (K.dops [(0,1,D 17 3 1),(1,1,L 18 17 1),(2,0,M 19 9),(3,0,M 20 2),(4,0,M 21 9),(5,1,kN 22 21),(6,1,kC 23 12 [(kt 20),(kt 22)]),(7,1,kX 24 19 23 1),(8,1,L 25 24 1),(9,1,kX 26 18 25 31),(10,1,J 27 26 31),(11,0,kZ 10 kz0),(12,0,S 10 27 31)]) (Z (K.dops [(0,0,J 28 10 31),(1,0,J 29 3 2),(2,0,J 30 10 31),(3,0,M 31 1),(4,0,kC 32 38 [(kt 29),(kt 30),(kt 31)]),(5,0,S 6 28 31),(6,0,M 7 32),(7,0,kMb 8 true)]) kr))))
theorem qOp:zL prog Tryz.f10.ntmps (Tryz.f10.body.getD .skip)=some qHt.erase:=by kernel_rfl
@[simp] theorem qPs:zA prog 10=true:=by kernel_rfl
def ddI (L:List Id)(x:Id):List Id:=if x∈L then L else L++[x]
def ddL (l:List Id):List Id:=l.foldl ddI []
theorem zKM (l:List Id)(x:Id):ddL (l++[x])=ddI (ddL l) x:=by simp[ddL]
theorem zYH {L:List Id}{x y:Id}:y∈ddI L x↔y∈L∨y=x:=by
 unfold ddI;split
 ·rename_i h;constructor
  ·exact .inl
  ·rintro(h' | rfl)
   ·exact h'
   ·exact h
 ·simp
theorem zYI {l:List Id}{y:Id}:y∈ddL l↔y∈l:=by
 induction l using zBK with
 | nil=>simp[ddL]
 | snoc l x ih=>rw[zKM,zYH,ih]; simp
theorem zYG (L:List Id)(x:Id):(ddI L x).length≤L.length+1:=by
 unfold ddI;split
 ·omega
 ·simp
theorem zNS (l:List Id):(ddL l).length≤l.length:=by
 induction l using zBK with
 | nil=>simp[ddL]
 | snoc l x ih=>rw[zKM]; have:=zYG (ddL l) x; simp; omega
theorem zSV (l:List Id):zCz (ddL l)=zCz l:=(zIw _).unique (zIw _) fun x=>by rw[zDR,zDR,zYI]
def zIj (l:List Id):List (List Int×A):=l.map fun x=>(zBz x,.lit (.bool true))
@[simp] theorem qML {rf:Bool→Nat→Nat→A}{g:Nat→Option Nat}(l:List Id):((zIj l).map fun p=>(p.1,vw rf g p.2))=zIj l:=by
 simp only[zIj,jCv];refine jCw fun x _=>?_
 simp
theorem zHx {i:Id}:∀(l:List Id),zAL (zBz i) (zIj l)=if i∈l then some (.lit (.bool true)) else none
 | []=>rfl
 | x::l=>by
  have ih:=zHx (i:=i) l;simp only[zIj,jAj,zAL]at ih ⊢;by_cases h:x=i
  ·simp[h]
  ·have h':¬zBz x=zBz i:=fun e=>h (zFZ.1 e)
   rw[if_neg h',ih];simp[Ne.symm h]
theorem zJo {x:Id}:∀(l:List Id),x∉l→zD7 (zBz x) (.lit (.bool true)) (zIj l)=zIj (l++[x])
 | [],_=>rfl
 | y::l,h=>by
  have ih:=zJo (x:=x) l (fun h'=>h (by simp[h']));have h':¬zBz y=zBz x:=fun e=>h (by simp[zFZ.1 e])
  simp only[zIj,jAj,zD7,h',if_false,jBi]at ih ⊢;rw[ih]
@[simp] theorem qM9 {a:A}:zFY (.bool false) false (some a)=a:=rfl
@[simp] theorem qM8:zFY (.bool false) false none=.lit (.bool false):=rfl
def nS (ds ns:List Id):St:=[.box [.row 2 ds.length,.row 3 ns.length],.box [.map 4],.row false 29 3 ds.length (qE ds),.row false 29 3 ns.length (qE ns),.mp true 3 (zIj ns)]
def qHG:K:=G [kO 5 1] (G [M 6 0] (Y 6 (K.ops [D 7 2 0,L 8 7 1,J 9 5 3,kd 10 29 3 1 [ki,ki,ki] [(0,3,(kt 9))],kP 11 29 3 24 8 10,D 12 2 0,S 12 11 1]) (G [L 13 3 1,J 14 5 3,⟨none,.mop (some 15) (.get 3 (.bool false) false) [(kt 13),(kt 14)]⟩,kR 16 15] (Y 16 (G [L 17 3 1,J 18 5 3,⟨none,.mop none (.set 3) [(kt 17),(kt 18),(.const (.bool true))]⟩] (K.ops [D 19 2 1,L 20 19 1,J 21 5 3,kd 22 29 3 1 [ki,ki,ki] [(0,3,(kt 21))],kP 23 29 3 24 20 22,D 24 2 1,S 24 23 1])) ks))))
theorem qOC:zL prog Tryz.f44.ntmps (Tryz.f44.body.getD .skip)=some qHG.erase:=by kernel_rfl
@[simp] theorem qPV:zA prog 44=true:=by kernel_rfl
theorem zOn (b:Bool)(x:Id)(ds ns:List Id)(hd:ds.length≤1000000)(hn:ns.length≤1000000) :
 Ret prog 44 [bl b,.agg (jF x),.ptr 0 0,.ptr 1 0] (nS ds ns) (.tup []) (nS (if b then ds++[x] else ds) (if b then ns else ddI ns x)):=by
 refine zK Tryz.func44 rfl qOC (rs:=[]) (by kernel_rfl) ?_;unfold qHG;cases b with
 | true =>
  simp[nS,jF];refine⟨⟨by simp[maxLen]; omega,by omega⟩,?_⟩;exact zG [0,1,2,3,4] 0 (by decide) (by simp) (by simp[jS,qE]) (by simp)
 | false =>
  have hf:=zHx (i:=x) ns;simp only[zBz]at hf;by_cases h:x∈ns
  ·rw[if_pos h]at hf;simp[nS,jF,hf];exact zG [0,1,2,3,4] 0 (by decide) (by simp) (by simp[ddI,h]) (by simp)
  ·rw[if_neg h]at hf;have hp:=zJo ns h;simp only[zBz]at hp;simp[nS,jF,hf,hp];refine⟨⟨by simp[maxLen]; omega,by omega⟩,?_⟩;exact zG [0,1,2,3,4] 0 (by decide) (by simp) (by simp[ddI,h,jS,qE]) (by simp)
def tS (p:Prg)(s:XS):St:=[.box (zS p++[int s.fuel,int s.fail,.clo 44 [] [.ptr 1 0,.ptr 2 0]]),.box [.row 3 s.ds.length,.row 4 (ddL s.ns).length],.box [.map 5],
 .row false 29 3 s.ds.length (qE s.ds),.row false 29 3 (ddL s.ns).length (qE (ddL s.ns)),.mp true 3 (zIj (ddL s.ns))]
def rS (p:Prg)(s:XS)(L:List Id):St:=tS p {s with ds:=L}++[.mp true 3 (zIj L)]
structure RL (p:Prg)(L:List Id):Prop where
 nd:L.Nodup
 sub:∀x∈L,x∈p.defs.map Dfn.id
theorem RL.len {p:Prg}{hs:List Hd}(hf:Fit p hs){L:List Id}(h:RL p L):L.length≤8:=by
 have:=h.nd.length_le_of_subset (l₂:=p.defs.map Dfn.id) h.sub;have:=hf.len8;simp at *
 omega
theorem RL.fold {p:Prg} {α : Type}(g : α→List Id→List Id):∀(l:List α) (L:List Id),(∀a∈l,∀L,RL p L→RL p (g a L))→RL p L→RL p (l.foldl (fun L a=>g a L) L)
 | [],L,_,h=>h
 | a::l,L,hg,h=>by rw[jBh];exact RL.fold g l _ (fun b hb=>hg b (by simp[hb])) (hg a (by simp) L h)
theorem zGB {α β : Type}(g : β→α→β)(b : β){l:List α}{i:Nat}(h:i<l.length):(l.take (i+1)).foldl g b=g ((l.take i).foldl g b) l[i]:=by rw[jA9 h,jC3]; rfl
def qHH:K:=G [kO 4 1] (Z (G [D 12 4 4,L 13 12 1,kN 14 13,kMi 15 0] (K.block 0 (K.loop (G [kB 16 15 14 .lss] (Z (Y 16 ks (K.exit 0)) (Z (K.block 1 (G [kX 17 13 15 5,J 18 17 5,kZ 7 kz2,S 7 18 5] (K.ops [M 19 0,J 20 7 5,M 21 2,kC 22 46 [(kt 19),(kt 20),(kt 21)]]))) (K.ops [kBi 23 15 1 .add,M 15 23]))))))) (Z (G [D 24 4 0,L 25 24 1,kQi 26 25 3 true,M 27 26,T 27 false (M 28 2),T 27 false (D 29 4 1),T 27 false (J 30 29 3),⟨some (27,false),.mop (some 31) (.get 3 (.bool false) false) [(kt 28),(kt 30)]⟩,kPt 32 27 31] (Y 32 kr ks)) (G [M 33 2,D 34 4 1,J 35 34 3,⟨none,.mop none (.set 3) [(kt 33),(kt 35),(.const (.bool true))]⟩] (Z (K.dops [(0,0,M 37 0),(1,0,kU 38 37),(2,1,D 39 38 0),(3,1,J 40 39 2),(4,1,D 41 4 1),(5,1,J 42 41 3),(6,1,kC 43 42 [(kt 40),(kt 42)]),(7,0,M 36 43),(8,0,kE 44 36 0),(9,0,kE 45 36 1),(10,0,kZ 8 kz0),(11,0,S 8 44 31),(12,0,M 9 45)]) (G [M 46 9] (Y 46 (Z (K.dops [(0,0,M 47 0),(1,0,kU 48 47),(2,0,D 49 48 4),(3,0,L 50 49 1),(4,0,D 51 8 0),(5,0,J 52 51 3),(6,4,⟨none,.call (some 53) (kt 50) [(.const (.bool true)),(kt 52)]⟩)]) (G [D 54 8 8,L 55 54 1,kN 56 55,kMi 57 0] (K.block 2 (K.loop (G [kB 58 57 56 .lss] (Z (Y 58 ks (K.exit 2)) (Z (K.block 3 (G [kX 59 55 57 11,J 60 59 11,kZ 11 kz5,S 11 60 11] (K.ops [M 61 0,D 62 11 4,J 63 62 5,M 64 2,kC 65 46 [(kt 61),(kt 63),(kt 64)]]))) (K.ops [kBi 66 57 1 .add,M 57 66])))))))) ks))))))
def qQN:Nat→Option (List (Nat×Nat)):=fun r=>match r with | 10=>some [(0,0),(1,0),(2,0),(3,0),(4,0),(5,0),(6,4)] | _=>none
theorem qOD:qD prog Tryz.f46.ntmps qQN (Tryz.f46.body.getD .skip)=some qHH.erase:=by kernel_rfl
@[simp] theorem qPW:zA prog 46=true:=by kernel_rfl
def zHF (p:Prg)(s:XS)(m:Nat)(t:Typ):Prop:=∀L,RL p L→RL p (zAb p m t L)∧Ret prog 46 [.ptr 0 0,.agg (zB t),.map 6] (rS p s L) (.tup []) (rS p s (zAb p m t L))
theorem zFt {p:Prg}{hs:List Hd}(hf:Fit p hs)(s:XS)(hs0:s.ns=[])(m:Nat)(t:Typ)(hk:∀k∈t.kids,zHF p s m k)(hd:t.k=3→∃d,jO p.defs t.id=some d∧∀sl∈d.slots,zHF p s m sl.typ):zHF p s (m+1) t:=by
 intro L hL;obtain⟨L1,hL1⟩:∃L1,L1=t.kids.foldl (fun L k=>zAb p m k L) L:=⟨_,rfl⟩;have rl:∀i,RL p ((t.kids.take i).foldl (fun L k=>zAb p m k L) L):=fun i=>RL.fold (fun k L=>zAb p m k L) _ _ (fun k hk' L hL=>(hk k (jBa hk') L hL).1) hL
 have rl1:RL p L1:=by have:=rl t.kids.length; rw[jAp]at this; rw[hL1]; exact this
 have hall:t.kids.take t.kids.length=t.kids:=jAp;have e:zAb p (m+1) t L=if t.k=3∧t.id∉L1 then (dfn p t.id).slots.foldl (fun L s=>zAb p m s.typ L) (L1++[t.id]) else L1:=by rw[zAb,←hL1]
 rw[e];have hn0:ddL s.ns=[]:=by rw[hs0]; rfl
 have rl2:t.k=3→t.id∉L1→RL p (L1++[t.id]):=fun h3 hin=>by
  obtain⟨d,hd,_⟩:=hd h3;obtain⟨hdm,hdi⟩:=zAt hd;refine⟨?_,fun x hx=>?_⟩
  ·rw[jCy];refine⟨rl1.nd,by simp,fun a ha b hb=>?_⟩;rw[jAg.1 hb];exact fun e=>hin (e▸ha)
  ·rcases jA8.1 hx with hx | hx
   ·exact rl1.sub x hx
   ·rw[jAg.1 hx,←hdi];exact List.mem_map_of_mem hdm
 have rl3:t.k=3→t.id∉L1→∀i,RL p (((dfn p t.id).slots.take i).foldl (fun L s=>zAb p m s.typ L) (L1++[t.id])):=fun h3 hin i=>by
  obtain⟨d,hd,hsl⟩:=hd h3;have:dfn p t.id=d:=by simp[dfn,hd]
  rw[this];exact RL.fold (fun(s:Slt) L=>zAb p m s.typ L) _ _ (fun sl hsl' L hL=>(hsl sl (jBa hsl') L hL).1) (rl2 h3 hin)
 refine⟨?_,?_⟩
 ·split
  ·rename_i hc;have:=rl3 hc.1 hc.2 (dfn p t.id).slots.length
   rwa [jAp]at this
  ·exact rl1
 refine zI Tryz.func46 rfl qOD (rs:=[]) (by kernel_rfl) ?_;unfold qHH;have hP:=eP p;simp[rS,tS,hP,zB,hn0];intro hl;refine qW (S:=Nat) (fun i=>[(0,.ptr 0 0),(2,.map 6),(4,.ptr 7 0),(13,.sl t.kids.length (jH t.kids)),(14,int t.kids.length),(15,int i)])
  (fun i=>rS p s ((t.kids.take i).foldl (fun L k=>zAb p m k L) L)++[.box (zB t)]) (fun i=>i≤t.kids.length) (fun i=>t.kids.length-i) 0 (by simp)
  (zR [0,1,2,3,4,5,6,7] 0 (by decide) (by simp) (by simp[rS,tS,hP,zB,hn0]) (by simp)) ?_
 intro i hi;by_cases h:i<t.kids.length
 ·obtain⟨_,hr⟩:=hk t.kids[i] (jA0 h) _ (rl i);have hst:=zGB (fun L k=>zAb p m k L) L h;generalize (t.kids.take i).foldl (fun L k=>zAb p m k L) L=Li at hr hst ⊢;simp[rS,tS,hP,zB,hn0,h,zCt h];refine zN hr [0,1,2,3,4,5,6] (by decide) (by simp[rS,tS,hP,hn0]) (by simp[zB]) ?_;simp[rS,tS,hP,hn0];exact zU (i+1) h (by omega) (zR [0,1,2,3,4,5,6,7] 0 (by decide) (by simp) (by simp[rS,tS,hP,zB,hn0,hst]) (by simp[qA h hl]))
 ·have hil:i=t.kids.length:=by omega
  subst hil;rw[hall,←hL1];have hLl:=rl1.len hf;have hf1:=zHx (i:=t.id) L1;simp only[zBz]at hf1;by_cases h3:t.k=3
  ·by_cases hin:t.id∈L1
   ·rw[if_pos hin]at hf1;rw[if_neg (by simp[hin])];simp[rS,tS,hP,zB,hn0,h3,hf1];exact zG [0,1,2,3,4,5,6] 0 (by decide) (by simp) (by simp) (by simp)
   ·rw[if_neg hin]at hf1;rw[if_pos ⟨h3,hin⟩];have hp1:=zJo L1 hin;simp only[zBz]at hp1;obtain⟨d,hdd,hsl⟩:=hd h3;have hdf:dfn p t.id=d:=by simp[dfn,hdd]
    have hdi:=(zAt hdd).2;have rl3:=rl3 h3 hin;have rl2:=rl2 h3 hin;have hnt:=zOn true d.id L1 [] (by omega) (by simp);rw[hdi]at hnt;rw[hdf]at rl3 ⊢;simp[rS,tS,hP,zB,hn0,h3,hf1,hp1];refine zAw (zEU p t.id) (by simp[zS,jF]) (by simp[zBf]) ?_;simp[zBf,hdd,zO,hdi];refine zA8 hnt [1,2,3,4,5] (by decide) (by simp[nS,zIj]) (by simp[jF]) ?_;simp[nS];intro hls;refine qW (S:=Nat) (fun i=>[(0,.ptr 0 0),(2,.map 6),(55,.sl d.slots.length (yE d.slots)),(56,int d.slots.length),(57,int i)])
     (fun i=>rS p s ((d.slots.take i).foldl (fun L s=>zAb p m s.typ L) (L1++[t.id]))) (fun i=>i≤d.slots.length) (fun i=>d.slots.length-i) 0 (by simp)
     (zR [0,1,2,3,4,5,6] 0 (by decide) (by simp) (by simp[rS,tS,hP,hn0,jS]) (by simp)) ?_
    intro i hi;by_cases h:i<d.slots.length
    ·obtain⟨_,hr⟩:=hsl d.slots[i] (jA0 h) _ (rl3 i);have hst:=zGB (fun L (s:Slt)=>zAb p m s.typ L) (L1++[t.id]) h;generalize (d.slots.take i).foldl (fun L s=>zAb p m s.typ L) (L1++[t.id])=Li at hr hst ⊢;simp[rS,tS,hP,hn0,h,jU h,zAu];refine zN hr [0,1,2,3,4,5,6] (by decide) (by simp[rS,tS,hP,hn0]) (by simp[zB]) ?_;simp[rS,tS,hP,hn0];exact zU (i+1) h (by omega) (zR [0,1,2,3,4,5,6] 0 (by decide) (by simp) (by simp[rS,tS,hP,hn0,hst]) (by simp[qA h hls]))
    ·have hil:i=d.slots.length:=by omega
     subst hil;simp[rS,tS,hP,hn0];exact zG [0,1,2,3,4,5,6] 0 (by decide) (by simp) (by simp) (by simp)
  ·rw[if_neg (by simp[h3])];simp[rS,tS,hP,zB,hn0,h3];exact zG [0,1,2,3,4,5,6] 0 (by decide) (by simp) (by simp) (by simp)
theorem zPY {p:Prg}{hs:List Hd}(hf:Fit p hs)(s:XS)(hs0:s.ns=[]){r:Nat}{t:Typ}(h:TyOk hs r t):∀n,r<n→zHF p s n t:=by
 induction h with
 | int r=>intro n hn; obtain⟨m,rfl⟩:∃m,n=m+1:=⟨n-1,by omega⟩; exact zFt hf s hs0 m _ (by simp) (by simp)
 | bool r=>intro n hn; obtain⟨m,rfl⟩:∃m,n=m+1:=⟨n-1,by omega⟩; exact zFt hf s hs0 m _ (by simp) (by simp)
 | list r t h ih =>
  intro n hn; obtain⟨m,rfl⟩:∃m,n=m+1:=⟨n-1,by omega⟩;refine zFt hf s hs0 m _ (fun k hk=>?_) (by simp);simp only[Typ.kids_mk,jAg]at hk;subst hk;exact ih m (by omega)
 | dfn r k h h1 h2 h3 h4 ih =>
  intro n hn; obtain⟨m,rfl⟩:∃m,n=m+1:=⟨n-1,by omega⟩;refine zFt hf s hs0 m _ (by simp) fun _=>?_
  obtain⟨d,hd,hhd⟩:=hf.hd k h;have e2:d.slots=hs[k].slots:=congrArg Hd.slots hhd;exact⟨d,hd,fun sl hsl=>ih sl (by rw[←e2]; exact hsl) m (by omega)⟩
end Go.Proofs.YthglhccibdlccaaGreatDoor
namespace Go.Proofs.YthglhccibdlccaaGreatDoor
open Go.Abs
theorem zT0 {p:Prg}{hs:List Hd}(hf:Fit p hs)(l:List Int)(hl:∀x∈l,w64 x=x)(n:Int)(hn:w64 n=n)(h0:0<(zFA p.defs p.defs.length).length) :
 ∃d∈p.defs,zAI d.kind=true∧Ret prog 10 [.agg (zS p),.sl l.length (yH l),int n] [] (.tup [.agg (zO d),.sl (zDq p d l).length (zV (zDq p d l)),bl true]) []:=by
 have hL8:=hf.len8;have hb:=zLC hf;have hbl:=zKC p.defs p.defs.length;have hmem:=fun i (h:i∈zFA p.defs p.defs.length)=>zV3 h
 generalize zFA p.defs p.defs.length=L at *
 obtain⟨a0,a1⟩:=zC2 (k:=(L.length:Int)) hn (by omega);have ra:=zG1 n L.length (by omega);obtain⟨x,hx⟩:∃x:Nat,zA4 n L.length=x:=⟨(zA4 n L.length).toNat,by omega⟩;rw[hx]at ra;have hxl:x<L.length:=by omega
 obtain⟨hi,hk⟩:=hmem _ (jA0 hxl);have hdm:=jA0 hi;have hag:=zYm hf hdm l hl;have hdr:=zRu hxl;have hdd:=yI hi;refine⟨p.defs[L[x]],hdm,hk,?_⟩;generalize p.defs[L[x]]=d at *
 have hn0:¬L=[]:=fun e=>by rw[e]at h0; simp at h0
 refine zK Tryz.func10 rfl qOp (rs:=[.cell 6 31 true,.slot 7,.slot 8]) (by kernel_rfl) ?_;unfold qHt;simp[zS];refine zT hb (by simp[zS]) (by simp) ?_;simp[hn0]
 intros
 refine zAw ra (by simp) (by simp) ?_;simp[hxl,hdr,hi,hdd,zO];refine qK hag (by simp[zS,zO]) (by simp) ?_;simp;exact zC 0 (by simp[zO])
end Go.Proofs.YthglhccibdlccaaGreatDoor
namespace Go.Abs
theorem qAm {n0:Nat}{env:Env} {σ : St}{l nk:Nat}{es:List (List Int×A)}(hσ : σ[l]?=some (.mp true nk es)):zBL n0 env (σ.set l (.mp false nk es)) env σ:=by
 intro H0 L0 w0 H L w N tmps h0 h1 h2;have hs:=zJq (o':=.mp false nk es) h1.st hσ (fun li hob=>by simp only[zW]at hob ⊢;obtain⟨g0,b,ents,ck,g1,g2,g3,g4,g5⟩:=hob;exact⟨g0,b,ents,ck,g1,g2,g3,(show qGO false ents.toList ck from fun h=>by cases h),g5⟩)
 exact⟨H,L,⟨hs,h1.step,h1.lle,h1.own⟩,h2⟩
theorem zHY {ks:List Int}:∀(l m:List (List Int×A)),zAL ks (l++m)=(zAL ks l).or (zAL ks m)
 | [],m=>rfl
 | p::l,m=>by
  simp only[jBi,zAL];split
  ·rfl
  ·exact zHY l m
end Go.Abs
namespace Go.Proofs.YthglhccibdlccaaGreatDoor
open Go.Abs
def zDY (l:List EVar):List (List Int×A):=l.map fun b=>([b.id.a,b.id.b,b.id.c,b.n],.agg [.lit (.int .i64 b.v.k),.lit (.int .i64 b.v.n),.sl b.v.kids.length (zV b.v.kids)])
@[simp] theorem qMM {rf:Bool→Nat→Nat→A}{g:Nat→Option Nat}(l:List EVar):((zDY l).map fun p=>(p.1,vw rf g p.2))=zDY l:=by
 simp only[zDY,jCv];refine jCw fun x _=>?_
 simp
def Fr (V:List EVar)(i:Id)(n:Int):Prop:=∀b∈V,¬(b.id=i∧b.n=n)
theorem qDJ {a b:Id}{n m:Int}:[a.a,a.b,a.c,n]=[b.a,b.b,b.c,m]↔a=b∧n=m:=by obtain⟨x,y,z⟩:=a;obtain⟨x',y',z'⟩:=b;simp[and_assoc]
theorem zLb {i:Id}{n:Int}:∀{V:List EVar},Fr V i n→zAL [i.a,i.b,i.c,n] (zDY V)=none
 | [],_=>rfl
 | b::V,h=>by
  have h1:=h b (by simp);have ih:=zLb (V:=V) fun x hx=>h x (by simp[hx])
  simp only[zDY,jAj,zAL]at ih ⊢;rw[if_neg fun e=>h1 (qDJ.1 e)];exact ih
theorem zKw {i:Id}{n:Int}{v:Val}:∀{V:List EVar},Fr V i n→zD7 [i.a,i.b,i.c,n] (.agg [.lit (.int .i64 v.k),.lit (.int .i64 v.n),.sl v.kids.length (zV v.kids)]) (zDY V)=zDY (V++[⟨i,n,v⟩])
 | [],_=>rfl
 | b::V,h=>by
  have h1:=h b (by simp);have ih:=zKw (v:=v) (V:=V) fun x hx=>h x (by simp[hx])
  simp only[zDY,jAj,zD7,jBi]at ih ⊢;rw[if_neg fun e=>h1 (qDJ.1 e),ih]
theorem zNT {i:Id}{n:Int}{v:Val}:∀{V:List EVar},Fr V i n→zII [i.a,i.b,i.c,n] (zDY (V++[⟨i,n,v⟩]))=zDY V
 | [],_=>by simp[zDY,zII]
 | b::V,h=>by
  have h1:=h b (by simp);have ih:=zNT (v:=v) (V:=V) fun x hx=>h x (by simp[hx])
  simp only[zDY,jAj,zII,jBi]at ih ⊢;rw[if_neg fun e=>h1 (qDJ.1 e),ih]
def NdV (V:List EVar):Prop:=V.Pairwise fun a b=>¬(a.id=b.id∧a.n=b.n)
theorem NdV.push {V:List EVar}(h:NdV V){i:Id}{n:Int}{v:Val}(hf:Fr V i n):NdV (V++[⟨i,n,v⟩]):=by unfold NdV;rw[jCg];refine⟨h,by simp,fun a ha b hb=>?_⟩;rw[jAg.1 hb];exact hf a ha
theorem Fr.of {V:List EVar}{i:Id}(h:∀b∈V,b.id≠i)(n:Int):Fr V i n:=fun b hb e=>h b hb e.1
theorem Fr.push {V:List EVar}{i:Id}(h:∀b∈V,b.id≠i){n m:Int}(hne:m≠n)(v:Val):Fr (V++[⟨i,m,v⟩]) i n:=fun b hb e=>by
 rcases jA8.1 hb with hb | hb
 ·exact h b hb e.1
 ·rw[jAg.1 hb]at e;exact hne e.2
theorem EnvT.get {p:Prg}{B:List Bnd}{V:List EVar}(h:EnvT p B V)(hn:NdV V){x:Id}{n:Int}{t:Typ}:zCv B x n=some t →
 zAL [x.a,x.b,x.c,n] (zDY V)=some (.agg [.lit (.int .i64 (zE5 V x n).k),.lit (.int .i64 (zE5 V x n).n),.sl (zE5 V x n).kids.length (zV (zE5 V x n).kids)]):=by
 induction h with
 | nil=>intro h; simp[zCv]at h
 | snoc B V b v h hi hb ht hz ih =>
  intro hl;unfold NdV at hn;rw[jCg]at hn;have e:zDY (V++[v])=zDY V++zDY [v]:=by simp[zDY]
  rw[e,zHY,zLa];rw[zFl]at hl;by_cases hc:b.id=x∧b.n=n
  ·have hv:v.id=x∧v.n=n:=⟨hi.trans hc.1,hb.trans hc.2⟩;have hfr:Fr V x n:=fun y hy e=>hn.2.2 y hy v (by simp) ⟨e.1.trans hv.1.symm,e.2.trans hv.2.symm⟩
   rw[zLb hfr,if_pos hv];simp[zDY,zAL,hv.1,hv.2]
  ·rw[if_neg hc]at hl;rw[if_neg (fun e=>hc ⟨hi.symm.trans e.1,hb.symm.trans e.2⟩),ih hn.1 hl];rfl
@[simp] theorem qQ7 {z:Value}{a:A}:zFY z false (some a)=a:=rfl
@[simp] theorem qMA:zFY (.agg #[(.int .i64 0),(.int .i64 0),(.slice none 0 0)]) true none=.tup [.agg [.lit (.int .i64 0),.lit (.int .i64 0),.nil],.lit (.bool false)]:=by kernel_rfl
def tE (p:Prg)(s:XS)(V:List EVar):St:=tS p s++[.mp false 4 (zDY V)]
def TOk (p:Prg)(r:Val×XS)(e:Exp)(V:List EVar)(s:XS):Prop:=Ret prog 93 [.ptr 0 0,.agg (zF e),.map 6] (tE p s V) (.agg (zJ r.1)) (tE p r.2 V)
@[simp] theorem qMd:zA prog 93=true:=by kernel_rfl
@[simp] theorem qMf:zA prog 129=true:=by kernel_rfl
@[simp] theorem qMc:zA prog 144=true:=by kernel_rfl
@[simp] theorem qMb:zA prog 47=true:=by kernel_rfl
def qHI:K:=G [kO 6 1,kO 8 3,kO 9 4,kZ 10 [ki,ki,kl]] (G [M 15 2,J 16 8 4,⟨none,.mop (some 17) (.get 4 (.agg #[ki,ki,kl]) true) [(kt 15),(kt 16)]⟩,M 14 17,kE 18 14 0,kE 19 14 1,kZ 11 [ki,ki,kl],S 11 18 3,M 12 19] (G [M 20 2,J 21 8 4,J 22 9 3,⟨none,.mop none (.set 4) [(kt 20),(kt 21),(kt 22)]⟩] (G [M 23 0,J 24 6 15,M 25 2,kC 26 93 [(kt 23),(kt 24),(kt 25)],kZ 13 [ki,ki,kl],S 13 26 3] (G [M 27 2,J 28 8 4,⟨none,.mop none (.del 4) [(kt 27),(kt 28)]⟩] (Z (G [M 29 12] (Y 29 (K.ops [M 30 2,J 31 8 4,J 32 11 3,⟨none,.mop none (.set 4) [(kt 30),(kt 31),(kt 32)]⟩]) ks)) (G [J 33 13 3,S 10 33 3] kr))))))
theorem qOE:zL prog Tryz.f166.ntmps (Tryz.f166.body.getD .skip)=some qHI.erase:=by kernel_rfl
@[simp] theorem qPY:zA prog 166=true:=by kernel_rfl
theorem zMe {p:Prg}(e:Exp)(V:List EVar)(i:Id)(n:Int)(v:Val)(s:XS)(r:Val×XS)(hf:Fr V i n)(h:TOk p r e (V++[⟨i,n,v⟩]) s) :
 Ret prog 166 [.ptr 0 0,.agg (zF e),.map 6,.agg [.lit (.int .i64 i.a),.lit (.int .i64 i.b),.lit (.int .i64 i.c),.lit (.int .i64 n)],.agg (zJ v)] (tE p s V) (.agg (zJ r.1)) (tE p r.2 V):=by
 refine zK Tryz.func166 rfl qOE (rs:=[.cell 10 3 true]) (by kernel_rfl) ?_;unfold qHI;have hP:=eP p;have h1:=zLb hf;have h2:=zKw (v:=v) hf;have h3:=zNT (v:=v) hf;unfold TOk at h;simp[tE,tS,hP,zF,zJ,h1,h2];refine zN h [0,1,2,3,4,5,6] (by decide) (by simp[tE,tS,hP]) (by simp[zF]) ?_;simp[tE,tS,hP,zJ,h3];exact zG [0,1,2,3,4,5,6] 0 (by decide) (by simp) (by simp) (by simp[zJ])
end Go.Proofs.YthglhccibdlccaaGreatDoor

/-
  The maker's programs: their definitions have IDs of their own, their bodies have types, their types have few levels.
  Runs: what each step keeps; where the first failure is.
  The law's calls: a definition with a body, and arguments made of numbers.
-/
import Derived.Test.YthglhccibdlccaaGreatDoorX40
import Derived.Test.YthglhccibdlccaaGreatDoorX39
import Derived.Test.YthglhccibdlccaaGreatDoorX32
import Derived.Test.YthglhccibdlccaaGreatDoorX35
set_option linter.unusedVariables false
set_option linter.unusedSimpArgs false
namespace Go.Proofs.YthglhccibdlccaaGreatDoor
open Go.Abs
def zGO (f:Int→Id)(x:Id):Id:=if x.b=0 then f x.c else x
def zIC (f:Int→Id)(b:Bnd):Bnd:={b with id:=zGO f b.id}
def qEX (f:Int→Id)(env:List Bnd):Prop:=∀b∈env,∀b'∈env,zGO f b.id=zGO f b'.id→b.id=b'.id
theorem zSC {f:Int→Id}{env:List Bnd}(h:qEX f env){x:Id}{n:Int}{t:Typ}:zCe env x n=some t→zCe (env.map (zIC f)) (zGO f x) n=some t:=by
 have hmem:zCe env x n=some t→∃b∈env,b.id=x:=by intro he;unfold zCe at he;rw[Option.map_eq_some_iff]at he;obtain⟨b,hb,_⟩:=he;have h1:=List.find?_some hb;have h2:=List.mem_of_find?_eq_some hb;rw[Bool.and_eq_true]at h1;exact⟨b,List.mem_reverse.1 h2,of_decide_eq_true h1.1⟩
 intro he;obtain⟨b0,hb0,rfl⟩:=hmem he;clear hmem;have key:∀l:List Bnd,(∀b∈l,b∈env)→zCe l b0.id n=some t→zCe (l.map (zIC f)) (zGO f b0.id) n=some t:=by
  intro l;induction l using zBy with
  | nil=>intro _ h; simp[zCe]at h
  | snoc l y ih =>
   intro hl hk;rw[zEJ]at hk;rw[List.map_append,List.map_singleton,zEJ];have hy:=hl y (by simp);by_cases c1:y.id=b0.id
   ·by_cases c2:y.n=n
    ·rw[if_pos ⟨c1,c2⟩]at hk;rw[if_pos ⟨by simp only[zIC]; rw[c1],c2⟩];exact hk
    ·rw[if_neg fun h=>c2 h.2]at hk;rw[if_neg fun h=>c2 h.2];exact ih (fun b hb=>hl b (List.mem_append_left _ hb)) hk
   ·rw[if_neg fun h=>c1 h.1]at hk;rw[if_neg fun e=>c1 (h y hy b0 hb0 e.1)];exact ih (fun b hb=>hl b (List.mem_append_left _ hb)) hk
 exact key env (fun _ h=>h) he
theorem zMx:∀l:List Exp,l.length≤(jX l).length
 | []=>by simp
 | e::l=>by
  have:=zMx l;have h1:1≤(tmps e).length:=by rw[zBA]; simp
  simp only[List.length_cons,jX,List.length_append];omega
theorem zKX:∀{l:List Exp} {e:Exp},e∈l→(tmps e).Sublist (jX l)
 | x::l,e,h=>by
  simp only[jX];rcases List.mem_cons.1 h with rfl | h
  ·exact List.sublist_append_left _ _
  ·exact(zKX h).trans (List.sublist_append_right _ _)
structure Frs (f:Int→Id)(env:List Bnd)(e:Exp):Prop where
 nd:(tmps e).Nodup
 num:e.num0
 inj:∀c∈tmps e,∀c'∈tmps e,f c=f c'→c=c'
 new:∀b∈env,∀c∈tmps e,zGO f b.id≠f c
 len:(tmps e).length≤32768
 ib:qEX f env
section
variable {f:Int→Id}{env:List Bnd}{i:Id}{k n:Int}{r:Id}{u:Typ}{ks:List Exp}{ns:List ByteArray}
theorem Frs.id (h:Frs f env (.mk i k n r u ks ns)):i=⟨0,0,i.c⟩:=by obtain⟨a,b,c⟩:=i;have:=h.num;simp only[Exp.num0]at this;simp[this.1.1,this.1.2]
theorem Frs.kid (h:Frs f env (.mk i k n r u ks ns)){e:Exp}(he:e∈ks):Frs f env e:=by
 obtain⟨h1,h2,h3,h4,h5,h6⟩:=h;simp only[tmps]at h1 h3 h4 h5;simp only[Exp.num0,zI0]at h2;have hs:=zKX he;have hm:∀c∈tmps e,c∈jX ks++[i.c]:=fun c hc=>List.mem_append_left _ (hs.subset hc)
 exact⟨(List.nodup_append.1 h1).1.sublist hs,h2.2 e he,fun c hc c' hc'=>h3 c (hm c hc) c' (hm c' hc'),fun b hb c hc=>h4 b hb c (hm c hc),by
  have:=hs.length_le;rw[List.length_append]at h5;omega,h6⟩
theorem Frs.push (h:Frs f env (.mk i k n r u ks ns)){e:Exp}(he:e∈ks)(m:Int)(t:Typ){env':List Bnd}(hb:env'=env∨∃m' t',env'=env++[⟨i,m',t'⟩]):Frs f (env'++[⟨i,m,t⟩]) e:=by
 have hk:=h.kid he;have hi:=h.id;obtain⟨h1,h2,h3,h4,h5,h6⟩:=h;simp only[tmps]at h1 h3 h4;have hic:i.c∈jX ks++[i.c]:=by simp
 have hri:zGO f i=f i.c:=by unfold zGO; rw[if_pos (by rw[hi])]
 have hmem:∀b∈env'++[(⟨i,m,t⟩:Bnd)],b∈env∨b.id=i:=by
  intro b hb';rcases List.mem_append.1 hb' with hb' | hb'
  ·rcases hb with rfl | ⟨m',t',rfl⟩
   ·exact .inl hb'
   ·rcases List.mem_append.1 hb' with hb' | hb'
    ·exact .inl hb'
    ·rw[List.mem_singleton.1 hb']; exact .inr rfl
  ·rw[List.mem_singleton.1 hb']; exact .inr rfl
 refine⟨hk.nd,hk.num,hk.inj,fun b hb' c hc=>?_,hk.len,fun b hb1 b' hb2 e=>?_⟩
 ·rcases hmem b hb' with h' | h'
  ·exact hk.new b h' c hc
  ·rw[h',hri];intro e;have hc':=(zKX he).subset hc;have:=h3 i.c hic c (List.mem_append_left _ hc') e;exact(List.nodup_append.1 h1).2.2 c hc' i.c (by simp) this.symm
 ·rcases hmem b hb1 with h' | h'<;>rcases hmem b' hb2 with h'' | h''
  ·exact h6 b h' b' h'' e
  ·rw[h'',hri]at e;exact(h4 b h' i.c hic e).elim
  ·rw[h',hri]at e;exact(h4 b' h'' i.c hic e.symm).elim
  ·rw[h',h'']
theorem Frs.fresh (h:Frs f env (.mk i k n r u ks ns)):∀x∈env.map (zIC f),x.id≠f i.c:=by intro x hx;obtain⟨b,hb,rfl⟩:=List.mem_map.1 hx;exact h.new b hb i.c (by simp[tmps])
theorem Frs.kids (h:Frs f env (.mk i k n r u ks ns)):(ks.map (zCh f)).length≤32768:=by have h1:=h.len;have h2:=zMx ks;simp only[tmps,List.length_append]at h1;rw[List.length_map];omega
end
theorem zA4 {f:Int→Id}{i:Id}{k n:Int}{r:Id}{u:Typ}{ks:List Exp}{ns:List ByteArray}(h:k≠2):zCh f (.mk i k n r u ks ns)=.mk (f i.c) k n r u (ks.map (zCh f)) ns:=by simp only[zCh,zEn,h,false_and,if_false]
def zTj (P:Prg)(hs:List Hd):Prop:=∀(k:Nat) (h:k<hs.length),∃d,yC P.defs hs[k].id=some d∧d.hd=hs[k]
theorem qJs {P:Prg}{hs:List Hd}(hh:zTj P hs){f:Int→Id}{own:Int}{env:List Bnd}{e:Exp}{t:Typ}(h:WT hs own env e t):Frs f env e→WE P (env.map (zIC f)) (zCh f e) t:=by
 induction h with
 | int env i n h1 h2=>intro hF; rw[zA4 (by decide)]; exact .int _ _ _ _ _ _ h1 h2
 | bool env i n h=>intro hF; rw[zA4 (by decide)]; exact .bool _ _ _ _ _ _ h
 | var env i n x t h =>
  intro hF;have e:zCh f (.mk i 2 n x Typ.zero [] [])=.mk (f i.c) 2 n (zGO f x) Typ.zero [] []:=by simp only[zCh,zOE,true_and,zGO]
  rw[e];exact .var _ _ _ _ _ _ _ (zSC hF.ib h)
 | call env i k h ks ho hk hl hw ih =>
  intro hF;obtain⟨d,hd,hhd⟩:=hh k h;have e1:d.kind=hs[k].kind:=congrArg Hd.kind hhd;have e2:d.slots=hs[k].slots:=congrArg Hd.slots hhd;have e3:d.res=hs[k].res:=congrArg Hd.res hhd;rw[zA4 (by decide),←e3];refine .call _ _ _ _ _ _ _ hF.kids d hd (by rw[e1]; exact hk) (by simp only[List.length_map,e2]; exact hl) fun j hj=>?_
  simp only[List.getElem_map,e2];rw[List.length_map]at hj;exact ih j hj (hF.kid (List.getElem_mem hj))
 | arith env i n a b h1 h2 ha hb iha ihb =>
  intro hF;rw[zA4 (by decide)];refine .op _ _ _ _ _ _ _ hF.kids [jK,jK] jK (.arith n h1 h2) rfl fun j hj=>?_
  match j,hj with
  | 0,_=>exact iha (hF.kid (by simp))
  | 1,_=>exact ihb (hF.kid (by simp))
 | less env i a b ha hb iha ihb =>
  intro hF;rw[zA4 (by decide)];refine .op _ _ _ _ _ _ _ hF.kids [jK,jK] jT .less rfl fun j hj=>?_
  match j,hj with
  | 0,_=>exact iha (hF.kid (by simp))
  | 1,_=>exact ihb (hF.kid (by simp))
 | same env i a b u ha hb iha ihb =>
  intro hF;rw[zA4 (by decide)];refine .op _ _ _ _ _ _ _ hF.kids [u,u] jT (.same u) rfl fun j hj=>?_
  match j,hj with
  | 0,_=>exact iha (hF.kid (by simp))
  | 1,_=>exact ihb (hF.kid (by simp))
 | andor env i n a b h ha hb iha ihb =>
  intro hF;rw[zA4 (by decide)];refine .op _ _ _ _ _ _ _ hF.kids [jT,jT] jT (.andor n h) rfl fun j hj=>?_
  match j,hj with
  | 0,_=>exact iha (hF.kid (by simp))
  | 1,_=>exact ihb (hF.kid (by simp))
 | not env i a ha iha =>
  intro hF;rw[zA4 (by decide)];refine .op _ _ _ _ _ _ _ hF.kids [jT] jT .not rfl fun j hj=>?_
  match j,hj with
  | 0,_=>exact iha (hF.kid (by simp))
 | join env i a b t ha hb iha ihb =>
  intro hF;rw[zA4 (by decide)];refine .op _ _ _ _ _ _ _ hF.kids [jM t,jM t] (jM t) (.join t) rfl fun j hj=>?_
  match j,hj with
  | 0,_=>exact iha (hF.kid (by simp))
  | 1,_=>exact ihb (hF.kid (by simp))
 | len env i a t ha iha =>
  intro hF;rw[zA4 (by decide)];refine .op _ _ _ _ _ _ _ hF.kids [jM t] jK (.len t) rfl fun j hj=>?_
  match j,hj with
  | 0,_=>exact iha (hF.kid (by simp))
 | ite env i a b c t ha hb hc iha ihb ihc =>
  intro hF;rw[zA4 (by decide)];exact .ite _ _ _ _ _ _ _ _ _ _ (iha (hF.kid (by simp))) (ihb (hF.kid (by simp))) (ihc (hF.kid (by simp)))
 | lets env i a b u t ns hn ha hb iha ihb =>
  intro hF;rw[zA4 (by decide)];have hb':=ihb (hF.push (by simp) 0 u (.inl rfl));rw[List.map_append,List.map_singleton]at hb';have hi:=hF.id;have e:zIC f ⟨i,0,u⟩=⟨f i.c,0,u⟩:=by simp only[zIC,zGO]; rw[if_pos (by rw[hi])]
  rw[e]at hb';exact .lets _ _ _ _ _ _ _ _ _ _ hF.fresh (iha (hF.kid (by simp))) hb'
 | record env i k h ks hk hl hw ih =>
  intro hF;obtain⟨d,hd,hhd⟩:=hh k h;have e1:d.kind=hs[k].kind:=congrArg Hd.kind hhd;have e2:d.slots=hs[k].slots:=congrArg Hd.slots hhd;rw[zA4 (by decide)];refine .record _ _ _ _ _ _ _ hF.kids d hd (by rw[e1]; exact hk) (by simp only[List.length_map,e2]; exact hl) fun j hj=>?_
  simp only[List.getElem_map,e2];rw[List.length_map]at hj;exact ih j hj (hF.kid (List.getElem_mem hj))
 | field env i k h j hj a hk ha iha =>
  intro hF;obtain⟨d,hd,hhd⟩:=hh k h;have e1:d.kind=hs[k].kind:=congrArg Hd.kind hhd;have e2:hs[k].slots=d.slots:=(congrArg Hd.slots hhd).symm;rw[zA4 (by decide)];have hjd:j<d.slots.length:=by rw[←e2]; exact hj
  have et:hs[k].slots[j]=d.slots[j]:=by simp only[e2]
  rw[et];exact .field _ _ _ _ _ _ d j hd (by rw[e1]; exact hk) hjd (iha (hF.kid (by simp)))
 | case env i k h j hj a hk ha iha =>
  intro hF;obtain⟨d,hd,hhd⟩:=hh k h;have e1:d.kind=hs[k].kind:=congrArg Hd.kind hhd;have e2:hs[k].slots=d.slots:=(congrArg Hd.slots hhd).symm;rw[zA4 (by decide)];have hjd:j<d.slots.length:=by rw[←e2]; exact hj
  have et:hs[k].slots[j]=d.slots[j]:=by simp only[e2]
  have ih:=iha (hF.kid (by simp));rw[et]at ih;exact .case _ _ _ _ _ _ d j hd (by rw[e1]; exact hk) hjd ih
 | mtch env i k h a ks t ns hn hk hl ha hw iha ih =>
  intro hF;obtain⟨d,hd,hhd⟩:=hh k h;have e1:d.kind=hs[k].kind:=congrArg Hd.kind hhd;have e2:d.slots=hs[k].slots:=congrArg Hd.slots hhd;rw[zA4 (by decide),List.map_cons];have hi:=hF.id;refine .mtch _ _ _ _ _ _ _ _ d _ hF.fresh hd (by rw[e1]; exact hk) (by simp only[List.length_map,e2]; exact hl) (iha (hF.kid (by simp))) fun j hj=>?_
  have hj':j<ks.length:=by rw[List.length_map]at hj; exact hj
  have:=ih j hj' (hF.push (List.mem_cons_of_mem _ (List.getElem_mem hj')) _ _ (.inl rfl));rw[List.map_append,List.map_singleton]at this;have e:∀t,zIC f ⟨i,j,t⟩=⟨f i.c,j,t⟩:=fun t=>by simp only[zIC,zGO]; rw[if_pos (by rw[hi])]
  rw[e]at this;simp only[List.getElem_map,e2];exact this
 | list env i t ks hw ih =>
  intro hF;rw[zA4 (by decide)];refine .list _ _ _ _ _ _ _ _ hF.kids fun j hj=>?_
  rw[List.length_map]at hj;rw[List.getElem_map];exact ih j hj (hF.kid (List.getElem_mem hj))
 | fold env i l s b u t ns hn hl hs' hb ihl ihs ihb =>
  intro hF;rw[zA4 (by decide)];have hb':=ihb (hF.push (by simp) 1 t (.inr ⟨0,u,rfl⟩));rw[List.map_append,List.map_singleton,List.map_append,List.map_singleton]at hb';have hi:=hF.id;have e:∀m t,zIC f ⟨i,m,t⟩=⟨f i.c,m,t⟩:=fun m t=>by simp only[zIC,zGO]; rw[if_pos (by rw[hi])]
  rw[e,e]at hb';exact .fold _ _ _ _ _ _ _ _ _ _ _ hF.fresh (ihl (hF.kid (by simp))) (ihs (hF.kid (by simp))) hb'
theorem zJ3:∀{ds:List Dfn} (_:ds.Pairwise fun a b=>a.id≠b.id) {k:Nat} (hk:k<ds.length),yC ds ds[k].id=some ds[k]
 | d::ds,h,0,_=>by rw[zGJ]; simp
 | d::ds,h,k+1,hk=>by
  rw[List.pairwise_cons]at h;have hk':k<ds.length:=by simpa using hk
  rw[zGJ];have:=h.1 ds[k] (List.getElem_mem hk');simp only[List.getElem_cons_succ];rw[if_neg this];exact zJ3 h.2 hk'
structure Fit (P:Prg)(hs:List Hd):Prop where
 heads:P.defs.map Dfn.hd=hs
 len5:5≤P.defs.length
 len8:P.defs.length≤8
 nd:P.defs.Pairwise fun a b=>a.id≠b.id
 slots:∀d∈P.defs,1≤d.slots.length∧d.slots.length≤6∧(d.kind=0∨d.kind=1→d.slots.length≤3)∧(d.slots.Pairwise fun a b=>a.id≠b.id)∧∀s∈d.slots,TyOk hs 4 s.typ
 kinds:∀d∈P.defs,0≤d.kind∧d.kind≤5
 bods:zPf P
theorem Fit.hd {P:Prg}{hs:List Hd}(h:Fit P hs):zTj P hs:=fun k hk=>by
 have hk':k<P.defs.length:=by rw[←h.heads]at hk; simpa using hk
 have e:hs[k]=P.defs[k].hd:=by simp[←h.heads]
 refine⟨P.defs[k],?_,e.symm⟩;rw[e];exact zJ3 h.nd hk'
theorem zAC {ds:List Dfn}{r:Id}{d:Dfn}(h:yC ds r=some d):d∈ds∧d.id=r:=⟨List.mem_of_find?_eq_some h,by simpa using List.find?_some h⟩
section
variable {l:List Int}{mods:Int}(hl:∀x∈l,w64 x=x)
include hl
theorem zSJ:∀p∈qD l mods,p.kind=0∨p.kind=1→p.types.length≤3:=by
 intro p hp;have a2:=yS (i:=2) hl (most:=3) (by omega);have a6:=yS (i:=6) hl (most:=2) (by omega);have a9:=yS (i:=9) hl (most:=3) (by omega);have hp':p=zAW l mods∨p=zBk l mods∨p=zC8 l mods∨p=zJw mods∨p.kind=2∨p.kind=3∨p.kind=4∨p.kind=5:=by
  simp only[qD,plB,plC,plD,plE,List.mem_append,List.mem_cons]at hp;rcases hp with ((h | h | h) | h) | h | h | h | h
  ·simp[h]
  ·simp[h]
  ·simp at h
  ·split at h
   ·simp at h; rcases h with h | h<;>simp[h]
   ·simp at h
  ·simp[h,pF]
  ·split at h<;>simp[h,zHB,pG]
  ·simp[h,pT]
  ·split at h
   ·simp at h; simp[h,pC]
   ·simp at h
 rcases hp' with rfl | rfl | rfl | rfl | h
 ·intro _; simp only[zAW,zCC]; omega
 ·intro _; simp only[zBk,List.length_cons,zCC]; omega
 ·intro _; simp only[zC8,List.length_cons,zCC]; omega
 ·intro _; simp only[zJw,List.length_cons,List.length_nil]; omega
 ·omega
end
theorem PrgOk.fit {l:List Int}(hl:∀x∈l,w64 x=x){P:Prg}(h:PrgOk l P):Fit P (hsV l (nmV l)):=by
 obtain⟨hnm,hnm2⟩:=zV6 l hl;generalize hN:nmV l=nm at *
 have m1:1≤(nm:Int):=by omega
 have m2:(nm:Int)≤2:=by omega
 obtain⟨n5,n8⟩:=zAO l (nm:Int);have hh:=h.heads;rw[hN]at hh;have hlen:P.defs.length=(qD l nm).length:=by have:=congrArg List.length hh; simpa using this
 have hget:∀(k:Nat) (hk:k<P.defs.length),P.defs[k].hd=⟨idR (nm+k),((qD l nm)[k]'(by omega)).kind,zAZ (zAz nm (qD l nm) k) ((qD l nm)[k]'(by omega)),((qD l nm)[k]'(by omega)).out⟩:=fun k hk=>by
  rw[←zEg nm (qD l nm) (by omega)];have:(P.defs.map Dfn.hd)[k]'(by simpa using hk)=(zLu nm (qD l nm))[k]'(by simpa using (by omega:k<(qD l nm).length)):=by simp only[hh]
  rwa [List.getElem_map]at this
 have hnd:P.defs.Pairwise fun a b=>a.id≠b.id:=by rw[List.pairwise_iff_getElem];intro i j hi hj hij e;have e1:P.defs[i].id=idR (nm+i):=congrArg Hd.id (hget i hi);have e2:P.defs[j].id=idR (nm+j):=congrArg Hd.id (hget j hj);rw[e1,e2]at e;have:=zH0 (by omega) (by omega) (by omega) (by omega) e;omega
 have hpl:=zBs l nm m1 m2 hl;have hrange:=fun i=>zCR (show 0≤(nm:Int) by omega) (fun p hp=>(hpl p hp).t6) i
 have henv:∀(k:Nat) (hk:k<P.defs.length),EnvOk (hsV l nm) 4 0 (zBp P.defs[k])∧1≤(zBp P.defs[k]).length∧(zBp P.defs[k]).length≤6∧TyOk (hsV l nm) 4 P.defs[k].res:=fun k hk=>zIk m1 m2 hl (i:=k) (by rw[←hh,List.getElem?_map,List.getElem?_eq_getElem hk]; rfl) 0
 have hslot:∀(k:Nat) (hk:k<P.defs.length),∀s∈P.defs[k].slots,∃j:Int,s.id=idR j∧0≤j∧j<zAz nm (qD l nm) (qD l nm).length:=fun k hk s hs=>by have e:P.defs[k].slots=zAZ (zAz nm (qD l nm) k) ((qD l nm)[k]'(by omega)):=congrArg Hd.slots (hget k hk);rw[e]at hs;simp only[zAZ,List.mem_map,List.mem_range]at hs;obtain⟨j,hj,rfl⟩:=hs;have h1:=hrange k;have h2:=zKz nm (qD l nm) (i:=k) (by omega);have h3:=zPZ (mods:=nm) (ps:=qD l nm) (show k+1≤(qD l nm).length by omega);exact⟨_,rfl,by omega,by omega⟩
 refine⟨hh,by omega,by omega,hnd,fun d hd=>?_,fun d hd=>?_,fun r d hd hb=>?_⟩
 ·obtain⟨k,hk,rfl⟩:=List.getElem_of_mem hd;obtain⟨a1,a2,a3,a4⟩:=henv k hk;rw[zHp]at a2 a3;refine⟨a2,a3,fun hkd=>?_,?_,fun s hs=>a1.typs ⟨s.id,0,s.typ⟩ (List.mem_map.2 ⟨s,hs,rfl⟩)⟩
  ·have e1:P.defs[k].kind=((qD l nm)[k]'(by omega)).kind:=congrArg Hd.kind (hget k hk);have e2:P.defs[k].slots=zAZ (zAz nm (qD l nm) k) ((qD l nm)[k]'(by omega)):=congrArg Hd.slots (hget k hk);rw[e2,zCB];exact zSJ hl _ (List.getElem_mem _) (by rw[←e1]; exact hkd)
  ·have:=a1.nd;simp only[zBp]at this;rw[List.pairwise_map]at this;exact this.imp fun h e=>h ⟨e,rfl⟩
 ·obtain⟨k,hk,rfl⟩:=List.getElem_of_mem hd;have e1:P.defs[k].kind=((qD l nm)[k]'(by omega)).kind:=congrArg Hd.kind (hget k hk);rw[e1];have:=hpl _ (List.getElem_mem (show k<(qD l nm).length by omega));exact⟨this.kind0,this.kind5⟩
 ·obtain⟨hd1,rfl⟩:=zAC hd;obtain⟨k,hk,rfl⟩:=List.getElem_of_mem hd1;obtain⟨base,hb0,hbs⟩:=h.bodies;rw[hN]at hb0 hbs;have hbase:∀k,k≤P.defs.length→zAz nm (qD l nm) (qD l nm).length≤base k∧base k≤zAz nm (qD l nm) (qD l nm).length+32768*k:=by
   intro k;induction k with
   | zero=>intro _; rw[hb0]; omega
   | succ k ih =>
    intro hk;have ih:=ih (by omega);rcases hbs k P.defs[k] (List.getElem?_eq_getElem (by omega))with ⟨_,_,e⟩ | ⟨_,e,f,hr,e'⟩
    ·rw[e]; omega
    ·rw[e'];have:=hr.len;omega
  have hbk:=hbase k (by omega);have hr0:=hrange (qD l nm).length;rcases hbs k P.defs[k] (List.getElem?_eq_getElem hk)with ⟨h0,_,_⟩ | ⟨_,e,f,hr,_⟩
  ·rw[h0]at hb; cases hb
  ·have hlt:=hr.len;have hfc:∀c∈tmps e,∃j:Nat,∃hj:j<(tmps e).length,(tmps e)[j]=c∧f c=idR (base k+j):=fun c hc=>by obtain⟨j,hj,rfl⟩:=List.getElem_of_mem hc;exact⟨j,hj,rfl,hr.ids j hj⟩
   have hsb:∀b∈zBp P.defs[k],∃j:Int,b.id=idR j∧zGO f b.id=idR j∧0≤j∧j<zAz nm (qD l nm) (qD l nm).length:=fun b hb=>by simp only[zBp,List.mem_map]at hb;obtain⟨s,hs,rfl⟩:=hb;obtain⟨j,h1,h2,h3⟩:=hslot k hk s hs;have:=zZK (k:=j) h2 (by omega);refine⟨j,h1,?_,h2,h3⟩;simp only[zGO,h1];rw[if_neg (by omega)]
   have hF:Frs f (zBp P.defs[k]) e:=by
    refine⟨hr.nd,hr.num,fun c hc c' hc' he=>?_,fun b hb' c hc he=>?_,hr.len,fun b hb1 b' hb2 he=>?_⟩
    ·obtain⟨j,hj,e1,e2⟩:=hfc c hc;obtain⟨j',hj',e1',e2'⟩:=hfc c' hc';rw[e2,e2']at he;have:=zH0 (by omega) (by omega) (by omega) (by omega) he;have:j=j':=by omega
     subst this;rw[←e1,←e1']
    ·obtain⟨j,hj,e1,e2⟩:=hfc c hc;obtain⟨j',_,e3,h0,h1⟩:=hsb b hb';rw[e3,e2]at he;have:=zH0 (by omega) (by omega) (by omega) (by omega) he;omega
    ·obtain⟨j,e1,e2,h0,h1⟩:=hsb b hb1;obtain⟨j',e1',e2',h0',h1'⟩:=hsb b' hb2;rw[e2,e2']at he;rw[e1,e1',he]
   have hho:zTj P (hsV l nm):=fun k hk=>by
    have hk':k<P.defs.length:=by rw[←hh]at hk; simpa using hk
    have e:(hsV l nm)[k]=P.defs[k].hd:=by simp[←hh]
    exact⟨P.defs[k],by rw[e]; exact zJ3 hnd hk',e.symm⟩
   have:=qJs hho hr.wt hF;rw[←hr.body]at this;have e2:(zBp P.defs[k]).map (zIC f)=zBp P.defs[k]:=by
    rw[List.map_congr_left (g:=id)]
    ·simp
    ·intro b hb';obtain⟨j,e1,e2,_,_⟩:=hsb b hb';simp only[zIC,id,e2];rw[←e1]
   rw[e2]at this;exact this
theorem TyOk.valid {P:Prg}{hs:List Hd}(hh:zTj P hs){r:Nat}{t:Typ}(h:TyOk hs r t):∀n,r<n→jW P n t=true:=by
 induction h with
 | int r=>intro n hn; obtain⟨m,rfl⟩:∃m,n=m+1:=⟨n-1,by omega⟩; simp[jW]
 | bool r=>intro n hn; obtain⟨m,rfl⟩:∃m,n=m+1:=⟨n-1,by omega⟩; simp[jW]
 | list r t h ih =>
  intro n hn;obtain⟨m,rfl⟩:∃m,n=m+1:=⟨n-1,by omega⟩;simp[jW,ih m (by omega)]
 | dfn r k h h1 h2 h3 h4 ih =>
  intro n hn;obtain⟨m,rfl⟩:∃m,n=m+1:=⟨n-1,by omega⟩;obtain⟨d,hd,hhd⟩:=hh k h;have e1:d.kind=hs[k].kind:=congrArg Hd.kind hhd;simp[jW,zF3,hd,e1];omega
theorem TyOk.validT {P:Prg}{hs:List Hd}(hh:zTj P hs){r:Nat}{t:Typ}(h:TyOk hs r t)(hr:r<24):validT P t=true:=h.valid hh 24 hr
theorem Fit.at_ {P:Prg}{hs:List Hd}(h:Fit P hs)(k:Nat)(hk:k<hs.length):(dfn P hs[k].id).hd=hs[k]∧dfn P hs[k].id∈P.defs:=by
 obtain⟨d,hd,hhd⟩:=h.hd k hk;have:dfn P hs[k].id=d:=by simp[dfn,hd]
 rw[this];exact⟨hhd,(zAC hd).1⟩
theorem zRA {P:Prg}{hs:List Hd}(hf:Fit P hs){r:Nat}{t:Typ}(h:TyOk hs r t):r<24→∀n,r<n→Wf P n t:=by
 induction h with
 | int r=>intro hr n hn; obtain⟨m,rfl⟩:∃m,n=m+1:=⟨n-1,by omega⟩; exact⟨(TyOk.int r).validT hf.hd hr,.inl rfl⟩
 | bool r=>intro hr n hn; obtain⟨m,rfl⟩:∃m,n=m+1:=⟨n-1,by omega⟩; exact⟨(TyOk.bool r).validT hf.hd hr,.inr (.inl rfl)⟩
 | list r t h ih=>intro hr n hn; obtain⟨m,rfl⟩:∃m,n=m+1:=⟨n-1,by omega⟩; exact⟨(TyOk.list r t h).validT hf.hd hr,.inr (.inr (.inl ⟨rfl,t,rfl,ih (by omega) m (by omega)⟩))⟩
 | dfn r k h h1 h2 h3 h4 ih =>
  intro hr n hn;obtain⟨m,rfl⟩:∃m,n=m+1:=⟨n-1,by omega⟩;obtain⟨hd,hdm⟩:=hf.at_ k h;have e1:(dfn P hs[k].id).kind=hs[k].kind:=congrArg Hd.kind hd;have e2:(dfn P hs[k].id).slots=hs[k].slots:=congrArg Hd.slots hd;have hs':=hf.slots _ hdm;have hkd:hs[k].kind=0∨hs[k].kind=1:=by omega
  refine⟨(TyOk.dfn r k h h1 h2 h3 h4).validT hf.hd hr,.inr (.inr (.inr ⟨rfl,?_⟩))⟩;simp only[Typ.id_mk];refine⟨by rw[e1]; exact hkd,hs'.1,hs'.2.2.1 (by rw[e1]; exact hkd),fun s hs''=>?_⟩;rw[e2]at hs'';exact ih s hs'' (by omega) m (by omega)
theorem zRB {P:Prg}{hs:List Hd}(hf:Fit P hs){r:Nat}{t:Typ}(h:TyOk hs r t):r<24→∀n,r<n→Wz P n t:=by
 induction h with
 | int r=>intro hr n hn; obtain⟨m,rfl⟩:∃m,n=m+1:=⟨n-1,by omega⟩; exact⟨(TyOk.int r).validT hf.hd hr,.inl rfl⟩
 | bool r=>intro hr n hn; obtain⟨m,rfl⟩:∃m,n=m+1:=⟨n-1,by omega⟩; exact⟨(TyOk.bool r).validT hf.hd hr,.inr (.inl rfl)⟩
 | list r t h ih=>intro hr n hn; obtain⟨m,rfl⟩:∃m,n=m+1:=⟨n-1,by omega⟩; exact⟨(TyOk.list r t h).validT hf.hd hr,.inr (.inr (.inl rfl))⟩
 | dfn r k h h1 h2 h3 h4 ih =>
  intro hr n hn;obtain⟨m,rfl⟩:∃m,n=m+1:=⟨n-1,by omega⟩;obtain⟨hd,hdm⟩:=hf.at_ k h;have e1:(dfn P hs[k].id).kind=hs[k].kind:=congrArg Hd.kind hd;have e2:(dfn P hs[k].id).slots=hs[k].slots:=congrArg Hd.slots hd;have hs':=hf.slots _ hdm;have hkd:hs[k].kind=0∨hs[k].kind=1:=by omega
  refine⟨(TyOk.dfn r k h h1 h2 h3 h4).validT hf.hd hr,.inr (.inr (.inr ⟨rfl,?_⟩))⟩;simp only[Typ.id_mk];refine⟨by rw[e1]; exact hkd,hs'.1,hs'.2.2.1 (by rw[e1]; exact hkd),fun s hs''=>?_⟩;rw[e2]at hs'';exact ih s hs'' (by omega) m (by omega)
theorem zFY {P:Prg}:∀{ts:List Typ} {vs:List Val},zBK P ts vs=true→∀(j:Nat) (h1:j<ts.length) (h2:j<vs.length),zB7 P ts[j] vs[j]=true
 | t::ts,v::vs,h,j,h1,h2=>by
  rw[zBK,Bool.and_eq_true]at h;cases j with
  | zero=>exact h.1
  | succ j=>exact zFY h.2 j (by simpa using h1) (by simpa using h2)
theorem zRb {P:Prg}{hs:List Hd}(hf:Fit P hs){r:Nat}{t:Typ}(h:TyOk hs r t):∀v,zB7 P t v=true→TyV P t v:=by
 induction h with
 | int r =>
  intro v hv;rw[zCq]at hv;simp at hv;obtain⟨_,⟨⟨h1,h2⟩,h3⟩,h4⟩:=hv;obtain⟨k,n,l⟩:=v;simp only[Val.k,Val.n,Val.kids]at h1 h2 h3 h4;subst h1 h2;exact .int n h3 h4
 | bool r =>
  intro v hv;rw[zCq]at hv;simp at hv;obtain⟨_,⟨h1,h2⟩,h3⟩:=hv;obtain⟨k,n,l⟩:=v;simp only[Val.k,Val.n,Val.kids]at h1 h2 h3;subst h1 h2;exact .bool n h3
 | list r t h ih =>
  intro v hv;rw[zCq]at hv;simp at hv;obtain⟨_,⟨h1,h2⟩,h3⟩:=hv;obtain⟨k,n,l⟩:=v;simp only[Val.k,Val.n,Val.kids]at h1 h2 h3;subst h1 h2;exact .list _ _ fun x hx=>ih x (h3 x hx)
 | dfn r k h h1 h2 h3 h4 ih =>
  intro v hv;obtain⟨d,hd,hhd⟩:=hf.hd k h;have e1:d.kind=hs[k].kind:=congrArg Hd.kind hhd;have e2:d.slots=hs[k].slots:=congrArg Hd.slots hhd;have ed:dfn P hs[k].id=d:=by simp[dfn,hd]
  rw[zCq]at hv;simp only[Typ.k_mk,Typ.id_mk,ed]at hv;obtain⟨kk,n,l⟩:=v;by_cases hk:d.kind=1
  ·simp[hk,Val.k,Val.n,Val.kids]at hv;obtain⟨_,⟨⟨⟨g1,g2⟩,g3⟩,g4⟩,g5⟩:=hv;replace g1:=of_decide_eq_true g1;replace g2:=of_decide_eq_true g2;replace g3:=of_decide_eq_true g3;replace g4:=of_decide_eq_true g4;obtain⟨x,rfl⟩:=List.length_eq_one_iff.1 g4;obtain⟨j,rfl⟩:∃j:Nat,n=j:=⟨n.toNat,by omega⟩;have hj:j<d.slots.length:=by omega
   rw[Int.toNat_natCast,List.getElem?_eq_getElem hj,Option.map_some,zRa]at g5;subst g1;exact .case _ d j x hd hk hj (ih d.slots[j] (by rw[←e2]; exact List.getElem_mem hj) x g5)
  ·simp[hk,Val.k,Val.n,Val.kids]at hv;obtain⟨_,⟨⟨g1,g2⟩,g3⟩,g4⟩:=hv;replace g1:=of_decide_eq_true g1;replace g2:=of_decide_eq_true g2;replace g3:=of_decide_eq_true g3;subst g1 g2;refine .record _ d l hd (by omega) g3 fun j hj=>?_
   have hjd:j<d.slots.length:=by omega
   have:=zFY g4 j (by simpa using hjd) hj;rw[List.getElem_map]at this;exact ih d.slots[j] (by rw[←e2]; exact List.getElem_mem hjd) l[j] this
structure InvX (I:XS→Prop):Prop where
 tick:∀e s,I s→¬s.fuel≤0→I (zD4 e s)
 dfn:∀(d:Id) s,I s→I {s with ds:=s.ds++[d]}
 fail:∀(x:Int) s,I s→I {s with fail:=x}
section
variable {p:Prg}{ev:Evl}{I:XS→Prop}
theorem zFn (h:∀e V s,I s→I (ev e V s).2)(V:List EVar):∀(l:List Exp) (s:XS),I s→I (qK ev V l s).2
 | [],s,hs=>hs
 | e::l,s,hs=>by simp only[qK]; exact zFn h V l _ (h e V s hs)
theorem zFZ (h:∀e V s,I s→I (ev e V s).2)(V:List EVar)(i:Id)(b:Exp):∀(l:List Val) (r:Val×XS),I r.2→I (jR ev V i b l r).2
 | [],r,hs=>hs
 | e::l,r,hs=>by simp only[jR]; exact zFZ h V i b l _ (h _ _ _ hs)
theorem zFT (hI:InvX I)(h:∀e V s,I s→I (ev e V s).2)(d:Dfn)(vs:List Val)(s:XS)(hs:I s):I (zA6 ev d vs s).2:=by
 unfold zA6;split
 ·exact hs
 ·exact h _ _ _ (hI.dfn d.id s hs)
theorem zNz (h:∀e V s,I s→I (ev e V s).2)(e:Exp)(V:List EVar)(s:XS)(hs:I s):I (jA ev e V s).2:=by
 unfold jA;have h0:=h (e.kids.headD .zero) V s hs;generalize ev (e.kids.headD .zero) V s=r at *
 repeat' split
 all_goals first
  | exact h0
  | exact h _ _ _ h0
  | exact zFZ h _ _ _ _ _ (h _ _ _ h0)
theorem zQx (hI:InvX I)(h:∀e V s,I s→I (ev e V s).2)(fl:Nat)(e:Exp)(V:List EVar)(s:XS)(hs:I s):I (qJ p fl ev e V s).2:=by
 unfold qJ;have h0:=zFn h V e.kids s hs;generalize qK ev V e.kids s=r at *
 repeat' split
 all_goals first
  | exact hs
  | exact h0
  | exact zNz h _ _ _ hs
  | exact zFT hI h _ _ _ h0
theorem zDs (hI:InvX I)(fl:Nat):∀(n:Nat) e V s,I s→I (zAs p fl n e V s).2
 | 0,e,V,s,hs=>by
  rw[zAs];split
  ·exact hs
  ·exact hI.fail _ _ hs
 | n+1,e,V,s,hs=>by
  rw[zAs];split
  ·exact hs
  ·split
   ·exact hI.fail _ _ hs
   ·rename_i h;have:=zQx (p:=p) hI (zDs hI fl n) fl e V _ (hI.tick e s hs h);show I (zB8 _);unfold zB8;split
    ·exact hI.fail _ _ this
    ·exact this
def Fu (F:Int)(s:XS):Prop:=0≤s.fuel∧s.fuel≤F
theorem zKj (F:Int):InvX (Fu F) :=
 ⟨fun e s h hf=>⟨by unfold zD4; dsimp only; omega,by unfold zD4; have:=h.2; dsimp only; omega⟩,fun d s h=>h,fun x s h=>h⟩
theorem zJG (h:zFf ev)(V:List EVar):∀(l:List Exp) (s:XS) (i k:Nat),i≤k→(qK ev V (l.take k) s).2.fail=0→(qK ev V (l.take i) s).2.fail=0
 | [],s,i,k,_,h0=>by simpa using h0
 | e::l,s,0,k,_,h0=>by
  by_cases hs:s.fail=0
  ·simpa [qK] using hs
  ·rw[zEe h V _ _ hs]at h0;exact(hs h0).elim
 | e::l,s,i+1,0,hik,h0=>by omega
 | e::l,s,i+1,k+1,hik,h0=>by simp only[List.take_succ_cons,qK]at h0 ⊢;exact zJG h V l _ i k (by omega) h0
theorem zJF (h:zFf ev)(V:List EVar):∀(l:List Exp) (s:XS),s.fail=0→(qK ev V l s).2.fail≠0 →
 ∃(k:Nat) (hk:k<l.length),(qK ev V (l.take k) s).2.fail=0∧(ev l[k] V (qK ev V (l.take k) s).2).2=(qK ev V l s).2
 | [],s,hs,hf=>(hf hs).elim
 | e::l,s,hs,hf=>by
  by_cases h0:(ev e V s).2.fail=0
  ·simp only[qK]at hf;obtain⟨k,hk,h1,h2⟩:=zJF h V l _ h0 hf;exact⟨k+1,by simpa using hk,by simpa only[List.take_succ_cons,qK] using h1,by simpa only[List.take_succ_cons,qK,List.getElem_cons_succ] using h2⟩
  ·refine⟨0,by simp,hs,?_⟩;simp only[List.take_zero,qK,List.getElem_cons_zero];rw[zEe h V l _ h0]
theorem zIp (h:zFf ev)(V:List EVar)(x:Id)(b:Exp):∀(l:List Val) (r:Val×XS) (i k:Nat),i≤k→(jR ev V x b (l.take k) r).2.fail=0→(jR ev V x b (l.take i) r).2.fail=0
 | [],r,i,k,_,h0=>by simpa using h0
 | v::l,r,0,k,_,h0=>by
  by_cases hs:r.2.fail=0
  ·simpa [jR] using hs
  ·rw[zC5 h V _ _ _ _ hs]at h0;exact(hs h0).elim
 | v::l,r,i+1,0,hik,h0=>by omega
 | v::l,r,i+1,k+1,hik,h0=>by simp only[List.take_succ_cons,jR]at h0 ⊢;exact zIp h V x b l _ i k (by omega) h0
theorem zJe (h:zFf ev)(V:List EVar)(x:Id)(b:Exp):∀(l:List Val) (r:Val×XS),r.2.fail=0→(jR ev V x b l r).2.fail≠0 →
 ∃(k:Nat) (_:k<l.length),(jR ev V x b (l.take k) r).2.fail=0∧(jR ev V x b (l.take (k+1)) r).2=(jR ev V x b l r).2
 | [],r,hs,hf=>(hf hs).elim
 | v::l,r,hs,hf=>by
  simp only[jR]at hf;by_cases h0:(ev b (V++[⟨x,0,v⟩]++[⟨x,1,r.1⟩]) r.2).2.fail=0
  ·obtain⟨k,hk,h1,h2⟩:=zJe h V x b l _ h0 hf;exact⟨k+1,by simpa using hk,by simpa only[List.take_succ_cons,jR] using h1,by simpa only[List.take_succ_cons,jR] using h2⟩
  ·refine⟨0,by simp,hs,?_⟩;simp only[Nat.zero_add,List.take_succ_cons,List.take_zero,jR];rw[zC5 h V _ _ _ _ h0]
end
def mcN:Nat→Nat
 | 0=>1
 | f+1=>1+3*mcN f
theorem zID {g:Typ→Int→Val×Int}{c:Nat}:∀(l:List Typ) (a:Int),(∀t∈l,∀b,qH (g t b).1≤c)→qV (zAR g l a).1≤l.length*c
 | [],a,_=>by simp[zAR,qV]
 | t::l,a,h=>by
  have h1:=h t (by simp) a;have h2:=zID l (g t a).2 fun x hx b=>h x (by simp[hx]) b
  simp only[zAR,qV,List.length_cons,Nat.add_mul,Nat.one_mul];omega
theorem zGh (p:Prg)(l:List Int)(hl:∀x∈l,w64 x=x):∀(f:Nat) (t:Typ) (a d:Int),Wf p f t→qH (yD p l f t a d).1≤mcN f
 | 0,t,a,d,h=>h.elim
 | f+1,t,a,d,h=>by
  unfold Wf at h;obtain⟨_,h⟩:=h;have hx:=yS (i:=a) hl (show (0:Int)<1048576 by omega);unfold mcN;by_cases h0:t.k=0
  ·rw[yD,if_pos h0]; simp[qH,qV]
  by_cases h1:t.k=1
  ·rw[yD,if_neg h0,if_pos h1]; simp[qH,qV]
  by_cases h2:t.k=2
  ·obtain⟨_,x,hx1,hx2⟩:=h.resolve_left h0|>.resolve_left h1|>.resolve_right (fun e=>by omega);rw[yD,if_neg h0,if_neg h1,if_pos h2];have hkid:t.kids.headD Typ.zero=x:=by rw[hx1]; rfl
   rw[hkid];have hq:(if 3<d then 0 else ((atV l a 1048576).tmod 3).toNat)≤3:=by
    split
    ·omega
    ·have:=Int.tmod_lt_of_pos (atV l a 1048576) (show (0:Int)<3 by omega);omega
   generalize (if 3<d then 0 else ((atV l a 1048576).tmod 3).toNat)=q at hq;have:=zID (g:=fun t b=>yD p l f t b (w64 (d+1))) (c:=mcN f) (List.replicate q x) (w64 (a+1)) fun y hy b=>by rw[List.eq_of_mem_replicate hy];exact zGh p l hl f x b _ hx2
   rw[List.length_replicate]at this;have:q*mcN f≤3*mcN f:=Nat.mul_le_mul_right _ hq;simp only[qH];omega
  obtain⟨_,_,_,g3,g4⟩:=h.resolve_left h0|>.resolve_left h1|>.resolve_left (fun e=>h2 e.1);by_cases hk:(dfn p t.id).kind=1
  ·rw[yD,if_neg h0,if_neg h1,if_neg h2,if_pos hk];have key:∀y:Typ,y=Typ.zero∨Wf p f y→qH (yD p l f y (w64 (a+1)) (w64 (d+1))).1≤3*mcN f:=by
    intro y hy;rcases hy with rfl | hy
    ·cases f with
     | zero=>simp[yD,qH,qV,mcN]
     | succ f=>rw[yD,if_pos (by rfl)]; simp[qH,qV,mcN]; omega
    ·have:=zGh p l hl f y (w64 (a+1)) (w64 (d+1)) hy;omega
   have:=key (((dfn p t.id).slots.map Slt.typ).getD ((atV l a 1048576).tmod (dfn p t.id).slots.length).toNat Typ.zero) (by
    rw[List.getD_eq_getElem?_getD,List.getElem?_map];cases hg:(dfn p t.id).slots[((atV l a 1048576).tmod (dfn p t.id).slots.length).toNat]? with
    | none=>left; rfl
    | some s=>right; exact g4 s (List.mem_of_getElem? hg))
   simp only[qH,qV];omega
  ·rw[yD,if_neg h0,if_neg h1,if_neg h2,if_neg hk];have:=zID (g:=fun t b=>yD p l f t b (w64 (d+1))) (c:=mcN f) ((dfn p t.id).slots.map Slt.typ) (w64 (a+1)) fun y hy b=>by obtain⟨s,hs,rfl⟩:=List.mem_map.1 hy;exact zGh p l hl f s.typ b _ (g4 s hs)
   rw[List.length_map]at this;have:(dfn p t.id).slots.length*mcN f≤3*mcN f:=Nat.mul_le_mul_right _ g3;simp only[qH];omega
theorem zFt:∀{l:List Val} {c:Nat},(∀v∈l,zA0 v≤c)→yV l≤c
 | [],c,_=>by simp[yV]
 | v::l,c,h=>by
  have h1:=h v (by simp);have h2:=zFt (l:=l) (c:=c) fun x hx=>h x (by simp[hx])
  simp only[yV];omega
theorem zLi (p:Prg):∀(f:Nat) (t:Typ),zA0 (zAx p f t)≤f+1
 | 0,t=>by simp[zAx,zA0,yV]
 | f+1,t=>by
  unfold zAx;have hm:∀v∈(dfn p t.id).slots.map fun s=>zAx p f s.typ,zA0 v≤f+1:=fun v hv=>by obtain⟨s,_,rfl⟩:=List.mem_map.1 hv;exact zLi p f s.typ
  split
  ·simp[zA0,yV]
  ·split
   ·simp[zA0,yV]
   ·split
    ·simp[zA0,yV]
    ·split
     ·simp only[zA0];have:=zFt (l:=((dfn p t.id).slots.map fun s=>zAx p f s.typ).take 1) fun v hv=>hm v (List.mem_of_mem_take hv)
      omega
     ·simp only[zA0];have:=zFt hm;omega
theorem zPa {p:Prg}{l:List Int}(hl:∀x∈l,w64 x=x){t:Typ}(hf:Wf p 10 t)(hz:Wz p 5 t):qH (zD6 p t l)≤256∧zA0 (zD6 p t l)≤24:=by
 unfold zD6;have hm:=zGh p l hl 10 t 0 1 hf;have:mcN 10=88573:=by decide
 split
 ·have h1:=zGq p 5 t hz;have h2:=zLi p 5 t;have:zcN 5=121:=by decide
  exact⟨by omega,by omega⟩
 ·rename_i h;have h1:=zIF (yD p l 10 t 0 1).1 (by omega);have h2:=zJU (yD p l 10 t 0 1).1 (by omega);exact⟨by omega,by omega⟩
def zCZ (p:Prg)(d:Dfn)(l:List Int):List Val:=d.slots.mapIdx fun i s=>zD6 p s.typ (l.drop (min (7*i) l.length))
theorem zRG (p:Prg)(d:Dfn)(l:List Int):(zCZ p d l).length=d.slots.length:=by simp[zCZ]
theorem zNw {p:Prg}{hs:List Hd}(hf:Fit p hs){d:Dfn}(hd:d∈p.defs){l:List Int}(hl:∀x∈l,w64 x=x):∀v∈zCZ p d l,qH v≤256∧zA0 v≤24:=fun v hv=>by simp only[zCZ,List.mem_mapIdx]at hv;obtain⟨i,hi,rfl⟩:=hv;have ht:=(hf.slots d hd).2.2.2.2 _ (List.getElem_mem hi);exact zPa (fun x hx=>hl x (List.mem_of_mem_drop hx)) (zRA hf ht (by omega) 10 (by omega)) (zRB hf ht (by omega) 5 (by omega))
theorem zKl (l:List Int)(n:Nat):(yF l).drop n=yF (l.drop n):=by simp[yF]
def qF2:K:=G [kO 3 0,kO 4 1,kMn 6] (G [kMn 7] (Z (G [kMi 8 0] (K.block 0 (K.loop (Z (G [M 9 8,D 10 4 8,L 11 10 1,kN 12 11,kB 13 9 12 .lss] (Y 13 ks (K.exit 0))) (Z (K.block 1 (K.dops [(0,0,M 16 7),(1,0,J 17 3 2),(2,0,D 18 4 8),(3,0,L 19 18 1),(4,0,M 20 8),(5,0,kX 21 19 20 11),(6,0,D 22 21 4),(7,0,J 23 22 5),(8,0,M 24 2),(9,0,M 25 8),(10,0,⟨none,.bin (some 26) .mul (kc 7) (kt 25)⟩),(11,0,M 27 2),(12,0,kN 28 27),(13,0,⟨none,.mm (some 29) false [(kt 26),(kt 28)]⟩),(14,0,⟨none,.slc (some 30) (kt 24) 1 (some (kt 29)) none none⟩),(15,0,kC 31 87 [(kt 17),(kt 23),(kt 30)]),(16,0,kd 32 47 3 1 [ki,ki,kl] [(0,3,(kt 31))]),(17,0,kP 33 47 3 40 16 32),(18,0,M 7 33)])) (K.ops [M 14 8,kBi 15 14 1 .add,M 8 15])))))) (G [M 34 7,M 6 34] kr)))
theorem qMm:zL Tryz.prog Tryz.f38.ntmps (Tryz.f38.body.getD .skip)=some qF2.erase:=by kernel_rfl
@[simp] theorem qNq:zA Tryz.prog 38=true:=by kernel_rfl
set_option maxHeartbeats 1000000 in
theorem zW3 {p:Prg}{hs:List Hd}(hf:Fit p hs){d:Dfn}(hd:d∈p.defs)(l:List Int)(hl:∀x∈l,w64 x=x) :
 Ret Tryz.prog 38 [.agg (zU p),.agg (zP d),.sl l.length (yF l)] [] (.sl (zCZ p d l).length (zV (zCZ p d l))) []:=by
 have hL8:=hf.len8;obtain⟨_,s6,_,_,sty⟩:=hf.slots d hd;have hlen:=zRG p d l;refine zK Tryz.func38 rfl qMm (rs:=[.slot 6]) (by kernel_rfl) ?_;unfold qF2;simp[zU,zP];refine qZ (S:=Nat) (fun i=>[(2,.sl l.length (yF l)),(3,.ptr 0 0),(4,.ptr 1 0),(7,.row 2 i),(8,int i)]) (fun i=>[.box (zU p),.box (zP d),.row false 47 3 i (zV ((zCZ p d l).take i))]) (fun i=>i≤d.slots.length) (fun i=>d.slots.length-i) 0 (by simp)
  ((yA (t:=7) (by simp) 47 3).trans (zS [0,1,2] 0 (by decide) (by simp) (by simp[zU,zP]) (by simp))) ?_
 intro i hi;have hw:IntKind.i64.wrap ((i:Int)+1)=(i:Int)+1:=IntWalk.i64_in _ (by omega);by_cases hil:i<d.slots.length
 ·have hia:i<(zCZ p d l).length:=by omega
  have ht:=sty _ (List.getElem_mem hil);have hv:=zWl p (by omega) (l.drop (min (7*i) l.length)) (fun x hx=>hl x (List.mem_of_mem_drop hx)) d.slots[i].typ (zRA hf ht (by omega) 10 (by omega)) (zRB hf ht (by omega) 5 (by omega));have hst:zV ((zCZ p d l).take (i+1))=zV ((zCZ p d l).take i)++[.lit (.int .i64 (zD6 p d.slots[i].typ (l.drop (min (7*i) l.length))).k),.lit (.int .i64 (zD6 p d.slots[i].typ (l.drop (min (7*i) l.length))).n),.sl (zD6 p d.slots[i].typ (l.drop (min (7*i) l.length))).kids.length (zV (zD6 p d.slots[i].typ (l.drop (min (7*i) l.length))).kids)]:=by rw[List.take_succ_eq_append_getElem hia,zAK];simp[zCZ]
  have hw7:IntKind.i64.wrap (7*(i:Int))=((7*i:Nat):Int):=by rw[IntWalk.i64_in _ (by omega)]; omega
  generalize zD6 p d.slots[i].typ (l.drop (min (7*i) l.length))=v at hv hst;have hdl:(yF (l.drop (min (7*i) l.length))).take (l.length-min (7*i) l.length)=yF (l.drop (min (7*i) l.length)):=List.take_of_length_le (by simp[yF]);rw[List.length_drop]at hv;obtain⟨q,hq⟩:∃q:Nat,q=7*i:=⟨_,rfl⟩;rw[←hq]at hw7 hv hdl;by_cases hc:l.length<q
  ·have e:min q l.length=l.length:=by omega
   rw[e]at hv hdl;have hc':(l.length:Int)<(q:Int):=by omega
   simp[zU,zP,hil,jL hil,zAd,hw7,hc',zKl]
   intros
   refine qE hv (by simp[zU,zB,yF]) (by simp[zI]) ?_;simp[zI];refine⟨⟨by simp[maxLen]; omega,by omega⟩,?_⟩;exact zT (i+1) hil (by omega) (zS [0,1,2] 0 (by decide) (by simp) (by simp[zU,zP,hst]) (by simp[hw]))
  ·have e:min q l.length=q:=by omega
   rw[e]at hv hdl;have hc':¬(l.length:Int)<(q:Int):=by omega
   have hle:q≤l.length:=by omega
   simp[zU,zP,hil,jL hil,zAd,hw7,hc',hle,zKl,hdl]
   intros
   refine qE hv (by simp[zU,zB]) (by simp[zI]) ?_;simp[zI];refine⟨⟨by simp[maxLen]; omega,by omega⟩,?_⟩;exact zT (i+1) hil (by omega) (zS [0,1,2] 0 (by decide) (by simp) (by simp[zU,zP,hst]) (by simp[hw]))
 ·have hie:i=d.slots.length:=by omega
  subst hie;have hall:(zCZ p d l).take d.slots.length=zCZ p d l:=by rw[←hlen]; exact List.take_length
  rw[hall];simp[zU,zP]
  intros
  exact zC 1 (by simp[hlen])
end Go.Proofs.YthglhccibdlccaaGreatDoor

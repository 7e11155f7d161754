/-
  The maker's programs: their definitions have IDs of their own, their bodies have types, their types have few levels.
-/
import Derived.Test.YthglhccibdlccaaGreatDoorX40
import Derived.Test.YthglhccibdlccaaGreatDoorX39
import Derived.Test.YthglhccibdlccaaGreatDoorX31
set_option linter.unusedVariables false
set_option linter.unusedSimpArgs false
namespace Go.Proofs.YthglhccibdlccaaGreatDoor
open Go.Abs
def zG9 (f:Int→Id)(x:Id):Id:=if x.b=0 then f x.c else x
def zIv (f:Int→Id)(b:Bnd):Bnd:={b with id:=zG9 f b.id}
def qFG (f:Int→Id)(env:List Bnd):Prop:=∀b∈env,∀b'∈env,zG9 f b.id=zG9 f b'.id→b.id=b'.id
theorem zTt {f:Int→Id}{env:List Bnd}(h:qFG f env){x:Id}{n:Int}{t:Typ}:zCf env x n=some t→zCf (env.map (zIv f)) (zG9 f x) n=some t:=by
 have hmem:zCf env x n=some t→∃b∈env,b.id=x:=by intro he;unfold zCf at he;rw[Option.map_eq_some_iff]at he;obtain⟨b,hb,_⟩:=he;have h1:=List.find?_some hb;have h2:=List.mem_of_find?_eq_some hb;rw[Bool.and_eq_true]at h1;exact⟨b,List.mem_reverse.1 h2,of_decide_eq_true h1.1⟩
 intro he;obtain⟨b0,hb0,rfl⟩:=hmem he;clear hmem;have key:∀l:List Bnd,(∀b∈l,b∈env)→zCf l b0.id n=some t→zCf (l.map (zIv f)) (zG9 f b0.id) n=some t:=by
  intro l;induction l using zB3 with
  | nil=>intro _ h; simp[zCf]at h
  | snoc l y ih =>
   intro hl hk;rw[zEC]at hk;rw[List.map_append,List.map_singleton,zEC];have hy:=hl y (by simp);by_cases c1:y.id=b0.id
   ·by_cases c2:y.n=n
    ·rw[if_pos ⟨c1,c2⟩]at hk;rw[if_pos ⟨by simp only[zIv]; rw[c1],c2⟩];exact hk
    ·rw[if_neg fun h=>c2 h.2]at hk;rw[if_neg fun h=>c2 h.2];exact ih (fun b hb=>hl b (List.mem_append_left _ hb)) hk
   ·rw[if_neg fun h=>c1 h.1]at hk;rw[if_neg fun e=>c1 (h y hy b0 hb0 e.1)];exact ih (fun b hb=>hl b (List.mem_append_left _ hb)) hk
 exact key env (fun _ h=>h) he
theorem zM5:∀l:List Exp,l.length≤(qW l).length
 | []=>by simp
 | e::l=>by
  have:=zM5 l;have h1:1≤(tmps e).length:=by rw[zAs]; simp
  simp only[List.length_cons,qW,List.length_append];omega
theorem zKR:∀{l:List Exp} {e:Exp},e∈l→(tmps e).Sublist (qW l)
 | x::l,e,h=>by
  simp only[qW];rcases List.mem_cons.1 h with rfl | h
  ·exact List.sublist_append_left _ _
  ·exact(zKR h).trans (List.sublist_append_right _ _)
structure Frs (f:Int→Id)(env:List Bnd)(e:Exp):Prop where
 nd:(tmps e).Nodup
 num:e.num0
 inj:∀c∈tmps e,∀c'∈tmps e,f c=f c'→c=c'
 new:∀b∈env,∀c∈tmps e,zG9 f b.id≠f c
 len:(tmps e).length≤32768
 ib:qFG f env
section
variable {f:Int→Id}{env:List Bnd}{i:Id}{k n:Int}{r:Id}{u:Typ}{ks:List Exp}{ns:List ByteArray}
theorem Frs.id (h:Frs f env (.mk i k n r u ks ns)):i=⟨0,0,i.c⟩:=by obtain⟨a,b,c⟩:=i;have:=h.num;simp only[Exp.num0]at this;simp[this.1.1,this.1.2]
theorem Frs.kid (h:Frs f env (.mk i k n r u ks ns)){e:Exp}(he:e∈ks):Frs f env e:=by
 obtain⟨h1,h2,h3,h4,h5,h6⟩:=h;simp only[tmps]at h1 h3 h4 h5;simp only[Exp.num0,zIk]at h2;have hs:=zKR he;have hm:∀c∈tmps e,c∈qW ks++[i.c]:=fun c hc=>List.mem_append_left _ (hs.subset hc)
 exact⟨(List.nodup_append.1 h1).1.sublist hs,h2.2 e he,fun c hc c' hc'=>h3 c (hm c hc) c' (hm c' hc'),fun b hb c hc=>h4 b hb c (hm c hc),by
  have:=hs.length_le;rw[List.length_append]at h5;omega,h6⟩
theorem Frs.push (h:Frs f env (.mk i k n r u ks ns)){e:Exp}(he:e∈ks)(m:Int)(t:Typ){env':List Bnd}(hb:env'=env∨∃m' t',env'=env++[⟨i,m',t'⟩]):Frs f (env'++[⟨i,m,t⟩]) e:=by
 have hk:=h.kid he;have hi:=h.id;obtain⟨h1,h2,h3,h4,h5,h6⟩:=h;simp only[tmps]at h1 h3 h4;have hic:i.c∈qW ks++[i.c]:=by simp
 have hri:zG9 f i=f i.c:=by unfold zG9; rw[if_pos (by rw[hi])]
 have hmem:∀b∈env'++[(⟨i,m,t⟩:Bnd)],b∈env∨b.id=i:=by
  intro b hb';rcases List.mem_append.1 hb' with hb' | hb'
  ·rcases hb with rfl | ⟨m',t',rfl⟩
   ·exact .inl hb'
   ·rcases List.mem_append.1 hb' with hb' | hb'
    ·exact .inl hb'
    ·rw[List.mem_singleton.1 hb']; exact .inr rfl
  ·rw[List.mem_singleton.1 hb']; exact .inr rfl
 refine⟨hk.nd,hk.num,hk.inj,fun b hb' c hc=>?_,hk.len,fun b hb1 b' hb2 e=>?_⟩
 ·rcases hmem b hb' with h' | h'
  ·exact hk.new b h' c hc
  ·rw[h',hri];intro e;have hc':=(zKR he).subset hc;have:=h3 i.c hic c (List.mem_append_left _ hc') e;exact(List.nodup_append.1 h1).2.2 c hc' i.c (by simp) this.symm
 ·rcases hmem b hb1 with h' | h'<;>rcases hmem b' hb2 with h'' | h''
  ·exact h6 b h' b' h'' e
  ·rw[h'',hri]at e;exact(h4 b h' i.c hic e).elim
  ·rw[h',hri]at e;exact(h4 b' h'' i.c hic e.symm).elim
  ·rw[h',h'']
theorem Frs.fresh (h:Frs f env (.mk i k n r u ks ns)):∀x∈env.map (zIv f),x.id≠f i.c:=by intro x hx;obtain⟨b,hb,rfl⟩:=List.mem_map.1 hx;exact h.new b hb i.c (by simp[tmps])
theorem Frs.kids (h:Frs f env (.mk i k n r u ks ns)):(ks.map (zBK f)).length≤32768:=by have h1:=h.len;have h2:=zM5 ks;simp only[tmps,List.length_append]at h1;rw[List.length_map];omega
end
theorem zA3 {f:Int→Id}{i:Id}{k n:Int}{r:Id}{u:Typ}{ks:List Exp}{ns:List ByteArray}(h:k≠2):zBK f (.mk i k n r u ks ns)=.mk (f i.c) k n r u (ks.map (zBK f)) ns:=by simp only[zBK,zEl,h,false_and,if_false]
def zTY (P:Prg)(hs:List Hd):Prop:=∀(k:Nat) (h:k<hs.length),∃d,yV P.defs hs[k].id=some d∧d.hd=hs[k]
theorem qJP {P:Prg}{hs:List Hd}(hh:zTY P hs){f:Int→Id}{own:Int}{env:List Bnd}{e:Exp}{t:Typ}(h:WT hs own env e t):Frs f env e→WE P (env.map (zIv f)) (zBK f e) t:=by
 induction h with
 | int env i n h1 h2=>intro hF; rw[zA3 (by decide)]; exact .int _ _ _ _ _ _ h1 h2
 | bool env i n h=>intro hF; rw[zA3 (by decide)]; exact .bool _ _ _ _ _ _ h
 | var env i n x t h =>
  intro hF;have e:zBK f (.mk i 2 n x Typ.zero [] [])=.mk (f i.c) 2 n (zG9 f x) Typ.zero [] []:=by simp only[zBK,zH3,true_and,zG9]
  rw[e];exact .var _ _ _ _ _ _ _ (zTt hF.ib h)
 | call env i k h ks ho hk hl hw ih =>
  intro hF;obtain⟨d,hd,hhd⟩:=hh k h;have e1:d.kind=hs[k].kind:=congrArg Hd.kind hhd;have e2:d.slots=hs[k].slots:=congrArg Hd.slots hhd;have e3:d.res=hs[k].res:=congrArg Hd.res hhd;rw[zA3 (by decide),←e3];refine .call _ _ _ _ _ _ _ hF.kids d hd (by rw[e1]; exact hk) (by simp only[List.length_map,e2]; exact hl) fun j hj=>?_
  simp only[List.getElem_map,e2];rw[List.length_map]at hj;exact ih j hj (hF.kid (List.getElem_mem hj))
 | arith env i n a b h1 h2 ha hb iha ihb =>
  intro hF;rw[zA3 (by decide)];refine .op _ _ _ _ _ _ _ hF.kids [jF,jF] jF (.arith n h1 h2) rfl fun j hj=>?_
  match j,hj with
  | 0,_=>exact iha (hF.kid (by simp))
  | 1,_=>exact ihb (hF.kid (by simp))
 | less env i a b ha hb iha ihb =>
  intro hF;rw[zA3 (by decide)];refine .op _ _ _ _ _ _ _ hF.kids [jF,jF] jO .less rfl fun j hj=>?_
  match j,hj with
  | 0,_=>exact iha (hF.kid (by simp))
  | 1,_=>exact ihb (hF.kid (by simp))
 | same env i a b u ha hb iha ihb =>
  intro hF;rw[zA3 (by decide)];refine .op _ _ _ _ _ _ _ hF.kids [u,u] jO (.same u) rfl fun j hj=>?_
  match j,hj with
  | 0,_=>exact iha (hF.kid (by simp))
  | 1,_=>exact ihb (hF.kid (by simp))
 | andor env i n a b h ha hb iha ihb =>
  intro hF;rw[zA3 (by decide)];refine .op _ _ _ _ _ _ _ hF.kids [jO,jO] jO (.andor n h) rfl fun j hj=>?_
  match j,hj with
  | 0,_=>exact iha (hF.kid (by simp))
  | 1,_=>exact ihb (hF.kid (by simp))
 | not env i a ha iha =>
  intro hF;rw[zA3 (by decide)];refine .op _ _ _ _ _ _ _ hF.kids [jO] jO .not rfl fun j hj=>?_
  match j,hj with
  | 0,_=>exact iha (hF.kid (by simp))
 | join env i a b t ha hb iha ihb =>
  intro hF;rw[zA3 (by decide)];refine .op _ _ _ _ _ _ _ hF.kids [jG t,jG t] (jG t) (.join t) rfl fun j hj=>?_
  match j,hj with
  | 0,_=>exact iha (hF.kid (by simp))
  | 1,_=>exact ihb (hF.kid (by simp))
 | len env i a t ha iha =>
  intro hF;rw[zA3 (by decide)];refine .op _ _ _ _ _ _ _ hF.kids [jG t] jF (.len t) rfl fun j hj=>?_
  match j,hj with
  | 0,_=>exact iha (hF.kid (by simp))
 | ite env i a b c t ha hb hc iha ihb ihc =>
  intro hF;rw[zA3 (by decide)];exact .ite _ _ _ _ _ _ _ _ _ _ (iha (hF.kid (by simp))) (ihb (hF.kid (by simp))) (ihc (hF.kid (by simp)))
 | lets env i a b u t ns hn ha hb iha ihb =>
  intro hF;rw[zA3 (by decide)];have hb':=ihb (hF.push (by simp) 0 u (.inl rfl));rw[List.map_append,List.map_singleton]at hb';have hi:=hF.id;have e:zIv f ⟨i,0,u⟩=⟨f i.c,0,u⟩:=by simp only[zIv,zG9]; rw[if_pos (by rw[hi])]
  rw[e]at hb';exact .lets _ _ _ _ _ _ _ _ _ _ hF.fresh (iha (hF.kid (by simp))) hb'
 | record env i k h ks hk hl hw ih =>
  intro hF;obtain⟨d,hd,hhd⟩:=hh k h;have e1:d.kind=hs[k].kind:=congrArg Hd.kind hhd;have e2:d.slots=hs[k].slots:=congrArg Hd.slots hhd;rw[zA3 (by decide)];refine .record _ _ _ _ _ _ _ hF.kids d hd (by rw[e1]; exact hk) (by simp only[List.length_map,e2]; exact hl) fun j hj=>?_
  simp only[List.getElem_map,e2];rw[List.length_map]at hj;exact ih j hj (hF.kid (List.getElem_mem hj))
 | field env i k h j hj a hk ha iha =>
  intro hF;obtain⟨d,hd,hhd⟩:=hh k h;have e1:d.kind=hs[k].kind:=congrArg Hd.kind hhd;have e2:hs[k].slots=d.slots:=(congrArg Hd.slots hhd).symm;rw[zA3 (by decide)];have hjd:j<d.slots.length:=by rw[←e2]; exact hj
  have et:hs[k].slots[j]=d.slots[j]:=by simp only[e2]
  rw[et];exact .field _ _ _ _ _ _ d j hd (by rw[e1]; exact hk) hjd (iha (hF.kid (by simp)))
 | case env i k h j hj a hk ha iha =>
  intro hF;obtain⟨d,hd,hhd⟩:=hh k h;have e1:d.kind=hs[k].kind:=congrArg Hd.kind hhd;have e2:hs[k].slots=d.slots:=(congrArg Hd.slots hhd).symm;rw[zA3 (by decide)];have hjd:j<d.slots.length:=by rw[←e2]; exact hj
  have et:hs[k].slots[j]=d.slots[j]:=by simp only[e2]
  have ih:=iha (hF.kid (by simp));rw[et]at ih;exact .case _ _ _ _ _ _ d j hd (by rw[e1]; exact hk) hjd ih
 | mtch env i k h a ks t ns hn hk hl ha hw iha ih =>
  intro hF;obtain⟨d,hd,hhd⟩:=hh k h;have e1:d.kind=hs[k].kind:=congrArg Hd.kind hhd;have e2:d.slots=hs[k].slots:=congrArg Hd.slots hhd;rw[zA3 (by decide),List.map_cons];have hi:=hF.id;refine .mtch _ _ _ _ _ _ _ _ d _ hF.fresh hd (by rw[e1]; exact hk) (by simp only[List.length_map,e2]; exact hl) (iha (hF.kid (by simp))) fun j hj=>?_
  have hj':j<ks.length:=by rw[List.length_map]at hj; exact hj
  have:=ih j hj' (hF.push (List.mem_cons_of_mem _ (List.getElem_mem hj')) _ _ (.inl rfl));rw[List.map_append,List.map_singleton]at this;have e:∀t,zIv f ⟨i,j,t⟩=⟨f i.c,j,t⟩:=fun t=>by simp only[zIv,zG9]; rw[if_pos (by rw[hi])]
  rw[e]at this;simp only[List.getElem_map,e2];exact this
 | list env i t ks hw ih =>
  intro hF;rw[zA3 (by decide)];refine .list _ _ _ _ _ _ _ _ hF.kids fun j hj=>?_
  rw[List.length_map]at hj;rw[List.getElem_map];exact ih j hj (hF.kid (List.getElem_mem hj))
 | fold env i l s b u t ns hn hl hs' hb ihl ihs ihb =>
  intro hF;rw[zA3 (by decide)];have hb':=ihb (hF.push (by simp) 1 t (.inr ⟨0,u,rfl⟩));rw[List.map_append,List.map_singleton,List.map_append,List.map_singleton]at hb';have hi:=hF.id;have e:∀m t,zIv f ⟨i,m,t⟩=⟨f i.c,m,t⟩:=fun m t=>by simp only[zIv,zG9]; rw[if_pos (by rw[hi])]
  rw[e,e]at hb';exact .fold _ _ _ _ _ _ _ _ _ _ _ hF.fresh (ihl (hF.kid (by simp))) (ihs (hF.kid (by simp))) hb'
theorem zMR:∀{ds:List Dfn} (_:ds.Pairwise fun a b=>a.id≠b.id) {k:Nat} (hk:k<ds.length),yV ds ds[k].id=some ds[k]
 | d::ds,h,0,_=>by rw[zG0]; simp
 | d::ds,h,k+1,hk=>by
  rw[List.pairwise_cons]at h;have hk':k<ds.length:=by simpa using hk
  rw[zG0];have:=h.1 ds[k] (List.getElem_mem hk');simp only[List.getElem_cons_succ];rw[if_neg this];exact zMR h.2 hk'
structure Fit (P:Prg)(hs:List Hd):Prop where
 heads:P.defs.map Dfn.hd=hs
 len5:5≤P.defs.length
 len8:P.defs.length≤8
 nd:P.defs.Pairwise fun a b=>a.id≠b.id
 slots:∀d∈P.defs,1≤d.slots.length∧d.slots.length≤6∧(d.kind=0∨d.kind=1→d.slots.length≤3)∧(d.slots.Pairwise fun a b=>a.id≠b.id)∧∀s∈d.slots,TyOk hs 4 s.typ
 kinds:∀d∈P.defs,0≤d.kind∧d.kind≤5
 bods:zTP P
theorem Fit.hd {P:Prg}{hs:List Hd}(h:Fit P hs):zTY P hs:=fun k hk=>by
 have hk':k<P.defs.length:=by rw[←h.heads]at hk; simpa using hk
 have e:hs[k]=P.defs[k].hd:=by simp[←h.heads]
 refine⟨P.defs[k],?_,e.symm⟩;rw[e];exact zMR h.nd hk'
theorem zCd {ds:List Dfn}{r:Id}{d:Dfn}(h:yV ds r=some d):d∈ds∧d.id=r:=⟨List.mem_of_find?_eq_some h,by simpa using List.find?_some h⟩
section
variable {l:List Int}{mods:Int}(hl:∀x∈l,w64 x=x)
include hl
theorem zT1:∀p∈zX l mods,p.kind=0∨p.kind=1→p.types.length≤3:=by
 intro p hp;have a2:=yQ (i:=2) hl (most:=3) (by omega);have a6:=yQ (i:=6) hl (most:=2) (by omega);have a9:=yQ (i:=9) hl (most:=3) (by omega);have hp':p=zAZ l mods∨p=zBn l mods∨p=zC9 l mods∨p=zJh mods∨p.kind=2∨p.kind=3∨p.kind=4∨p.kind=5:=by
  simp only[zX,plB,plC,plD,plE,List.mem_append,List.mem_cons]at hp;rcases hp with ((h | h | h) | h) | h | h | h | h
  ·simp[h]
  ·simp[h]
  ·simp at h
  ·split at h
   ·simp at h; rcases h with h | h<;>simp[h]
   ·simp at h
  ·simp[h,pF]
  ·split at h<;>simp[h,zHz,pG]
  ·simp[h,pT]
  ·split at h
   ·simp at h; simp[h,pC]
   ·simp at h
 rcases hp' with rfl | rfl | rfl | rfl | h
 ·intro _; simp only[zAZ,zCD]; omega
 ·intro _; simp only[zBn,List.length_cons,zCD]; omega
 ·intro _; simp only[zC9,List.length_cons,zCD]; omega
 ·intro _; simp only[zJh,List.length_cons,List.length_nil]; omega
 ·omega
end
theorem PrgOk.fit {l:List Int}(hl:∀x∈l,w64 x=x){P:Prg}(h:PrgOk l P):Fit P (hsV l (nmV l)):=by
 obtain⟨hnm,hnm2⟩:=zQ3 l hl;generalize hN:nmV l=nm at *
 have m1:1≤(nm:Int):=by omega
 have m2:(nm:Int)≤2:=by omega
 obtain⟨n5,n8⟩:=zA1 l (nm:Int);have hh:=h.heads;rw[hN]at hh;have hlen:P.defs.length=(zX l nm).length:=by have:=congrArg List.length hh; simpa using this
 have hget:∀(k:Nat) (hk:k<P.defs.length),P.defs[k].hd=⟨idR (nm+k),((zX l nm)[k]'(by omega)).kind,zBc (zAv nm (zX l nm) k) ((zX l nm)[k]'(by omega)),((zX l nm)[k]'(by omega)).out⟩:=fun k hk=>by
  rw[←zEe nm (zX l nm) (by omega)];have:(P.defs.map Dfn.hd)[k]'(by simpa using hk)=(zLq nm (zX l nm))[k]'(by simpa using (by omega:k<(zX l nm).length)):=by simp only[hh]
  rwa [List.getElem_map]at this
 have hnd:P.defs.Pairwise fun a b=>a.id≠b.id:=by rw[List.pairwise_iff_getElem];intro i j hi hj hij e;have e1:P.defs[i].id=idR (nm+i):=congrArg Hd.id (hget i hi);have e2:P.defs[j].id=idR (nm+j):=congrArg Hd.id (hget j hj);rw[e1,e2]at e;have:=zHo (by omega) (by omega) (by omega) (by omega) e;omega
 have hpl:=zBw l nm m1 m2 hl;have hrange:=fun i=>zCO (show 0≤(nm:Int) by omega) (fun p hp=>(hpl p hp).t6) i
 have henv:∀(k:Nat) (hk:k<P.defs.length),EnvOk (hsV l nm) 4 0 (zBe P.defs[k])∧1≤(zBe P.defs[k]).length∧(zBe P.defs[k]).length≤6∧TyOk (hsV l nm) 4 P.defs[k].res:=fun k hk=>zGz m1 m2 hl (i:=k) (by rw[←hh,List.getElem?_map,List.getElem?_eq_getElem hk]; rfl) 0
 have hslot:∀(k:Nat) (hk:k<P.defs.length),∀s∈P.defs[k].slots,∃j:Int,s.id=idR j∧0≤j∧j<zAv nm (zX l nm) (zX l nm).length:=fun k hk s hs=>by have e:P.defs[k].slots=zBc (zAv nm (zX l nm) k) ((zX l nm)[k]'(by omega)):=congrArg Hd.slots (hget k hk);rw[e]at hs;simp only[zBc,List.mem_map,List.mem_range]at hs;obtain⟨j,hj,rfl⟩:=hs;have h1:=hrange k;have h2:=zKv nm (zX l nm) (i:=k) (by omega);have h3:=zQ2 (mods:=nm) (ps:=zX l nm) (show k+1≤(zX l nm).length by omega);exact⟨_,rfl,by omega,by omega⟩
 refine⟨hh,by omega,by omega,hnd,fun d hd=>?_,fun d hd=>?_,fun r d hd hb=>?_⟩
 ·obtain⟨k,hk,rfl⟩:=List.getElem_of_mem hd;obtain⟨a1,a2,a3,a4⟩:=henv k hk;rw[zFk]at a2 a3;refine⟨a2,a3,fun hkd=>?_,?_,fun s hs=>a1.typs ⟨s.id,0,s.typ⟩ (List.mem_map.2 ⟨s,hs,rfl⟩)⟩
  ·have e1:P.defs[k].kind=((zX l nm)[k]'(by omega)).kind:=congrArg Hd.kind (hget k hk);have e2:P.defs[k].slots=zBc (zAv nm (zX l nm) k) ((zX l nm)[k]'(by omega)):=congrArg Hd.slots (hget k hk);rw[e2,zCC];exact zT1 hl _ (List.getElem_mem _) (by rw[←e1]; exact hkd)
  ·have:=a1.nd;simp only[zBe]at this;rw[List.pairwise_map]at this;exact this.imp fun h e=>h ⟨e,rfl⟩
 ·obtain⟨k,hk,rfl⟩:=List.getElem_of_mem hd;have e1:P.defs[k].kind=((zX l nm)[k]'(by omega)).kind:=congrArg Hd.kind (hget k hk);rw[e1];have:=hpl _ (List.getElem_mem (show k<(zX l nm).length by omega));exact⟨this.kind0,this.kind5⟩
 ·obtain⟨hd1,rfl⟩:=zCd hd;obtain⟨k,hk,rfl⟩:=List.getElem_of_mem hd1;obtain⟨base,hb0,hbs⟩:=h.bodies;rw[hN]at hb0 hbs;have hbase:∀k,k≤P.defs.length→zAv nm (zX l nm) (zX l nm).length≤base k∧base k≤zAv nm (zX l nm) (zX l nm).length+32768*k:=by
   intro k;induction k with
   | zero=>intro _; rw[hb0]; omega
   | succ k ih =>
    intro hk;have ih:=ih (by omega);rcases hbs k P.defs[k] (List.getElem?_eq_getElem (by omega))with ⟨_,_,e⟩ | ⟨_,e,f,hr,e'⟩
    ·rw[e]; omega
    ·rw[e'];have:=hr.len;omega
  have hbk:=hbase k (by omega);have hr0:=hrange (zX l nm).length;rcases hbs k P.defs[k] (List.getElem?_eq_getElem hk)with ⟨h0,_,_⟩ | ⟨_,e,f,hr,_⟩
  ·rw[h0]at hb; cases hb
  ·have hlt:=hr.len;have hfc:∀c∈tmps e,∃j:Nat,∃hj:j<(tmps e).length,(tmps e)[j]=c∧f c=idR (base k+j):=fun c hc=>by obtain⟨j,hj,rfl⟩:=List.getElem_of_mem hc;exact⟨j,hj,rfl,hr.ids j hj⟩
   have hsb:∀b∈zBe P.defs[k],∃j:Int,b.id=idR j∧zG9 f b.id=idR j∧0≤j∧j<zAv nm (zX l nm) (zX l nm).length:=fun b hb=>by simp only[zBe,List.mem_map]at hb;obtain⟨s,hs,rfl⟩:=hb;obtain⟨j,h1,h2,h3⟩:=hslot k hk s hs;have:=qA0 (k:=j) h2 (by omega);refine⟨j,h1,?_,h2,h3⟩;simp only[zG9,h1];rw[if_neg (by omega)]
   have hF:Frs f (zBe P.defs[k]) e:=by
    refine⟨hr.nd,hr.num,fun c hc c' hc' he=>?_,fun b hb' c hc he=>?_,hr.len,fun b hb1 b' hb2 he=>?_⟩
    ·obtain⟨j,hj,e1,e2⟩:=hfc c hc;obtain⟨j',hj',e1',e2'⟩:=hfc c' hc';rw[e2,e2']at he;have:=zHo (by omega) (by omega) (by omega) (by omega) he;have:j=j':=by omega
     subst this;rw[←e1,←e1']
    ·obtain⟨j,hj,e1,e2⟩:=hfc c hc;obtain⟨j',_,e3,h0,h1⟩:=hsb b hb';rw[e3,e2]at he;have:=zHo (by omega) (by omega) (by omega) (by omega) he;omega
    ·obtain⟨j,e1,e2,h0,h1⟩:=hsb b hb1;obtain⟨j',e1',e2',h0',h1'⟩:=hsb b' hb2;rw[e2,e2']at he;rw[e1,e1',he]
   have hho:zTY P (hsV l nm):=fun k hk=>by
    have hk':k<P.defs.length:=by rw[←hh]at hk; simpa using hk
    have e:(hsV l nm)[k]=P.defs[k].hd:=by simp[←hh]
    exact⟨P.defs[k],by rw[e]; exact zMR hnd hk',e.symm⟩
   have:=qJP hho hr.wt hF;rw[←hr.body]at this;have e2:(zBe P.defs[k]).map (zIv f)=zBe P.defs[k]:=by
    rw[List.map_congr_left (g:=id)]
    ·simp
    ·intro b hb';obtain⟨j,e1,e2,_,_⟩:=hsb b hb';simp only[zIv,id,e2];rw[←e1]
   rw[e2]at this;exact this
theorem TyOk.valid {P:Prg}{hs:List Hd}(hh:zTY P hs){r:Nat}{t:Typ}(h:TyOk hs r t):∀n,r<n→jP P n t=true:=by
 induction h with
 | int r=>intro n hn; obtain⟨m,rfl⟩:∃m,n=m+1:=⟨n-1,by omega⟩; simp[jP]
 | bool r=>intro n hn; obtain⟨m,rfl⟩:∃m,n=m+1:=⟨n-1,by omega⟩; simp[jP]
 | list r t h ih =>
  intro n hn;obtain⟨m,rfl⟩:∃m,n=m+1:=⟨n-1,by omega⟩;simp[jP,ih m (by omega)]
 | dfn r k h h1 h2 h3 h4 ih =>
  intro n hn;obtain⟨m,rfl⟩:∃m,n=m+1:=⟨n-1,by omega⟩;obtain⟨d,hd,hhd⟩:=hh k h;have e1:d.kind=hs[k].kind:=congrArg Hd.kind hhd;simp[jP,zD0,hd,e1];omega
theorem TyOk.validT {P:Prg}{hs:List Hd}(hh:zTY P hs){r:Nat}{t:Typ}(h:TyOk hs r t)(hr:r<24):validT P t=true:=h.valid hh 24 hr
theorem Fit.at_ {P:Prg}{hs:List Hd}(h:Fit P hs)(k:Nat)(hk:k<hs.length):(dfn P hs[k].id).hd=hs[k]∧dfn P hs[k].id∈P.defs:=by
 obtain⟨d,hd,hhd⟩:=h.hd k hk;have:dfn P hs[k].id=d:=by simp[dfn,hd]
 rw[this];exact⟨hhd,(zCd hd).1⟩
theorem zSk {P:Prg}{hs:List Hd}(hf:Fit P hs){r:Nat}{t:Typ}(h:TyOk hs r t):r<24→∀n,r<n→Wf P n t:=by
 induction h with
 | int r=>intro hr n hn; obtain⟨m,rfl⟩:∃m,n=m+1:=⟨n-1,by omega⟩; exact⟨(TyOk.int r).validT hf.hd hr,.inl rfl⟩
 | bool r=>intro hr n hn; obtain⟨m,rfl⟩:∃m,n=m+1:=⟨n-1,by omega⟩; exact⟨(TyOk.bool r).validT hf.hd hr,.inr (.inl rfl)⟩
 | list r t h ih=>intro hr n hn; obtain⟨m,rfl⟩:∃m,n=m+1:=⟨n-1,by omega⟩; exact⟨(TyOk.list r t h).validT hf.hd hr,.inr (.inr (.inl ⟨rfl,t,rfl,ih (by omega) m (by omega)⟩))⟩
 | dfn r k h h1 h2 h3 h4 ih =>
  intro hr n hn;obtain⟨m,rfl⟩:∃m,n=m+1:=⟨n-1,by omega⟩;obtain⟨hd,hdm⟩:=hf.at_ k h;have e1:(dfn P hs[k].id).kind=hs[k].kind:=congrArg Hd.kind hd;have e2:(dfn P hs[k].id).slots=hs[k].slots:=congrArg Hd.slots hd;have hs':=hf.slots _ hdm;have hkd:hs[k].kind=0∨hs[k].kind=1:=by omega
  refine⟨(TyOk.dfn r k h h1 h2 h3 h4).validT hf.hd hr,.inr (.inr (.inr ⟨rfl,?_⟩))⟩;simp only[Typ.id_mk];refine⟨by rw[e1]; exact hkd,hs'.1,hs'.2.2.1 (by rw[e1]; exact hkd),fun s hs''=>?_⟩;rw[e2]at hs'';exact ih s hs'' (by omega) m (by omega)
theorem zSl {P:Prg}{hs:List Hd}(hf:Fit P hs){r:Nat}{t:Typ}(h:TyOk hs r t):r<24→∀n,r<n→Wz P n t:=by
 induction h with
 | int r=>intro hr n hn; obtain⟨m,rfl⟩:∃m,n=m+1:=⟨n-1,by omega⟩; exact⟨(TyOk.int r).validT hf.hd hr,.inl rfl⟩
 | bool r=>intro hr n hn; obtain⟨m,rfl⟩:∃m,n=m+1:=⟨n-1,by omega⟩; exact⟨(TyOk.bool r).validT hf.hd hr,.inr (.inl rfl)⟩
 | list r t h ih=>intro hr n hn; obtain⟨m,rfl⟩:∃m,n=m+1:=⟨n-1,by omega⟩; exact⟨(TyOk.list r t h).validT hf.hd hr,.inr (.inr (.inl rfl))⟩
 | dfn r k h h1 h2 h3 h4 ih =>
  intro hr n hn;obtain⟨m,rfl⟩:∃m,n=m+1:=⟨n-1,by omega⟩;obtain⟨hd,hdm⟩:=hf.at_ k h;have e1:(dfn P hs[k].id).kind=hs[k].kind:=congrArg Hd.kind hd;have e2:(dfn P hs[k].id).slots=hs[k].slots:=congrArg Hd.slots hd;have hs':=hf.slots _ hdm;have hkd:hs[k].kind=0∨hs[k].kind=1:=by omega
  refine⟨(TyOk.dfn r k h h1 h2 h3 h4).validT hf.hd hr,.inr (.inr (.inr ⟨rfl,?_⟩))⟩;simp only[Typ.id_mk];refine⟨by rw[e1]; exact hkd,hs'.1,hs'.2.2.1 (by rw[e1]; exact hkd),fun s hs''=>?_⟩;rw[e2]at hs'';exact ih s hs'' (by omega) m (by omega)
theorem zHX {P:Prg}:∀{ts:List Typ} {vs:List Val},zAY P ts vs=true→∀(j:Nat) (h1:j<ts.length) (h2:j<vs.length),zBq P ts[j] vs[j]=true
 | t::ts,v::vs,h,j,h1,h2=>by
  rw[zAY,Bool.and_eq_true]at h;cases j with
  | zero=>exact h.1
  | succ j=>exact zHX h.2 j (by simpa using h1) (by simpa using h2)
theorem zYk {P:Prg}{hs:List Hd}(hf:Fit P hs){r:Nat}{t:Typ}(h:TyOk hs r t):∀v,zBq P t v=true→TyV P t v:=by
 induction h with
 | int r =>
  intro v hv;rw[zCn]at hv;simp at hv;obtain⟨_,⟨⟨h1,h2⟩,h3⟩,h4⟩:=hv;obtain⟨k,n,l⟩:=v;simp only[Val.k,Val.n,Val.kids]at h1 h2 h3 h4;subst h1 h2;exact .int n h3 h4
 | bool r =>
  intro v hv;rw[zCn]at hv;simp at hv;obtain⟨_,⟨h1,h2⟩,h3⟩:=hv;obtain⟨k,n,l⟩:=v;simp only[Val.k,Val.n,Val.kids]at h1 h2 h3;subst h1 h2;exact .bool n h3
 | list r t h ih =>
  intro v hv;rw[zCn]at hv;simp at hv;obtain⟨_,⟨h1,h2⟩,h3⟩:=hv;obtain⟨k,n,l⟩:=v;simp only[Val.k,Val.n,Val.kids]at h1 h2 h3;subst h1 h2;exact .list _ _ fun x hx=>ih x (h3 x hx)
 | dfn r k h h1 h2 h3 h4 ih =>
  intro v hv;obtain⟨d,hd,hhd⟩:=hf.hd k h;have e1:d.kind=hs[k].kind:=congrArg Hd.kind hhd;have e2:d.slots=hs[k].slots:=congrArg Hd.slots hhd;have ed:dfn P hs[k].id=d:=by simp[dfn,hd]
  rw[zCn]at hv;simp only[Typ.k_mk,Typ.id_mk,ed]at hv;obtain⟨kk,n,l⟩:=v;by_cases hk:d.kind=1
  ·simp[hk,Val.k,Val.n,Val.kids]at hv;obtain⟨_,⟨⟨⟨g1,g2⟩,g3⟩,g4⟩,g5⟩:=hv;replace g1:=of_decide_eq_true g1;replace g2:=of_decide_eq_true g2;replace g3:=of_decide_eq_true g3;replace g4:=of_decide_eq_true g4;obtain⟨x,rfl⟩:=List.length_eq_one_iff.1 g4;obtain⟨j,rfl⟩:∃j:Nat,n=j:=⟨n.toNat,by omega⟩;have hj:j<d.slots.length:=by omega
   rw[Int.toNat_natCast,List.getElem?_eq_getElem hj,Option.map_some,zDL]at g5;subst g1;exact .case _ d j x hd hk hj (ih d.slots[j] (by rw[←e2]; exact List.getElem_mem hj) x g5)
  ·simp[hk,Val.k,Val.n,Val.kids]at hv;obtain⟨_,⟨⟨g1,g2⟩,g3⟩,g4⟩:=hv;replace g1:=of_decide_eq_true g1;replace g2:=of_decide_eq_true g2;replace g3:=of_decide_eq_true g3;subst g1 g2;refine .record _ d l hd (by omega) g3 fun j hj=>?_
   have hjd:j<d.slots.length:=by omega
   have:=zHX g4 j (by simpa using hjd) hj;rw[List.getElem_map]at this;exact ih d.slots[j] (by rw[←e2]; exact List.getElem_mem hjd) l[j] this
end Go.Proofs.YthglhccibdlccaaGreatDoor

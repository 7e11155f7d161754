/-
  The maker's programs: their definitions have IDs of their own, their bodies have types, their types have few levels.
  Programs with other names, walked.
  The law's calls: a definition with a body, and arguments made of numbers.
-/
import Derived.Test.YthglhccibdlccaaGreatDoorX42
import Derived.Test.YthglhccibdlccaaGreatDoorX41
import Derived.Test.YthglhccibdlccaaGreatDoorX34
import Derived.Test.YthglhccibdlccaaGreatDoorX43
import Derived.Test.YthglhccibdlccaaGreatDoorX37
set_option linter.unusedVariables false
set_option linter.unusedSimpArgs false
namespace Go.Proofs.YthglhccibdlccaaGreatDoor
open Go.Abs
def zGq (f:Int→Id)(x:Id):Id:=if x.b=0 then f x.c else x
def zId (f:Int→Id)(b:Bnd):Bnd:={b with id:=zGq f b.id}
def qEu (f:Int→Id)(env:List Bnd):Prop:=∀b∈env,∀b'∈env,zGq f b.id=zGq f b'.id→b.id=b'.id
theorem zSm {f:Int→Id}{env:List Bnd}(h:qEu f env){x:Id}{n:Int}{t:Typ}:zBS env x n=some t→zBS (env.map (zId f)) (zGq f x) n=some t:=by
 have hmem:zBS env x n=some t→∃b∈env,b.id=x:=by intro he;unfold zBS at he;rw[Option.map_eq_some_iff]at he;obtain⟨b,hb,_⟩:=he;have h1:=List.find?_some hb;have h2:=List.mem_of_find?_eq_some hb;rw[Bool.and_eq_true]at h1;exact⟨b,List.mem_reverse.1 h2,of_decide_eq_true h1.1⟩
 intro he;obtain⟨b0,hb0,rfl⟩:=hmem he;clear hmem;have key:∀l:List Bnd,(∀b∈l,b∈env)→zBS l b0.id n=some t→zBS (l.map (zId f)) (zGq f b0.id) n=some t:=by
  intro l;induction l using zBu with
  | nil=>intro _ h; simp[zBS]at h
  | snoc l y ih =>
   intro hl hk;rw[zEv]at hk;rw[List.map_append,List.map_singleton,zEv];have hy:=hl y (by simp);by_cases c1:y.id=b0.id
   ·by_cases c2:y.n=n
    ·rw[if_pos ⟨c1,c2⟩]at hk;rw[if_pos ⟨by simp only[zId]; rw[c1],c2⟩];exact hk
    ·rw[if_neg fun h=>c2 h.2]at hk;rw[if_neg fun h=>c2 h.2];exact ih (fun b hb=>hl b (List.mem_append_left _ hb)) hk
   ·rw[if_neg fun h=>c1 h.1]at hk;rw[if_neg fun e=>c1 (h y hy b0 hb0 e.1)];exact ih (fun b hb=>hl b (List.mem_append_left _ hb)) hk
 exact key env (fun _ h=>h) he
theorem zLK:∀l:List Exp,l.length≤(jA l).length
 | []=>by simp
 | e::l=>by
  have:=zLK l;have h1:1≤(tmps e).length:=by rw[zAW]; simp
  simp only[List.length_cons,jA,List.length_append];omega
theorem zKq:∀{l:List Exp} {e:Exp},e∈l→(tmps e).Sublist (jA l)
 | x::l,e,h=>by
  simp only[jA];rcases List.mem_cons.1 h with rfl | h
  ·exact List.sublist_append_left _ _
  ·exact(zKq h).trans (List.sublist_append_right _ _)
structure Frs (f:Int→Id)(env:List Bnd)(e:Exp):Prop where
 nd:(tmps e).Nodup
 num:e.num0
 inj:∀c∈tmps e,∀c'∈tmps e,f c=f c'→c=c'
 new:∀b∈env,∀c∈tmps e,zGq f b.id≠f c
 len:(tmps e).length≤32768
 ib:qEu f env
section
variable {f:Int→Id}{env:List Bnd}{i:Id}{k n:Int}{r:Id}{u:Typ}{ks:List Exp}{ns:List ByteArray}
theorem Frs.id (h:Frs f env (.mk i k n r u ks ns)):i=⟨0,0,i.c⟩:=by obtain⟨a,b,c⟩:=i;have:=h.num;simp only[Exp.num0]at this;simp[this.1.1,this.1.2]
theorem Frs.kid (h:Frs f env (.mk i k n r u ks ns)){e:Exp}(he:e∈ks):Frs f env e:=by
 obtain⟨h1,h2,h3,h4,h5,h6⟩:=h;simp only[tmps]at h1 h3 h4 h5;simp only[Exp.num0,zHS]at h2;have hs:=zKq he;have hm:∀c∈tmps e,c∈jA ks++[i.c]:=fun c hc=>List.mem_append_left _ (hs.subset hc)
 exact⟨(List.nodup_append.1 h1).1.sublist hs,h2.2 e he,fun c hc c' hc'=>h3 c (hm c hc) c' (hm c' hc'),fun b hb c hc=>h4 b hb c (hm c hc),by
  have:=hs.length_le;rw[List.length_append]at h5;omega,h6⟩
theorem Frs.push (h:Frs f env (.mk i k n r u ks ns)){e:Exp}(he:e∈ks)(m:Int)(t:Typ){env':List Bnd}(hb:env'=env∨∃m' t',env'=env++[⟨i,m',t'⟩]):Frs f (env'++[⟨i,m,t⟩]) e:=by
 have hk:=h.kid he;have hi:=h.id;obtain⟨h1,h2,h3,h4,h5,h6⟩:=h;simp only[tmps]at h1 h3 h4;have hic:i.c∈jA ks++[i.c]:=by simp
 have hri:zGq f i=f i.c:=by unfold zGq; rw[if_pos (by rw[hi])]
 have hmem:∀b∈env'++[(⟨i,m,t⟩:Bnd)],b∈env∨b.id=i:=by
  intro b hb';rcases List.mem_append.1 hb' with hb' | hb'
  ·rcases hb with rfl | ⟨m',t',rfl⟩
   ·exact .inl hb'
   ·rcases List.mem_append.1 hb' with hb' | hb'
    ·exact .inl hb'
    ·rw[List.mem_singleton.1 hb']; exact .inr rfl
  ·rw[List.mem_singleton.1 hb']; exact .inr rfl
 refine⟨hk.nd,hk.num,hk.inj,fun b hb' c hc=>?_,hk.len,fun b hb1 b' hb2 e=>?_⟩
 ·rcases hmem b hb' with h' | h'
  ·exact hk.new b h' c hc
  ·rw[h',hri];intro e;have hc':=(zKq he).subset hc;have:=h3 i.c hic c (List.mem_append_left _ hc') e;exact(List.nodup_append.1 h1).2.2 c hc' i.c (by simp) this.symm
 ·rcases hmem b hb1 with h' | h'<;>rcases hmem b' hb2 with h'' | h''
  ·exact h6 b h' b' h'' e
  ·rw[h'',hri]at e;exact(h4 b h' i.c hic e).elim
  ·rw[h',hri]at e;exact(h4 b' h'' i.c hic e.symm).elim
  ·rw[h',h'']
theorem Frs.fresh (h:Frs f env (.mk i k n r u ks ns)):∀x∈env.map (zId f),x.id≠f i.c:=by intro x hx;obtain⟨b,hb,rfl⟩:=List.mem_map.1 hx;exact h.new b hb i.c (by simp[tmps])
theorem Frs.kids (h:Frs f env (.mk i k n r u ks ns)):(ks.map (zBz f)).length≤32768:=by have h1:=h.len;have h2:=zLK ks;simp only[tmps,List.length_append]at h1;rw[List.length_map];omega
end
theorem zAz {f:Int→Id}{i:Id}{k n:Int}{r:Id}{u:Typ}{ks:List Exp}{ns:List ByteArray}(h:k≠2):zBz f (.mk i k n r u ks ns)=.mk (f i.c) k n r u (ks.map (zBz f)) ns:=by simp only[zBz,zDT,h,false_and,if_false]
def zSQ (P:Prg)(hs:List Hd):Prop:=∀(k:Nat) (h:k<hs.length),∃d,zAg P.defs hs[k].id=some d∧d.hd=hs[k]
theorem qI4 {P:Prg}{hs:List Hd}(hh:zSQ P hs){f:Int→Id}{own:Int}{env:List Bnd}{e:Exp}{t:Typ}(h:WT hs own env e t):Frs f env e→WE P (env.map (zId f)) (zBz f e) t:=by
 induction h with
 | int env i n h1 h2=>intro hF; rw[zAz (by decide)]; exact .int _ _ _ _ _ _ h1 h2
 | bool env i n h=>intro hF; rw[zAz (by decide)]; exact .bool _ _ _ _ _ _ h
 | var env i n x t h =>
  intro hF;have e:zBz f (.mk i 2 n x Typ.zero [] [])=.mk (f i.c) 2 n (zGq f x) Typ.zero [] []:=by simp only[zBz,zEE,true_and,zGq]
  rw[e];exact .var _ _ _ _ _ _ _ (zSm hF.ib h)
 | call env i k h ks ho hk hl hw ih =>
  intro hF;obtain⟨d,hd,hhd⟩:=hh k h;have e1:d.kind=hs[k].kind:=congrArg Hd.kind hhd;have e2:d.slots=hs[k].slots:=congrArg Hd.slots hhd;have e3:d.res=hs[k].res:=congrArg Hd.res hhd;rw[zAz (by decide),←e3];refine .call _ _ _ _ _ _ _ hF.kids d hd (by rw[e1]; exact hk) (by simp only[List.length_map,e2]; exact hl) fun j hj=>?_
  simp only[List.getElem_map,e2];rw[List.length_map]at hj;exact ih j hj (hF.kid (List.getElem_mem hj))
 | arith env i n a b h1 h2 ha hb iha ihb =>
  intro hF;rw[zAz (by decide)];refine .op _ _ _ _ _ _ _ hF.kids [jG,jG] jG (.arith n h1 h2) rfl fun j hj=>?_
  match j,hj with
  | 0,_=>exact iha (hF.kid (by simp))
  | 1,_=>exact ihb (hF.kid (by simp))
 | less env i a b ha hb iha ihb =>
  intro hF;rw[zAz (by decide)];refine .op _ _ _ _ _ _ _ hF.kids [jG,jG] jN .less rfl fun j hj=>?_
  match j,hj with
  | 0,_=>exact iha (hF.kid (by simp))
  | 1,_=>exact ihb (hF.kid (by simp))
 | same env i a b u ha hb iha ihb =>
  intro hF;rw[zAz (by decide)];refine .op _ _ _ _ _ _ _ hF.kids [u,u] jN (.same u) rfl fun j hj=>?_
  match j,hj with
  | 0,_=>exact iha (hF.kid (by simp))
  | 1,_=>exact ihb (hF.kid (by simp))
 | andor env i n a b h ha hb iha ihb =>
  intro hF;rw[zAz (by decide)];refine .op _ _ _ _ _ _ _ hF.kids [jN,jN] jN (.andor n h) rfl fun j hj=>?_
  match j,hj with
  | 0,_=>exact iha (hF.kid (by simp))
  | 1,_=>exact ihb (hF.kid (by simp))
 | not env i a ha iha =>
  intro hF;rw[zAz (by decide)];refine .op _ _ _ _ _ _ _ hF.kids [jN] jN .not rfl fun j hj=>?_
  match j,hj with
  | 0,_=>exact iha (hF.kid (by simp))
 | join env i a b t ha hb iha ihb =>
  intro hF;rw[zAz (by decide)];refine .op _ _ _ _ _ _ _ hF.kids [jH t,jH t] (jH t) (.join t) rfl fun j hj=>?_
  match j,hj with
  | 0,_=>exact iha (hF.kid (by simp))
  | 1,_=>exact ihb (hF.kid (by simp))
 | len env i a t ha iha =>
  intro hF;rw[zAz (by decide)];refine .op _ _ _ _ _ _ _ hF.kids [jH t] jG (.len t) rfl fun j hj=>?_
  match j,hj with
  | 0,_=>exact iha (hF.kid (by simp))
 | ite env i a b c t ha hb hc iha ihb ihc =>
  intro hF;rw[zAz (by decide)];exact .ite _ _ _ _ _ _ _ _ _ _ (iha (hF.kid (by simp))) (ihb (hF.kid (by simp))) (ihc (hF.kid (by simp)))
 | lets env i a b u t ns hn ha hb iha ihb =>
  intro hF;rw[zAz (by decide)];have hb':=ihb (hF.push (by simp) 0 u (.inl rfl));rw[List.map_append,List.map_singleton]at hb';have hi:=hF.id;have e:zId f ⟨i,0,u⟩=⟨f i.c,0,u⟩:=by simp only[zId,zGq]; rw[if_pos (by rw[hi])]
  rw[e]at hb';exact .lets _ _ _ _ _ _ _ _ _ _ hF.fresh (iha (hF.kid (by simp))) hb'
 | record env i k h ks hk hl hw ih =>
  intro hF;obtain⟨d,hd,hhd⟩:=hh k h;have e1:d.kind=hs[k].kind:=congrArg Hd.kind hhd;have e2:d.slots=hs[k].slots:=congrArg Hd.slots hhd;rw[zAz (by decide)];refine .record _ _ _ _ _ _ _ hF.kids d hd (by rw[e1]; exact hk) (by simp only[List.length_map,e2]; exact hl) fun j hj=>?_
  simp only[List.getElem_map,e2];rw[List.length_map]at hj;exact ih j hj (hF.kid (List.getElem_mem hj))
 | field env i k h j hj a hk ha iha =>
  intro hF;obtain⟨d,hd,hhd⟩:=hh k h;have e1:d.kind=hs[k].kind:=congrArg Hd.kind hhd;have e2:hs[k].slots=d.slots:=(congrArg Hd.slots hhd).symm;rw[zAz (by decide)];have hjd:j<d.slots.length:=by rw[←e2]; exact hj
  have et:hs[k].slots[j]=d.slots[j]:=by simp only[e2]
  rw[et];exact .field _ _ _ _ _ _ d j hd (by rw[e1]; exact hk) hjd (iha (hF.kid (by simp)))
 | case env i k h j hj a hk ha iha =>
  intro hF;obtain⟨d,hd,hhd⟩:=hh k h;have e1:d.kind=hs[k].kind:=congrArg Hd.kind hhd;have e2:hs[k].slots=d.slots:=(congrArg Hd.slots hhd).symm;rw[zAz (by decide)];have hjd:j<d.slots.length:=by rw[←e2]; exact hj
  have et:hs[k].slots[j]=d.slots[j]:=by simp only[e2]
  have ih:=iha (hF.kid (by simp));rw[et]at ih;exact .case _ _ _ _ _ _ d j hd (by rw[e1]; exact hk) hjd ih
 | mtch env i k h a ks t ns hn hk hl ha hw iha ih =>
  intro hF;obtain⟨d,hd,hhd⟩:=hh k h;have e1:d.kind=hs[k].kind:=congrArg Hd.kind hhd;have e2:d.slots=hs[k].slots:=congrArg Hd.slots hhd;rw[zAz (by decide),List.map_cons];have hi:=hF.id;refine .mtch _ _ _ _ _ _ _ _ d _ hF.fresh hd (by rw[e1]; exact hk) (by simp only[List.length_map,e2]; exact hl) (iha (hF.kid (by simp))) fun j hj=>?_
  have hj':j<ks.length:=by rw[List.length_map]at hj; exact hj
  have:=ih j hj' (hF.push (List.mem_cons_of_mem _ (List.getElem_mem hj')) _ _ (.inl rfl));rw[List.map_append,List.map_singleton]at this;have e:∀t,zId f ⟨i,j,t⟩=⟨f i.c,j,t⟩:=fun t=>by simp only[zId,zGq]; rw[if_pos (by rw[hi])]
  rw[e]at this;simp only[List.getElem_map,e2];exact this
 | list env i t ks hw ih =>
  intro hF;rw[zAz (by decide)];refine .list _ _ _ _ _ _ _ _ hF.kids fun j hj=>?_
  rw[List.length_map]at hj;rw[List.getElem_map];exact ih j hj (hF.kid (List.getElem_mem hj))
 | fold env i l s b u t ns hn hl hs' hb ihl ihs ihb =>
  intro hF;rw[zAz (by decide)];have hb':=ihb (hF.push (by simp) 1 t (.inr ⟨0,u,rfl⟩));rw[List.map_append,List.map_singleton,List.map_append,List.map_singleton]at hb';have hi:=hF.id;have e:∀m t,zId f ⟨i,m,t⟩=⟨f i.c,m,t⟩:=fun m t=>by simp only[zId,zGq]; rw[if_pos (by rw[hi])]
  rw[e,e]at hb';exact .fold _ _ _ _ _ _ _ _ _ _ _ hF.fresh (ihl (hF.kid (by simp))) (ihs (hF.kid (by simp))) hb'
theorem zIO:∀{ds:List Dfn} (_:ds.Pairwise fun a b=>a.id≠b.id) {k:Nat} (hk:k<ds.length),zAg ds ds[k].id=some ds[k]
 | d::ds,h,0,_=>by rw[zGg]; simp
 | d::ds,h,k+1,hk=>by
  rw[List.pairwise_cons]at h;have hk':k<ds.length:=by simpa using hk
  rw[zGg];have:=h.1 ds[k] (List.getElem_mem hk');simp only[List.getElem_cons_succ];rw[if_neg this];exact zIO h.2 hk'
structure Fit (P:Prg)(hs:List Hd):Prop where
 heads:P.defs.map Dfn.hd=hs
 len5:5≤P.defs.length
 len8:P.defs.length≤8
 nd:P.defs.Pairwise fun a b=>a.id≠b.id
 slots:∀d∈P.defs,1≤d.slots.length∧d.slots.length≤6∧(d.kind=0∨d.kind=1→d.slots.length≤3)∧(d.slots.Pairwise fun a b=>a.id≠b.id)∧∀s∈d.slots,TyOk hs 4 s.typ
 kinds:∀d∈P.defs,0≤d.kind∧d.kind≤5
 bods:zMB P
theorem Fit.hd {P:Prg}{hs:List Hd}(h:Fit P hs):zSQ P hs:=fun k hk=>by
 have hk':k<P.defs.length:=by rw[←h.heads]at hk; simpa using hk
 have e:hs[k]=P.defs[k].hd:=by simp[←h.heads]
 refine⟨P.defs[k],?_,e.symm⟩;rw[e];exact zIO h.nd hk'
theorem zB3 {ds:List Dfn}{r:Id}{d:Dfn}(h:zAg ds r=some d):d∈ds∧d.id=r:=⟨List.mem_of_find?_eq_some h,by simpa using List.find?_some h⟩
section
variable {l:List Int}{mods:Int}(hl:∀x∈l,w64 x=x)
include hl
theorem zSx:∀p∈zW l mods,p.kind=0∨p.kind=1→p.types.length≤3:=by
 intro p hp;have a2:=jY (i:=2) hl (most:=3) (by omega);have a6:=jY (i:=6) hl (most:=2) (by omega);have a9:=jY (i:=9) hl (most:=3) (by omega);have hp':p=zAP l mods∨p=zBh l mods∨p=zCw l mods∨p=zII mods∨p.kind=2∨p.kind=3∨p.kind=4∨p.kind=5:=by
  simp only[zW,plB,plC,plD,plE,List.mem_append,List.mem_cons]at hp;rcases hp with ((h | h | h) | h) | h | h | h | h
  ·simp[h]
  ·simp[h]
  ·simp at h
  ·split at h
   ·simp at h; rcases h with h | h<;>simp[h]
   ·simp at h
  ·simp[h,pF]
  ·split at h<;>simp[h,zHg,pG]
  ·simp[h,pT]
  ·split at h
   ·simp at h; simp[h,pC]
   ·simp at h
 rcases hp' with rfl | rfl | rfl | rfl | h
 ·intro _; simp only[zAP,zC0]; omega
 ·intro _; simp only[zBh,List.length_cons,zC0]; omega
 ·intro _; simp only[zCw,List.length_cons,zC0]; omega
 ·intro _; simp only[zII,List.length_cons,List.length_nil]; omega
 ·omega
end
theorem PrgOk.fit {l:List Int}(hl:∀x∈l,w64 x=x){P:Prg}(h:PrgOk l P):Fit P (hsV l (nmV l)):=by
 obtain⟨hnm,hnm2⟩:=zMn l hl;generalize hN:nmV l=nm at *
 have m1:1≤(nm:Int):=by omega
 have m2:(nm:Int)≤2:=by omega
 obtain⟨n5,n8⟩:=zAp l (nm:Int);have hh:=h.heads;rw[hN]at hh;have hlen:P.defs.length=(zW l nm).length:=by have:=congrArg List.length hh; simpa using this
 have hget:∀(k:Nat) (hk:k<P.defs.length),P.defs[k].hd=⟨idR (nm+k),((zW l nm)[k]'(by omega)).kind,zAU (zAo nm (zW l nm) k) ((zW l nm)[k]'(by omega)),((zW l nm)[k]'(by omega)).out⟩:=fun k hk=>by
  rw[←zDO nm (zW l nm) (by omega)];have:(P.defs.map Dfn.hd)[k]'(by simpa using hk)=(zKE nm (zW l nm))[k]'(by simpa using (by omega:k<(zW l nm).length)):=by simp only[hh]
  rwa [List.getElem_map]at this
 have hnd:P.defs.Pairwise fun a b=>a.id≠b.id:=by rw[List.pairwise_iff_getElem];intro i j hi hj hij e;have e1:P.defs[i].id=idR (nm+i):=congrArg Hd.id (hget i hi);have e2:P.defs[j].id=idR (nm+j):=congrArg Hd.id (hget j hj);rw[e1,e2]at e;have:=zEr (by omega) (by omega) (by omega) (by omega) e;omega
 have hpl:=zAQ l nm m1 m2 hl;have hrange:=fun i=>zBT (show 0≤(nm:Int) by omega) (fun p hp=>(hpl p hp).t6) i
 have henv:∀(k:Nat) (hk:k<P.defs.length),EnvOk (hsV l nm) 4 0 (zAX P.defs[k])∧1≤(zAX P.defs[k]).length∧(zAX P.defs[k]).length≤6∧TyOk (hsV l nm) 4 P.defs[k].res:=fun k hk=>zGf m1 m2 hl (i:=k) (by rw[←hh,List.getElem?_map,List.getElem?_eq_getElem hk]; rfl) 0
 have hslot:∀(k:Nat) (hk:k<P.defs.length),∀s∈P.defs[k].slots,∃j:Int,s.id=idR j∧0≤j∧j<zAo nm (zW l nm) (zW l nm).length:=fun k hk s hs=>by have e:P.defs[k].slots=zAU (zAo nm (zW l nm) k) ((zW l nm)[k]'(by omega)):=congrArg Hd.slots (hget k hk);rw[e]at hs;simp only[zAU,List.mem_map,List.mem_range]at hs;obtain⟨j,hj,rfl⟩:=hs;have h1:=hrange k;have h2:=zJL nm (zW l nm) (i:=k) (by omega);have h3:=zP9 (mods:=nm) (ps:=zW l nm) (show k+1≤(zW l nm).length by omega);exact⟨_,rfl,by omega,by omega⟩
 refine⟨hh,by omega,by omega,hnd,fun d hd=>?_,fun d hd=>?_,fun r d hd hb=>?_⟩
 ·obtain⟨k,hk,rfl⟩:=List.getElem_of_mem hd;obtain⟨a1,a2,a3,a4⟩:=henv k hk;rw[zEU]at a2 a3;refine⟨a2,a3,fun hkd=>?_,?_,fun s hs=>a1.typs ⟨s.id,0,s.typ⟩ (List.mem_map.2 ⟨s,hs,rfl⟩)⟩
  ·have e1:P.defs[k].kind=((zW l nm)[k]'(by omega)).kind:=congrArg Hd.kind (hget k hk);have e2:P.defs[k].slots=zAU (zAo nm (zW l nm) k) ((zW l nm)[k]'(by omega)):=congrArg Hd.slots (hget k hk);rw[e2,zCy];exact zSx hl _ (List.getElem_mem _) (by rw[←e1]; exact hkd)
  ·have:=a1.nd;simp only[zAX]at this;rw[List.pairwise_map]at this;exact this.imp fun h e=>h ⟨e,rfl⟩
 ·obtain⟨k,hk,rfl⟩:=List.getElem_of_mem hd;have e1:P.defs[k].kind=((zW l nm)[k]'(by omega)).kind:=congrArg Hd.kind (hget k hk);rw[e1];have:=hpl _ (List.getElem_mem (show k<(zW l nm).length by omega));exact⟨this.kind0,this.kind5⟩
 ·obtain⟨hd1,rfl⟩:=zB3 hd;obtain⟨k,hk,rfl⟩:=List.getElem_of_mem hd1;obtain⟨base,hb0,hbs⟩:=h.bodies;rw[hN]at hb0 hbs;have hbase:∀k,k≤P.defs.length→zAo nm (zW l nm) (zW l nm).length≤base k∧base k≤zAo nm (zW l nm) (zW l nm).length+32768*k:=by
   intro k;induction k with
   | zero=>intro _; rw[hb0]; omega
   | succ k ih =>
    intro hk;have ih:=ih (by omega);rcases hbs k P.defs[k] (List.getElem?_eq_getElem (by omega))with ⟨_,_,e⟩ | ⟨_,e,f,hr,e'⟩
    ·rw[e]; omega
    ·rw[e'];have:=hr.len;omega
  have hbk:=hbase k (by omega);have hr0:=hrange (zW l nm).length;rcases hbs k P.defs[k] (List.getElem?_eq_getElem hk)with ⟨h0,_,_⟩ | ⟨_,e,f,hr,_⟩
  ·rw[h0]at hb; cases hb
  ·have hlt:=hr.len;have hfc:∀c∈tmps e,∃j:Nat,∃hj:j<(tmps e).length,(tmps e)[j]=c∧f c=idR (base k+j):=fun c hc=>by obtain⟨j,hj,rfl⟩:=List.getElem_of_mem hc;exact⟨j,hj,rfl,hr.ids j hj⟩
   have hsb:∀b∈zAX P.defs[k],∃j:Int,b.id=idR j∧zGq f b.id=idR j∧0≤j∧j<zAo nm (zW l nm) (zW l nm).length:=fun b hb=>by simp only[zAX,List.mem_map]at hb;obtain⟨s,hs,rfl⟩:=hb;obtain⟨j,h1,h2,h3⟩:=hslot k hk s hs;have:=zZg (k:=j) h2 (by omega);refine⟨j,h1,?_,h2,h3⟩;simp only[zGq,h1];rw[if_neg (by omega)]
   have hF:Frs f (zAX P.defs[k]) e:=by
    refine⟨hr.nd,hr.num,fun c hc c' hc' he=>?_,fun b hb' c hc he=>?_,hr.len,fun b hb1 b' hb2 he=>?_⟩
    ·obtain⟨j,hj,e1,e2⟩:=hfc c hc;obtain⟨j',hj',e1',e2'⟩:=hfc c' hc';rw[e2,e2']at he;have:=zEr (by omega) (by omega) (by omega) (by omega) he;have:j=j':=by omega
     subst this;rw[←e1,←e1']
    ·obtain⟨j,hj,e1,e2⟩:=hfc c hc;obtain⟨j',_,e3,h0,h1⟩:=hsb b hb';rw[e3,e2]at he;have:=zEr (by omega) (by omega) (by omega) (by omega) he;omega
    ·obtain⟨j,e1,e2,h0,h1⟩:=hsb b hb1;obtain⟨j',e1',e2',h0',h1'⟩:=hsb b' hb2;rw[e2,e2']at he;rw[e1,e1',he]
   have hho:zSQ P (hsV l nm):=fun k hk=>by
    have hk':k<P.defs.length:=by rw[←hh]at hk; simpa using hk
    have e:(hsV l nm)[k]=P.defs[k].hd:=by simp[←hh]
    exact⟨P.defs[k],by rw[e]; exact zIO hnd hk',e.symm⟩
   have:=qI4 hho hr.wt hF;rw[←hr.body]at this;have e2:(zAX P.defs[k]).map (zId f)=zAX P.defs[k]:=by
    rw[List.map_congr_left (g:=id)]
    ·simp
    ·intro b hb';obtain⟨j,e1,e2,_,_⟩:=hsb b hb';simp only[zId,id,e2];rw[←e1]
   rw[e2]at this;exact this
theorem TyOk.valid {P:Prg}{hs:List Hd}(hh:zSQ P hs){r:Nat}{t:Typ}(h:TyOk hs r t):∀n,r<n→jQ P n t=true:=by
 induction h with
 | int r=>intro n hn; obtain⟨m,rfl⟩:∃m,n=m+1:=⟨n-1,by omega⟩; simp[jQ]
 | bool r=>intro n hn; obtain⟨m,rfl⟩:∃m,n=m+1:=⟨n-1,by omega⟩; simp[jQ]
 | list r t h ih =>
  intro n hn;obtain⟨m,rfl⟩:∃m,n=m+1:=⟨n-1,by omega⟩;simp[jQ,ih m (by omega)]
 | dfn r k h h1 h2 h3 h4 ih =>
  intro n hn;obtain⟨m,rfl⟩:∃m,n=m+1:=⟨n-1,by omega⟩;obtain⟨d,hd,hhd⟩:=hh k h;have e1:d.kind=hs[k].kind:=congrArg Hd.kind hhd;simp[jQ,zEZ,hd,e1];omega
theorem TyOk.validT {P:Prg}{hs:List Hd}(hh:zSQ P hs){r:Nat}{t:Typ}(h:TyOk hs r t)(hr:r<24):validT P t=true:=h.valid hh 24 hr
theorem Fit.at_ {P:Prg}{hs:List Hd}(h:Fit P hs)(k:Nat)(hk:k<hs.length):(dfn P hs[k].id).hd=hs[k]∧dfn P hs[k].id∈P.defs:=by
 obtain⟨d,hd,hhd⟩:=h.hd k hk;have:dfn P hs[k].id=d:=by simp[dfn,hd]
 rw[this];exact⟨hhd,(zB3 hd).1⟩
theorem zRi {P:Prg}{hs:List Hd}(hf:Fit P hs){r:Nat}{t:Typ}(h:TyOk hs r t):r<24→∀n,r<n→Wf P n t:=by
 induction h with
 | int r=>intro hr n hn; obtain⟨m,rfl⟩:∃m,n=m+1:=⟨n-1,by omega⟩; exact⟨(TyOk.int r).validT hf.hd hr,.inl rfl⟩
 | bool r=>intro hr n hn; obtain⟨m,rfl⟩:∃m,n=m+1:=⟨n-1,by omega⟩; exact⟨(TyOk.bool r).validT hf.hd hr,.inr (.inl rfl)⟩
 | list r t h ih=>intro hr n hn; obtain⟨m,rfl⟩:∃m,n=m+1:=⟨n-1,by omega⟩; exact⟨(TyOk.list r t h).validT hf.hd hr,.inr (.inr (.inl ⟨rfl,t,rfl,ih (by omega) m (by omega)⟩))⟩
 | dfn r k h h1 h2 h3 h4 ih =>
  intro hr n hn;obtain⟨m,rfl⟩:∃m,n=m+1:=⟨n-1,by omega⟩;obtain⟨hd,hdm⟩:=hf.at_ k h;have e1:(dfn P hs[k].id).kind=hs[k].kind:=congrArg Hd.kind hd;have e2:(dfn P hs[k].id).slots=hs[k].slots:=congrArg Hd.slots hd;have hs':=hf.slots _ hdm;have hkd:hs[k].kind=0∨hs[k].kind=1:=by omega
  refine⟨(TyOk.dfn r k h h1 h2 h3 h4).validT hf.hd hr,.inr (.inr (.inr ⟨rfl,?_⟩))⟩;simp only[Typ.id_mk];refine⟨by rw[e1]; exact hkd,hs'.1,hs'.2.2.1 (by rw[e1]; exact hkd),fun s hs''=>?_⟩;rw[e2]at hs'';exact ih s hs'' (by omega) m (by omega)
theorem zRj {P:Prg}{hs:List Hd}(hf:Fit P hs){r:Nat}{t:Typ}(h:TyOk hs r t):r<24→∀n,r<n→Wz P n t:=by
 induction h with
 | int r=>intro hr n hn; obtain⟨m,rfl⟩:∃m,n=m+1:=⟨n-1,by omega⟩; exact⟨(TyOk.int r).validT hf.hd hr,.inl rfl⟩
 | bool r=>intro hr n hn; obtain⟨m,rfl⟩:∃m,n=m+1:=⟨n-1,by omega⟩; exact⟨(TyOk.bool r).validT hf.hd hr,.inr (.inl rfl)⟩
 | list r t h ih=>intro hr n hn; obtain⟨m,rfl⟩:∃m,n=m+1:=⟨n-1,by omega⟩; exact⟨(TyOk.list r t h).validT hf.hd hr,.inr (.inr (.inl rfl))⟩
 | dfn r k h h1 h2 h3 h4 ih =>
  intro hr n hn;obtain⟨m,rfl⟩:∃m,n=m+1:=⟨n-1,by omega⟩;obtain⟨hd,hdm⟩:=hf.at_ k h;have e1:(dfn P hs[k].id).kind=hs[k].kind:=congrArg Hd.kind hd;have e2:(dfn P hs[k].id).slots=hs[k].slots:=congrArg Hd.slots hd;have hs':=hf.slots _ hdm;have hkd:hs[k].kind=0∨hs[k].kind=1:=by omega
  refine⟨(TyOk.dfn r k h h1 h2 h3 h4).validT hf.hd hr,.inr (.inr (.inr ⟨rfl,?_⟩))⟩;simp only[Typ.id_mk];refine⟨by rw[e1]; exact hkd,hs'.1,hs'.2.2.1 (by rw[e1]; exact hkd),fun s hs''=>?_⟩;rw[e2]at hs'';exact ih s hs'' (by omega) m (by omega)
theorem zFw {P:Prg}:∀{ts:List Typ} {vs:List Val},zBk P ts vs=true→∀(j:Nat) (h1:j<ts.length) (h2:j<vs.length),zBb P ts[j] vs[j]=true
 | t::ts,v::vs,h,j,h1,h2=>by
  rw[zBk,Bool.and_eq_true]at h;cases j with
  | zero=>exact h.1
  | succ j=>exact zFw h.2 j (by simpa using h1) (by simpa using h2)
theorem zQ6 {P:Prg}{hs:List Hd}(hf:Fit P hs){r:Nat}{t:Typ}(h:TyOk hs r t):∀v,zBb P t v=true→TyV P t v:=by
 induction h with
 | int r =>
  intro v hv;rw[zAl]at hv;simp at hv;obtain⟨_,⟨⟨h1,h2⟩,h3⟩,h4⟩:=hv;obtain⟨k,n,l⟩:=v;simp only[Val.k,Val.n,Val.kids]at h1 h2 h3 h4;subst h1 h2;exact .int n h3 h4
 | bool r =>
  intro v hv;rw[zAl]at hv;simp at hv;obtain⟨_,⟨h1,h2⟩,h3⟩:=hv;obtain⟨k,n,l⟩:=v;simp only[Val.k,Val.n,Val.kids]at h1 h2 h3;subst h1 h2;exact .bool n h3
 | list r t h ih =>
  intro v hv;rw[zAl]at hv;simp at hv;obtain⟨_,⟨h1,h2⟩,h3⟩:=hv;obtain⟨k,n,l⟩:=v;simp only[Val.k,Val.n,Val.kids]at h1 h2 h3;subst h1 h2;exact .list _ _ fun x hx=>ih x (h3 x hx)
 | dfn r k h h1 h2 h3 h4 ih =>
  intro v hv;obtain⟨d,hd,hhd⟩:=hf.hd k h;have e1:d.kind=hs[k].kind:=congrArg Hd.kind hhd;have e2:d.slots=hs[k].slots:=congrArg Hd.slots hhd;have ed:dfn P hs[k].id=d:=by simp[dfn,hd]
  rw[zAl]at hv;simp only[Typ.k_mk,Typ.id_mk,ed]at hv;obtain⟨kk,n,l⟩:=v;by_cases hk:d.kind=1
  ·simp[hk,Val.k,Val.n,Val.kids]at hv;obtain⟨_,⟨⟨⟨g1,g2⟩,g3⟩,g4⟩,g5⟩:=hv;replace g1:=of_decide_eq_true g1;replace g2:=of_decide_eq_true g2;replace g3:=of_decide_eq_true g3;replace g4:=of_decide_eq_true g4;obtain⟨x,rfl⟩:=List.length_eq_one_iff.1 g4;obtain⟨j,rfl⟩:∃j:Nat,n=j:=⟨n.toNat,by omega⟩;have hj:j<d.slots.length:=by omega
   rw[Int.toNat_natCast,List.getElem?_eq_getElem hj,Option.map_some,zLh]at g5;subst g1;exact .case _ d j x hd hk hj (ih d.slots[j] (by rw[←e2]; exact List.getElem_mem hj) x g5)
  ·simp[hk,Val.k,Val.n,Val.kids]at hv;obtain⟨_,⟨⟨g1,g2⟩,g3⟩,g4⟩:=hv;replace g1:=of_decide_eq_true g1;replace g2:=of_decide_eq_true g2;replace g3:=of_decide_eq_true g3;subst g1 g2;refine .record _ d l hd (by omega) g3 fun j hj=>?_
   have hjd:j<d.slots.length:=by omega
   have:=zFw g4 j (by simpa using hjd) hj;rw[List.getElem_map]at this;exact ih d.slots[j] (by rw[←e2]; exact List.getElem_mem hjd) l[j] this
@[simp] theorem qM9:zA Tryz.prog 19=true:=by kernel_rfl
def txt (c:UInt8)(x:Int):ByteArray:=⟨#[c]⟩++strOfNums [IntKind.u8.wrap (IntKind.i64.wrap (97+x.tmod 26))]
@[simp] theorem qCV {x:Int}:zFc [.lit (.int .u8 x)]=some [x]:=rfl
def qNr (x:Int):ByteArray:=[(⟨#[108,101,102,116]⟩:ByteArray),⟨#[114,105,103,104,116]⟩,⟨#[110,111,114,116,104]⟩,⟨#[115,111,117,116,104]⟩].getD (x.tmod 4).toNat ⟨#[]⟩
def qAM (m:Md):List A:=[.lit (.int .i64 m.id.a),.lit (.int .i64 m.id.b),.lit (.int .i64 m.id.c),.lit (.string m.name),.sl m.uses.length (zX m.uses),.nil]
def zH5 (l:List Md):List A:=l.flatMap qAM
@[simp] theorem qAB (l:List Md):(zH5 l).length=l.length*6:=by rw[zH5,zBl (k:=6) (fun _=>rfl)]
@[simp] theorem qDN {rf g}(l:List Md):vwL rf g (zH5 l)=zH5 l:=by
 induction l with
 | nil=>rfl
 | cons m l ih =>
  have e:zH5 (m::l)=qAM m++zH5 l:=rfl;rw[e,zKy,ih];simp[qAM]
theorem zHe (a b:List A):qV (a++b)=qV a++qV b:=by
 induction a with
 | nil=>simp
 | cons x a ih=>simp[ih]
def qNF (n:Int)(k:Nat)(s:Slt):Slt:={s with name:=txt 115 (IntKind.i64.wrap (k+n))}
def slN (n:Int)(l:List Slt)(j:Nat):List Slt:=l.mapIdx fun k s=>if k<j then qNF n k s else s
@[simp] theorem qKg (n:Int)(l:List Slt)(j:Nat):(slN n l j).length=l.length:=by simp[slN]
def qNE (n:Int)(len:Nat)(md:Id)(i:Nat)(d:Dfn):Dfn :=
 ⟨d.id,d.kind,md,txt 122 (IntKind.i64.wrap (i+n)),slN n d.slots d.slots.length,d.res,qH1 (txt 118 n) d.body,IntKind.i64.wrap (len-i),[⟨#[35,32,120,10]⟩]⟩
def zZ9 (n:Int)(md:Id)(ds:List Dfn):List Dfn:=ds.mapIdx fun i d=>qNE n ds.length md i d
@[simp] theorem qDv (n:Int)(md:Id)(ds:List Dfn):(zZ9 n md ds).length=ds.length:=by simp[zZ9]
def mcN:Nat→Nat
 | 0=>1
 | f+1=>1+3*mcN f
theorem zIe {g:Typ→Int→Val×Int}{c:Nat}:∀(l:List Typ) (a:Int),(∀t∈l,∀b,qB (g t b).1≤c)→qN (zAv g l a).1≤l.length*c
 | [],a,_=>by simp[zAv,qN]
 | t::l,a,h=>by
  have h1:=h t (by simp) a;have h2:=zIe l (g t a).2 fun x hx b=>h x (by simp[hx]) b
  simp only[zAv,qN,List.length_cons,Nat.add_mul,Nat.one_mul];omega
theorem zF3 (p:Prg)(l:List Int)(hl:∀x∈l,w64 x=x):∀(f:Nat) (t:Typ) (a d:Int),Wf p f t→qB (jS p l f t a d).1≤mcN f
 | 0,t,a,d,h=>h.elim
 | f+1,t,a,d,h=>by
  unfold Wf at h;obtain⟨_,h⟩:=h;have hx:=jY (i:=a) hl (show (0:Int)<1048576 by omega);unfold mcN;by_cases h0:t.k=0
  ·rw[jS,if_pos h0]; simp[qB,qN]
  by_cases h1:t.k=1
  ·rw[jS,if_neg h0,if_pos h1]; simp[qB,qN]
  by_cases h2:t.k=2
  ·obtain⟨_,x,hx1,hx2⟩:=h.resolve_left h0|>.resolve_left h1|>.resolve_right (fun e=>by omega);rw[jS,if_neg h0,if_neg h1,if_pos h2];have hkid:t.kids.headD Typ.zero=x:=by rw[hx1]; rfl
   rw[hkid];have hq:(if 3<d then 0 else ((atV l a 1048576).tmod 3).toNat)≤3:=by
    split
    ·omega
    ·have:=Int.tmod_lt_of_pos (atV l a 1048576) (show (0:Int)<3 by omega);omega
   generalize (if 3<d then 0 else ((atV l a 1048576).tmod 3).toNat)=q at hq;have:=zIe (g:=fun t b=>jS p l f t b (w64 (d+1))) (c:=mcN f) (List.replicate q x) (w64 (a+1)) fun y hy b=>by rw[List.eq_of_mem_replicate hy];exact zF3 p l hl f x b _ hx2
   rw[List.length_replicate]at this;have:q*mcN f≤3*mcN f:=Nat.mul_le_mul_right _ hq;simp only[qB];omega
  obtain⟨_,_,_,g3,g4⟩:=h.resolve_left h0|>.resolve_left h1|>.resolve_left (fun e=>h2 e.1);by_cases hk:(dfn p t.id).kind=1
  ·rw[jS,if_neg h0,if_neg h1,if_neg h2,if_pos hk];have key:∀y:Typ,y=Typ.zero∨Wf p f y→qB (jS p l f y (w64 (a+1)) (w64 (d+1))).1≤3*mcN f:=by
    intro y hy;rcases hy with rfl | hy
    ·cases f with
     | zero=>simp[jS,qB,qN,mcN]
     | succ f=>rw[jS,if_pos (by rfl)]; simp[qB,qN,mcN]; omega
    ·have:=zF3 p l hl f y (w64 (a+1)) (w64 (d+1)) hy;omega
   have:=key (((dfn p t.id).slots.map Slt.typ).getD ((atV l a 1048576).tmod (dfn p t.id).slots.length).toNat Typ.zero) (by
    rw[List.getD_eq_getElem?_getD,List.getElem?_map];cases hg:(dfn p t.id).slots[((atV l a 1048576).tmod (dfn p t.id).slots.length).toNat]? with
    | none=>left; rfl
    | some s=>right; exact g4 s (List.mem_of_getElem? hg))
   simp only[qB,qN];omega
  ·rw[jS,if_neg h0,if_neg h1,if_neg h2,if_neg hk];have:=zIe (g:=fun t b=>jS p l f t b (w64 (d+1))) (c:=mcN f) ((dfn p t.id).slots.map Slt.typ) (w64 (a+1)) fun y hy b=>by obtain⟨s,hs,rfl⟩:=List.mem_map.1 hy;exact zF3 p l hl f s.typ b _ (g4 s hs)
   rw[List.length_map]at this;have:(dfn p t.id).slots.length*mcN f≤3*mcN f:=Nat.mul_le_mul_right _ g3;simp only[qB];omega
theorem zER:∀{l:List Val} {c:Nat},(∀v∈l,zA4 v≤c)→yO l≤c
 | [],c,_=>by simp[yO]
 | v::l,c,h=>by
  have h1:=h v (by simp);have h2:=zER (l:=l) (c:=c) fun x hx=>h x (by simp[hx])
  simp only[yO];omega
theorem zK3 (p:Prg):∀(f:Nat) (t:Typ),zA4 (yY p f t)≤f+1
 | 0,t=>by simp[yY,zA4,yO]
 | f+1,t=>by
  unfold yY;have hm:∀v∈(dfn p t.id).slots.map fun s=>yY p f s.typ,zA4 v≤f+1:=fun v hv=>by obtain⟨s,_,rfl⟩:=List.mem_map.1 hv;exact zK3 p f s.typ
  split
  ·simp[zA4,yO]
  ·split
   ·simp[zA4,yO]
   ·split
    ·simp[zA4,yO]
    ·split
     ·simp only[zA4];have:=zER (l:=((dfn p t.id).slots.map fun s=>yY p f s.typ).take 1) fun v hv=>hm v (List.mem_of_mem_take hv)
      omega
     ·simp only[zA4];have:=zER hm;omega
theorem zO8 {p:Prg}{l:List Int}(hl:∀x∈l,w64 x=x){t:Typ}(hf:Wf p 10 t)(hz:Wz p 5 t):qB (zCL p t l)≤256∧zA4 (zCL p t l)≤24:=by
 unfold zCL;have hm:=zF3 p l hl 10 t 0 1 hf;have:mcN 10=88573:=by decide
 split
 ·have h1:=zFF p 5 t hz;have h2:=zK3 p 5 t;have:zcN 5=121:=by decide
  exact⟨by omega,by omega⟩
 ·rename_i h;have h1:=zIh (jS p l 10 t 0 1).1 (by omega);have h2:=zJn (jS p l 10 t 0 1).1 (by omega);exact⟨by omega,by omega⟩
def zBZ (p:Prg)(d:Dfn)(l:List Int):List Val:=d.slots.mapIdx fun i s=>zCL p s.typ (l.drop (min (7*i) l.length))
theorem zHz (p:Prg)(d:Dfn)(l:List Int):(zBZ p d l).length=d.slots.length:=by simp[zBZ]
theorem zMK {p:Prg}{hs:List Hd}(hf:Fit p hs){d:Dfn}(hd:d∈p.defs){l:List Int}(hl:∀x∈l,w64 x=x):∀v∈zBZ p d l,qB v≤256∧zA4 v≤24:=fun v hv=>by simp only[zBZ,List.mem_mapIdx]at hv;obtain⟨i,hi,rfl⟩:=hv;have ht:=(hf.slots d hd).2.2.2.2 _ (List.getElem_mem hi);exact zO8 (fun x hx=>hl x (List.mem_of_mem_drop hx)) (zRi hf ht (by omega) 10 (by omega)) (zRj hf ht (by omega) 5 (by omega))
theorem zJ5 (l:List Int)(n:Nat):(yA l).drop n=yA (l.drop n):=by simp[yA]
def qEL:K:=G [kO 3 0,kO 4 1,kMn 6] (G [kMn 7] (Z (G [kMi 8 0] (K.block 0 (K.loop (Z (G [M 9 8,D 10 4 8,L 11 10 1,kN 12 11,kB 13 9 12 .lss] (Y 13 ks (K.exit 0))) (Z (K.block 1 (K.dops [(0,0,M 16 7),(1,0,J 17 3 2),(2,0,D 18 4 8),(3,0,L 19 18 1),(4,0,M 20 8),(5,0,kX 21 19 20 11),(6,0,D 22 21 4),(7,0,J 23 22 5),(8,0,M 24 2),(9,0,M 25 8),(10,0,⟨none,.bin (some 26) .mul (kc 7) (kt 25)⟩),(11,0,M 27 2),(12,0,kN 28 27),(13,0,⟨none,.mm (some 29) false [(kt 26),(kt 28)]⟩),(14,0,⟨none,.slc (some 30) (kt 24) 1 (some (kt 29)) none none⟩),(15,0,kC 31 87 [(kt 17),(kt 23),(kt 30)]),(16,0,kd 32 47 3 1 [ki,ki,kl] [(0,3,(kt 31))]),(17,0,kP 33 47 3 40 16 32),(18,0,M 7 33)])) (K.ops [M 14 8,kBi 15 14 1 .add,M 8 15])))))) (G [M 34 7,M 6 34] kr)))
theorem qLr:zL Tryz.prog Tryz.f38.ntmps (Tryz.f38.body.getD .skip)=some qEL.erase:=by kernel_rfl
@[simp] theorem qMm:zA Tryz.prog 38=true:=by kernel_rfl
set_option maxHeartbeats 1000000 in
theorem zVV {p:Prg}{hs:List Hd}(hf:Fit p hs){d:Dfn}(hd:d∈p.defs)(l:List Int)(hl:∀x∈l,w64 x=x) :
 Ret Tryz.prog 38 [.agg (zU p),.agg (zO d),.sl l.length (yA l)] [] (.sl (zBZ p d l).length (zZ (zBZ p d l))) []:=by
 have hL8:=hf.len8;obtain⟨_,s6,_,_,sty⟩:=hf.slots d hd;have hlen:=zHz p d l;refine zI Tryz.func38 rfl qLr (rs:=[.slot 6]) (by kernel_rfl) ?_;unfold qEL;simp[zU,zO];refine qY (S:=Nat) (fun i=>[(2,.sl l.length (yA l)),(3,.ptr 0 0),(4,.ptr 1 0),(7,.row 2 i),(8,int i)]) (fun i=>[.box (zU p),.box (zO d),.row false 47 3 i (zZ ((zBZ p d l).take i))]) (fun i=>i≤d.slots.length) (fun i=>d.slots.length-i) 0 (by simp)
  ((yK (t:=7) (by simp) 47 3).trans (zR [0,1,2] 0 (by decide) (by simp) (by simp[zU,zO]) (by simp))) ?_
 intro i hi;have hw:IntKind.i64.wrap ((i:Int)+1)=(i:Int)+1:=IntWalk.i64_in _ (by omega);by_cases hil:i<d.slots.length
 ·have hia:i<(zBZ p d l).length:=by omega
  have ht:=sty _ (List.getElem_mem hil);have hv:=zVD p (by omega) (l.drop (min (7*i) l.length)) (fun x hx=>hl x (List.mem_of_mem_drop hx)) d.slots[i].typ (zRi hf ht (by omega) 10 (by omega)) (zRj hf ht (by omega) 5 (by omega));have hst:zZ ((zBZ p d l).take (i+1))=zZ ((zBZ p d l).take i)++[.lit (.int .i64 (zCL p d.slots[i].typ (l.drop (min (7*i) l.length))).k),.lit (.int .i64 (zCL p d.slots[i].typ (l.drop (min (7*i) l.length))).n),.sl (zCL p d.slots[i].typ (l.drop (min (7*i) l.length))).kids.length (zZ (zCL p d.slots[i].typ (l.drop (min (7*i) l.length))).kids)]:=by rw[List.take_succ_eq_append_getElem hia,zBB];simp[zBZ]
  have hw7:IntKind.i64.wrap (7*(i:Int))=((7*i:Nat):Int):=by rw[IntWalk.i64_in _ (by omega)]; omega
  generalize zCL p d.slots[i].typ (l.drop (min (7*i) l.length))=v at hv hst;have hdl:(yA (l.drop (min (7*i) l.length))).take (l.length-min (7*i) l.length)=yA (l.drop (min (7*i) l.length)):=List.take_of_length_le (by simp[yA]);rw[List.length_drop]at hv;obtain⟨q,hq⟩:∃q:Nat,q=7*i:=⟨_,rfl⟩;rw[←hq]at hw7 hv hdl;by_cases hc:l.length<q
  ·have e:min q l.length=l.length:=by omega
   rw[e]at hv hdl;have hc':(l.length:Int)<(q:Int):=by omega
   simp[zU,zO,hil,jP hil,zAi,hw7,hc',zJ5]
   intros
   refine qO hv (by simp[zU,zB,yA]) (by simp[zP]) ?_;simp[zP];refine⟨⟨by simp[maxLen]; omega,by omega⟩,?_⟩;exact zT (i+1) hil (by omega) (zR [0,1,2] 0 (by decide) (by simp) (by simp[zU,zO,hst]) (by simp[hw]))
  ·have e:min q l.length=q:=by omega
   rw[e]at hv hdl;have hc':¬(l.length:Int)<(q:Int):=by omega
   have hle:q≤l.length:=by omega
   simp[zU,zO,hil,jP hil,zAi,hw7,hc',hle,zJ5,hdl]
   intros
   refine qO hv (by simp[zU,zB]) (by simp[zP]) ?_;simp[zP];refine⟨⟨by simp[maxLen]; omega,by omega⟩,?_⟩;exact zT (i+1) hil (by omega) (zR [0,1,2] 0 (by decide) (by simp) (by simp[zU,zO,hst]) (by simp[hw]))
 ·have hie:i=d.slots.length:=by omega
  subst hie;have hall:(zBZ p d l).take d.slots.length=zBZ p d l:=by rw[←hlen]; exact List.take_length
  rw[hall];simp[zU,zO]
  intros
  exact zC 1 (by simp[hlen])
end Go.Proofs.YthglhccibdlccaaGreatDoor

/-
  The maker's programs: their definitions have IDs of their own, their bodies have types, their types have few levels.
  The law's calls: a definition with a body, and arguments made of numbers.
-/
import Derived.Test.YthglhccibdlccaaGreatDoorX40
import Derived.Test.YthglhccibdlccaaGreatDoorX39
import Derived.Test.YthglhccibdlccaaGreatDoorX32
import Derived.Test.YthglhccibdlccaaGreatDoorX35
set_option linter.unusedVariables false
set_option linter.unusedSimpArgs false
namespace Go.Proofs.YthglhccibdlccaaGreatDoor
open Go.Abs
def zGJ (f:Int→Id)(x:Id):Id:=if x.b=0 then f x.c else x
def zHT (f:Int→Id)(b:Bnd):Bnd:={b with id:=zGJ f b.id}
def qF9 (f:Int→Id)(env:List Bnd):Prop:=∀b∈env,∀b'∈env,zGJ f b.id=zGJ f b'.id→b.id=b'.id
theorem zTa {f:Int→Id}{env:List Bnd}(h:qF9 f env){x:Id}{n:Int}{t:Typ}:zCd env x n=some t→zCd (env.map (zHT f)) (zGJ f x) n=some t:=by
 have hmem:zCd env x n=some t→∃b∈env,b.id=x:=by intro he;unfold zCd at he;rw[Option.map_eq_some_iff]at he;obtain⟨b,hb,_⟩:=he;have h1:=List.find?_some hb;have h2:=List.mem_of_find?_eq_some hb;rw[Bool.and_eq_true]at h1;exact⟨b,List.mem_reverse.1 h2,of_decide_eq_true h1.1⟩
 intro he;obtain⟨b0,hb0,rfl⟩:=hmem he;clear hmem;have key:∀l:List Bnd,(∀b∈l,b∈env)→zCd l b0.id n=some t→zCd (l.map (zHT f)) (zGJ f b0.id) n=some t:=by
  intro l;induction l using zBA with
  | nil=>intro _ h; simp[zCd]at h
  | snoc l y ih =>
   intro hl hk;rw[zEI]at hk;rw[List.map_append,List.map_singleton,zEI];have hy:=hl y (by simp);by_cases c1:y.id=b0.id
   ·by_cases c2:y.n=n
    ·rw[if_pos ⟨c1,c2⟩]at hk;rw[if_pos ⟨by simp only[zHT]; rw[c1],c2⟩];exact hk
    ·rw[if_neg fun h=>c2 h.2]at hk;rw[if_neg fun h=>c2 h.2];exact ih (fun b hb=>hl b (List.mem_append_left _ hb)) hk
   ·rw[if_neg fun h=>c1 h.1]at hk;rw[if_neg fun e=>c1 (h y hy b0 hb0 e.1)];exact ih (fun b hb=>hl b (List.mem_append_left _ hb)) hk
 exact key env (fun _ h=>h) he
theorem zLj:∀l:List Exp,l.length≤(jY l).length
 | []=>by simp
 | e::l=>by
  have:=zLj l;have h1:1≤(tmps e).length:=by rw[zBE]; simp
  simp only[List.length_cons,jY,List.length_append];omega
theorem zJA:∀{l:List Exp} {e:Exp},e∈l→(tmps e).Sublist (jY l)
 | x::l,e,h=>by
  simp only[jY];rcases List.mem_cons.1 h with rfl | h
  ·exact List.sublist_append_left _ _
  ·exact(zJA h).trans (List.sublist_append_right _ _)
structure Frs (f:Int→Id)(env:List Bnd)(e:Exp):Prop where
 nd:(tmps e).Nodup
 num:e.num0
 inj:∀c∈tmps e,∀c'∈tmps e,f c=f c'→c=c'
 new:∀b∈env,∀c∈tmps e,zGJ f b.id≠f c
 len:(tmps e).length≤32768
 ib:qF9 f env
section
variable {f:Int→Id}{env:List Bnd}{i:Id}{k n:Int}{r:Id}{u:Typ}{ks:List Exp}{ns:List ByteArray}
theorem Frs.id (h:Frs f env (.mk i k n r u ks ns)):i=⟨0,0,i.c⟩:=by obtain⟨a,b,c⟩:=i;have:=h.num;simp only[Exp.num0]at this;simp[this.1.1,this.1.2]
theorem Frs.kid (h:Frs f env (.mk i k n r u ks ns)){e:Exp}(he:e∈ks):Frs f env e:=by
 obtain⟨h1,h2,h3,h4,h5,h6⟩:=h;simp only[tmps]at h1 h3 h4 h5;simp only[Exp.num0,zHK]at h2;have hs:=zJA he;have hm:∀c∈tmps e,c∈jY ks++[i.c]:=fun c hc=>List.mem_append_left _ (hs.subset hc)
 exact⟨(List.nodup_append.1 h1).1.sublist hs,h2.2 e he,fun c hc c' hc'=>h3 c (hm c hc) c' (hm c' hc'),fun b hb c hc=>h4 b hb c (hm c hc),by
  have:=hs.length_le;rw[List.length_append]at h5;omega,h6⟩
theorem Frs.push (h:Frs f env (.mk i k n r u ks ns)){e:Exp}(he:e∈ks)(m:Int)(t:Typ){env':List Bnd}(hb:env'=env∨∃m' t',env'=env++[⟨i,m',t'⟩]):Frs f (env'++[⟨i,m,t⟩]) e:=by
 have hk:=h.kid he;have hi:=h.id;obtain⟨h1,h2,h3,h4,h5,h6⟩:=h;simp only[tmps]at h1 h3 h4;have hic:i.c∈jY ks++[i.c]:=by simp
 have hri:zGJ f i=f i.c:=by unfold zGJ; rw[if_pos (by rw[hi])]
 have hmem:∀b∈env'++[(⟨i,m,t⟩:Bnd)],b∈env∨b.id=i:=by
  intro b hb';rcases List.mem_append.1 hb' with hb' | hb'
  ·rcases hb with rfl | ⟨m',t',rfl⟩
   ·exact .inl hb'
   ·rcases List.mem_append.1 hb' with hb' | hb'
    ·exact .inl hb'
    ·rw[List.mem_singleton.1 hb']; exact .inr rfl
  ·rw[List.mem_singleton.1 hb']; exact .inr rfl
 refine⟨hk.nd,hk.num,hk.inj,fun b hb' c hc=>?_,hk.len,fun b hb1 b' hb2 e=>?_⟩
 ·rcases hmem b hb' with h' | h'
  ·exact hk.new b h' c hc
  ·rw[h',hri];intro e;have hc':=(zJA he).subset hc;have:=h3 i.c hic c (List.mem_append_left _ hc') e;exact(List.nodup_append.1 h1).2.2 c hc' i.c (by simp) this.symm
 ·rcases hmem b hb1 with h' | h'<;>rcases hmem b' hb2 with h'' | h''
  ·exact h6 b h' b' h'' e
  ·rw[h'',hri]at e;exact(h4 b h' i.c hic e).elim
  ·rw[h',hri]at e;exact(h4 b' h'' i.c hic e.symm).elim
  ·rw[h',h'']
theorem Frs.fresh (h:Frs f env (.mk i k n r u ks ns)):∀x∈env.map (zHT f),x.id≠f i.c:=by intro x hx;obtain⟨b,hb,rfl⟩:=List.mem_map.1 hx;exact h.new b hb i.c (by simp[tmps])
theorem Frs.kids (h:Frs f env (.mk i k n r u ks ns)):(ks.map (zCm f)).length≤32768:=by have h1:=h.len;have h2:=zLj ks;simp only[tmps,List.length_append]at h1;rw[List.length_map];omega
end
theorem zA8 {f:Int→Id}{i:Id}{k n:Int}{r:Id}{u:Typ}{ks:List Exp}{ns:List ByteArray}(h:k≠2):zCm f (.mk i k n r u ks ns)=.mk (f i.c) k n r u (ks.map (zCm f)) ns:=by simp only[zCm,zEd,h,false_and,if_false]
def zTE (P:Prg)(hs:List Hd):Prop:=∀(k:Nat) (h:k<hs.length),∃d,yL P.defs hs[k].id=some d∧d.hd=hs[k]
theorem qHp {P:Prg}{hs:List Hd}(hh:zTE P hs){f:Int→Id}{own:Int}{env:List Bnd}{e:Exp}{t:Typ}(h:WT hs own env e t):Frs f env e→WE P (env.map (zHT f)) (zCm f e) t:=by
 induction h with
 | int env i n h1 h2=>intro hF; rw[zA8 (by decide)]; exact .int _ _ _ _ _ _ h1 h2
 | bool env i n h=>intro hF; rw[zA8 (by decide)]; exact .bool _ _ _ _ _ _ h
 | var env i n x t h =>
  intro hF;have e:zCm f (.mk i 2 n x Typ.zero [] [])=.mk (f i.c) 2 n (zGJ f x) Typ.zero [] []:=by simp only[zCm,zNr,true_and,zGJ]
  rw[e];exact .var _ _ _ _ _ _ _ (zTa hF.ib h)
 | call env i k h ks ho hk hl hw ih =>
  intro hF;obtain⟨d,hd,hhd⟩:=hh k h;have e1:d.kind=hs[k].kind:=congrArg Hd.kind hhd;have e2:d.slots=hs[k].slots:=congrArg Hd.slots hhd;have e3:d.res=hs[k].res:=congrArg Hd.res hhd;rw[zA8 (by decide),←e3];refine .call _ _ _ _ _ _ _ hF.kids d hd (by rw[e1]; exact hk) (by simp only[List.length_map,e2]; exact hl) fun j hj=>?_
  simp only[List.getElem_map,e2];rw[List.length_map]at hj;exact ih j hj (hF.kid (List.getElem_mem hj))
 | arith env i n a b h1 h2 ha hb iha ihb =>
  intro hF;rw[zA8 (by decide)];refine .op _ _ _ _ _ _ _ hF.kids [jK,jK] jK (.arith n h1 h2) rfl fun j hj=>?_
  match j,hj with
  | 0,_=>exact iha (hF.kid (by simp))
  | 1,_=>exact ihb (hF.kid (by simp))
 | less env i a b ha hb iha ihb =>
  intro hF;rw[zA8 (by decide)];refine .op _ _ _ _ _ _ _ hF.kids [jK,jK] jP .less rfl fun j hj=>?_
  match j,hj with
  | 0,_=>exact iha (hF.kid (by simp))
  | 1,_=>exact ihb (hF.kid (by simp))
 | same env i a b u ha hb iha ihb =>
  intro hF;rw[zA8 (by decide)];refine .op _ _ _ _ _ _ _ hF.kids [u,u] jP (.same u) rfl fun j hj=>?_
  match j,hj with
  | 0,_=>exact iha (hF.kid (by simp))
  | 1,_=>exact ihb (hF.kid (by simp))
 | andor env i n a b h ha hb iha ihb =>
  intro hF;rw[zA8 (by decide)];refine .op _ _ _ _ _ _ _ hF.kids [jP,jP] jP (.andor n h) rfl fun j hj=>?_
  match j,hj with
  | 0,_=>exact iha (hF.kid (by simp))
  | 1,_=>exact ihb (hF.kid (by simp))
 | not env i a ha iha =>
  intro hF;rw[zA8 (by decide)];refine .op _ _ _ _ _ _ _ hF.kids [jP] jP .not rfl fun j hj=>?_
  match j,hj with
  | 0,_=>exact iha (hF.kid (by simp))
 | join env i a b t ha hb iha ihb =>
  intro hF;rw[zA8 (by decide)];refine .op _ _ _ _ _ _ _ hF.kids [jM t,jM t] (jM t) (.join t) rfl fun j hj=>?_
  match j,hj with
  | 0,_=>exact iha (hF.kid (by simp))
  | 1,_=>exact ihb (hF.kid (by simp))
 | len env i a t ha iha =>
  intro hF;rw[zA8 (by decide)];refine .op _ _ _ _ _ _ _ hF.kids [jM t] jK (.len t) rfl fun j hj=>?_
  match j,hj with
  | 0,_=>exact iha (hF.kid (by simp))
 | ite env i a b c t ha hb hc iha ihb ihc =>
  intro hF;rw[zA8 (by decide)];exact .ite _ _ _ _ _ _ _ _ _ _ (iha (hF.kid (by simp))) (ihb (hF.kid (by simp))) (ihc (hF.kid (by simp)))
 | lets env i a b u t ns hn ha hb iha ihb =>
  intro hF;rw[zA8 (by decide)];have hb':=ihb (hF.push (by simp) 0 u (.inl rfl));rw[List.map_append,List.map_singleton]at hb';have hi:=hF.id;have e:zHT f ⟨i,0,u⟩=⟨f i.c,0,u⟩:=by simp only[zHT,zGJ]; rw[if_pos (by rw[hi])]
  rw[e]at hb';exact .lets _ _ _ _ _ _ _ _ _ _ hF.fresh (iha (hF.kid (by simp))) hb'
 | record env i k h ks hk hl hw ih =>
  intro hF;obtain⟨d,hd,hhd⟩:=hh k h;have e1:d.kind=hs[k].kind:=congrArg Hd.kind hhd;have e2:d.slots=hs[k].slots:=congrArg Hd.slots hhd;rw[zA8 (by decide)];refine .record _ _ _ _ _ _ _ hF.kids d hd (by rw[e1]; exact hk) (by simp only[List.length_map,e2]; exact hl) fun j hj=>?_
  simp only[List.getElem_map,e2];rw[List.length_map]at hj;exact ih j hj (hF.kid (List.getElem_mem hj))
 | field env i k h j hj a hk ha iha =>
  intro hF;obtain⟨d,hd,hhd⟩:=hh k h;have e1:d.kind=hs[k].kind:=congrArg Hd.kind hhd;have e2:hs[k].slots=d.slots:=(congrArg Hd.slots hhd).symm;rw[zA8 (by decide)];have hjd:j<d.slots.length:=by rw[←e2]; exact hj
  have et:hs[k].slots[j]=d.slots[j]:=by simp only[e2]
  rw[et];exact .field _ _ _ _ _ _ d j hd (by rw[e1]; exact hk) hjd (iha (hF.kid (by simp)))
 | case env i k h j hj a hk ha iha =>
  intro hF;obtain⟨d,hd,hhd⟩:=hh k h;have e1:d.kind=hs[k].kind:=congrArg Hd.kind hhd;have e2:hs[k].slots=d.slots:=(congrArg Hd.slots hhd).symm;rw[zA8 (by decide)];have hjd:j<d.slots.length:=by rw[←e2]; exact hj
  have et:hs[k].slots[j]=d.slots[j]:=by simp only[e2]
  have ih:=iha (hF.kid (by simp));rw[et]at ih;exact .case _ _ _ _ _ _ d j hd (by rw[e1]; exact hk) hjd ih
 | mtch env i k h a ks t ns hn hk hl ha hw iha ih =>
  intro hF;obtain⟨d,hd,hhd⟩:=hh k h;have e1:d.kind=hs[k].kind:=congrArg Hd.kind hhd;have e2:d.slots=hs[k].slots:=congrArg Hd.slots hhd;rw[zA8 (by decide),List.map_cons];have hi:=hF.id;refine .mtch _ _ _ _ _ _ _ _ d _ hF.fresh hd (by rw[e1]; exact hk) (by simp only[List.length_map,e2]; exact hl) (iha (hF.kid (by simp))) fun j hj=>?_
  have hj':j<ks.length:=by rw[List.length_map]at hj; exact hj
  have:=ih j hj' (hF.push (List.mem_cons_of_mem _ (List.getElem_mem hj')) _ _ (.inl rfl));rw[List.map_append,List.map_singleton]at this;have e:∀t,zHT f ⟨i,j,t⟩=⟨f i.c,j,t⟩:=fun t=>by simp only[zHT,zGJ]; rw[if_pos (by rw[hi])]
  rw[e]at this;simp only[List.getElem_map,e2];exact this
 | list env i t ks hw ih =>
  intro hF;rw[zA8 (by decide)];refine .list _ _ _ _ _ _ _ _ hF.kids fun j hj=>?_
  rw[List.length_map]at hj;rw[List.getElem_map];exact ih j hj (hF.kid (List.getElem_mem hj))
 | fold env i l s b u t ns hn hl hs' hb ihl ihs ihb =>
  intro hF;rw[zA8 (by decide)];have hb':=ihb (hF.push (by simp) 1 t (.inr ⟨0,u,rfl⟩));rw[List.map_append,List.map_singleton,List.map_append,List.map_singleton]at hb';have hi:=hF.id;have e:∀m t,zHT f ⟨i,m,t⟩=⟨f i.c,m,t⟩:=fun m t=>by simp only[zHT,zGJ]; rw[if_pos (by rw[hi])]
  rw[e,e]at hb';exact .fold _ _ _ _ _ _ _ _ _ _ _ hF.fresh (ihl (hF.kid (by simp))) (ihs (hF.kid (by simp))) hb'
theorem zFW:∀{ds:List Dfn} (_:ds.Pairwise fun a b=>a.id≠b.id) {k:Nat} (hk:k<ds.length),yL ds ds[k].id=some ds[k]
 | d::ds,h,0,_=>by rw[zGH]; simp
 | d::ds,h,k+1,hk=>by
  rw[List.pairwise_cons]at h;have hk':k<ds.length:=by simpa using hk
  rw[zGH];have:=h.1 ds[k] (List.getElem_mem hk');simp only[List.getElem_cons_succ];rw[if_neg this];exact zFW h.2 hk'
structure Fit (P:Prg)(hs:List Hd):Prop where
 heads:P.defs.map Dfn.hd=hs
 len5:5≤P.defs.length
 len8:P.defs.length≤8
 nd:P.defs.Pairwise fun a b=>a.id≠b.id
 slots:∀d∈P.defs,1≤d.slots.length∧d.slots.length≤6∧(d.kind=0∨d.kind=1→d.slots.length≤3)∧(d.slots.Pairwise fun a b=>a.id≠b.id)∧∀s∈d.slots,TyOk hs 4 s.typ
 kinds:∀d∈P.defs,0≤d.kind∧d.kind≤5
 bods:zMS P
theorem Fit.hd {P:Prg}{hs:List Hd}(h:Fit P hs):zTE P hs:=fun k hk=>by
 have hk':k<P.defs.length:=by rw[←h.heads]at hk; simpa using hk
 have e:hs[k]=P.defs[k].hd:=by simp[←h.heads]
 refine⟨P.defs[k],?_,e.symm⟩;rw[e];exact zFW h.nd hk'
theorem zAz {ds:List Dfn}{r:Id}{d:Dfn}(h:yL ds r=some d):d∈ds∧d.id=r:=⟨List.mem_of_find?_eq_some h,by simpa using List.find?_some h⟩
section
variable {l:List Int}{mods:Int}(hl:∀x∈l,w64 x=x)
include hl
theorem zRW:∀p∈qF l mods,p.kind=0∨p.kind=1→p.types.length≤3:=by
 intro p hp;have a2:=yQ (i:=2) hl (most:=3) (by omega);have a6:=yQ (i:=6) hl (most:=2) (by omega);have a9:=yQ (i:=9) hl (most:=3) (by omega);have hp':p=zAU l mods∨p=zBr l mods∨p=zCC l mods∨p=zJh mods∨p.kind=2∨p.kind=3∨p.kind=4∨p.kind=5:=by
  simp only[qF,plB,plC,plD,plE,List.mem_append,List.mem_cons]at hp;rcases hp with ((h | h | h) | h) | h | h | h | h
  ·simp[h]
  ·simp[h]
  ·simp at h
  ·split at h
   ·simp at h; rcases h with h | h<;>simp[h]
   ·simp at h
  ·simp[h,pF]
  ·split at h<;>simp[h,zHn,pG]
  ·simp[h,pT]
  ·split at h
   ·simp at h; simp[h,pC]
   ·simp at h
 rcases hp' with rfl | rfl | rfl | rfl | h
 ·intro _; simp only[zAU,zCA]; omega
 ·intro _; simp only[zBr,List.length_cons,zCA]; omega
 ·intro _; simp only[zCC,List.length_cons,zCA]; omega
 ·intro _; simp only[zJh,List.length_cons,List.length_nil]; omega
 ·omega
end
theorem PrgOk.fit {l:List Int}(hl:∀x∈l,w64 x=x){P:Prg}(h:PrgOk l P):Fit P (hsV l (nmV l)):=by
 obtain⟨hnm,hnm2⟩:=zV1 l hl;generalize hN:nmV l=nm at *
 have m1:1≤(nm:Int):=by omega
 have m2:(nm:Int)≤2:=by omega
 obtain⟨n5,n8⟩:=zAL l (nm:Int);have hh:=h.heads;rw[hN]at hh;have hlen:P.defs.length=(qF l nm).length:=by have:=congrArg List.length hh; simpa using this
 have hget:∀(k:Nat) (hk:k<P.defs.length),P.defs[k].hd=⟨idR (nm+k),((qF l nm)[k]'(by omega)).kind,zAZ (zA2 nm (qF l nm) k) ((qF l nm)[k]'(by omega)),((qF l nm)[k]'(by omega)).out⟩:=fun k hk=>by
  rw[←zEh nm (qF l nm) (by omega)];have:(P.defs.map Dfn.hd)[k]'(by simpa using hk)=(zKP nm (qF l nm))[k]'(by simpa using (by omega:k<(qF l nm).length)):=by simp only[hh]
  rwa [List.getElem_map]at this
 have hnd:P.defs.Pairwise fun a b=>a.id≠b.id:=by rw[List.pairwise_iff_getElem];intro i j hi hj hij e;have e1:P.defs[i].id=idR (nm+i):=congrArg Hd.id (hget i hi);have e2:P.defs[j].id=idR (nm+j):=congrArg Hd.id (hget j hj);rw[e1,e2]at e;have:=zHx (by omega) (by omega) (by omega) (by omega) e;omega
 have hpl:=zB2 l nm m1 m2 hl;have hrange:=fun i=>zCS (show 0≤(nm:Int) by omega) (fun p hp=>(hpl p hp).t6) i
 have henv:∀(k:Nat) (hk:k<P.defs.length),EnvOk (hsV l nm) 4 0 (zBw P.defs[k])∧1≤(zBw P.defs[k]).length∧(zBw P.defs[k]).length≤6∧TyOk (hsV l nm) 4 P.defs[k].res:=fun k hk=>zHU m1 m2 hl (i:=k) (by rw[←hh,List.getElem?_map,List.getElem?_eq_getElem hk]; rfl) 0
 have hslot:∀(k:Nat) (hk:k<P.defs.length),∀s∈P.defs[k].slots,∃j:Int,s.id=idR j∧0≤j∧j<zA2 nm (qF l nm) (qF l nm).length:=fun k hk s hs=>by have e:P.defs[k].slots=zAZ (zA2 nm (qF l nm) k) ((qF l nm)[k]'(by omega)):=congrArg Hd.slots (hget k hk);rw[e]at hs;simp only[zAZ,List.mem_map,List.mem_range]at hs;obtain⟨j,hj,rfl⟩:=hs;have h1:=hrange k;have h2:=zJC nm (qF l nm) (i:=k) (by omega);have h3:=zPU (mods:=nm) (ps:=qF l nm) (show k+1≤(qF l nm).length by omega);exact⟨_,rfl,by omega,by omega⟩
 refine⟨hh,by omega,by omega,hnd,fun d hd=>?_,fun d hd=>?_,fun r d hd hb=>?_⟩
 ·obtain⟨k,hk,rfl⟩:=List.getElem_of_mem hd;obtain⟨a1,a2,a3,a4⟩:=henv k hk;rw[zHc]at a2 a3;refine⟨a2,a3,fun hkd=>?_,?_,fun s hs=>a1.typs ⟨s.id,0,s.typ⟩ (List.mem_map.2 ⟨s,hs,rfl⟩)⟩
  ·have e1:P.defs[k].kind=((qF l nm)[k]'(by omega)).kind:=congrArg Hd.kind (hget k hk);have e2:P.defs[k].slots=zAZ (zA2 nm (qF l nm) k) ((qF l nm)[k]'(by omega)):=congrArg Hd.slots (hget k hk);rw[e2,zC6];exact zRW hl _ (List.getElem_mem _) (by rw[←e1]; exact hkd)
  ·have:=a1.nd;simp only[zBw]at this;rw[List.pairwise_map]at this;exact this.imp fun h e=>h ⟨e,rfl⟩
 ·obtain⟨k,hk,rfl⟩:=List.getElem_of_mem hd;have e1:P.defs[k].kind=((qF l nm)[k]'(by omega)).kind:=congrArg Hd.kind (hget k hk);rw[e1];have:=hpl _ (List.getElem_mem (show k<(qF l nm).length by omega));exact⟨this.kind0,this.kind5⟩
 ·obtain⟨hd1,rfl⟩:=zAz hd;obtain⟨k,hk,rfl⟩:=List.getElem_of_mem hd1;obtain⟨base,hb0,hbs⟩:=h.bodies;rw[hN]at hb0 hbs;have hbase:∀k,k≤P.defs.length→zA2 nm (qF l nm) (qF l nm).length≤base k∧base k≤zA2 nm (qF l nm) (qF l nm).length+32768*k:=by
   intro k;induction k with
   | zero=>intro _; rw[hb0]; omega
   | succ k ih =>
    intro hk;have ih:=ih (by omega);rcases hbs k P.defs[k] (List.getElem?_eq_getElem (by omega))with ⟨_,_,e⟩ | ⟨_,e,f,hr,e'⟩
    ·rw[e]; omega
    ·rw[e'];have:=hr.len;omega
  have hbk:=hbase k (by omega);have hr0:=hrange (qF l nm).length;rcases hbs k P.defs[k] (List.getElem?_eq_getElem hk)with ⟨h0,_,_⟩ | ⟨_,e,f,hr,_⟩
  ·rw[h0]at hb; cases hb
  ·have hlt:=hr.len;have hfc:∀c∈tmps e,∃j:Nat,∃hj:j<(tmps e).length,(tmps e)[j]=c∧f c=idR (base k+j):=fun c hc=>by obtain⟨j,hj,rfl⟩:=List.getElem_of_mem hc;exact⟨j,hj,rfl,hr.ids j hj⟩
   have hsb:∀b∈zBw P.defs[k],∃j:Int,b.id=idR j∧zGJ f b.id=idR j∧0≤j∧j<zA2 nm (qF l nm) (qF l nm).length:=fun b hb=>by simp only[zBw,List.mem_map]at hb;obtain⟨s,hs,rfl⟩:=hb;obtain⟨j,h1,h2,h3⟩:=hslot k hk s hs;have:=zZ9 (k:=j) h2 (by omega);refine⟨j,h1,?_,h2,h3⟩;simp only[zGJ,h1];rw[if_neg (by omega)]
   have hF:Frs f (zBw P.defs[k]) e:=by
    refine⟨hr.nd,hr.num,fun c hc c' hc' he=>?_,fun b hb' c hc he=>?_,hr.len,fun b hb1 b' hb2 he=>?_⟩
    ·obtain⟨j,hj,e1,e2⟩:=hfc c hc;obtain⟨j',hj',e1',e2'⟩:=hfc c' hc';rw[e2,e2']at he;have:=zHx (by omega) (by omega) (by omega) (by omega) he;have:j=j':=by omega
     subst this;rw[←e1,←e1']
    ·obtain⟨j,hj,e1,e2⟩:=hfc c hc;obtain⟨j',_,e3,h0,h1⟩:=hsb b hb';rw[e3,e2]at he;have:=zHx (by omega) (by omega) (by omega) (by omega) he;omega
    ·obtain⟨j,e1,e2,h0,h1⟩:=hsb b hb1;obtain⟨j',e1',e2',h0',h1'⟩:=hsb b' hb2;rw[e2,e2']at he;rw[e1,e1',he]
   have hho:zTE P (hsV l nm):=fun k hk=>by
    have hk':k<P.defs.length:=by rw[←hh]at hk; simpa using hk
    have e:(hsV l nm)[k]=P.defs[k].hd:=by simp[←hh]
    exact⟨P.defs[k],by rw[e]; exact zFW hnd hk',e.symm⟩
   have:=qHp hho hr.wt hF;rw[←hr.body]at this;have e2:(zBw P.defs[k]).map (zHT f)=zBw P.defs[k]:=by
    rw[List.map_congr_left (g:=id)]
    ·simp
    ·intro b hb';obtain⟨j,e1,e2,_,_⟩:=hsb b hb';simp only[zHT,id,e2];rw[←e1]
   rw[e2]at this;exact this
theorem TyOk.valid {P:Prg}{hs:List Hd}(hh:zTE P hs){r:Nat}{t:Typ}(h:TyOk hs r t):∀n,r<n→jV P n t=true:=by
 induction h with
 | int r=>intro n hn; obtain⟨m,rfl⟩:∃m,n=m+1:=⟨n-1,by omega⟩; simp[jV]
 | bool r=>intro n hn; obtain⟨m,rfl⟩:∃m,n=m+1:=⟨n-1,by omega⟩; simp[jV]
 | list r t h ih =>
  intro n hn;obtain⟨m,rfl⟩:∃m,n=m+1:=⟨n-1,by omega⟩;simp[jV,ih m (by omega)]
 | dfn r k h h1 h2 h3 h4 ih =>
  intro n hn;obtain⟨m,rfl⟩:∃m,n=m+1:=⟨n-1,by omega⟩;obtain⟨d,hd,hhd⟩:=hh k h;have e1:d.kind=hs[k].kind:=congrArg Hd.kind hhd;simp[jV,zFp,hd,e1];omega
theorem TyOk.validT {P:Prg}{hs:List Hd}(hh:zTE P hs){r:Nat}{t:Typ}(h:TyOk hs r t)(hr:r<24):validT P t=true:=h.valid hh 24 hr
theorem Fit.at_ {P:Prg}{hs:List Hd}(h:Fit P hs)(k:Nat)(hk:k<hs.length):(dfn P hs[k].id).hd=hs[k]∧dfn P hs[k].id∈P.defs:=by
 obtain⟨d,hd,hhd⟩:=h.hd k hk;have:dfn P hs[k].id=d:=by simp[dfn,hd]
 rw[this];exact⟨hhd,(zAz hd).1⟩
theorem zQL {P:Prg}{hs:List Hd}(hf:Fit P hs){r:Nat}{t:Typ}(h:TyOk hs r t):r<24→∀n,r<n→Wf P n t:=by
 induction h with
 | int r=>intro hr n hn; obtain⟨m,rfl⟩:∃m,n=m+1:=⟨n-1,by omega⟩; exact⟨(TyOk.int r).validT hf.hd hr,.inl rfl⟩
 | bool r=>intro hr n hn; obtain⟨m,rfl⟩:∃m,n=m+1:=⟨n-1,by omega⟩; exact⟨(TyOk.bool r).validT hf.hd hr,.inr (.inl rfl)⟩
 | list r t h ih=>intro hr n hn; obtain⟨m,rfl⟩:∃m,n=m+1:=⟨n-1,by omega⟩; exact⟨(TyOk.list r t h).validT hf.hd hr,.inr (.inr (.inl ⟨rfl,t,rfl,ih (by omega) m (by omega)⟩))⟩
 | dfn r k h h1 h2 h3 h4 ih =>
  intro hr n hn;obtain⟨m,rfl⟩:∃m,n=m+1:=⟨n-1,by omega⟩;obtain⟨hd,hdm⟩:=hf.at_ k h;have e1:(dfn P hs[k].id).kind=hs[k].kind:=congrArg Hd.kind hd;have e2:(dfn P hs[k].id).slots=hs[k].slots:=congrArg Hd.slots hd;have hs':=hf.slots _ hdm;have hkd:hs[k].kind=0∨hs[k].kind=1:=by omega
  refine⟨(TyOk.dfn r k h h1 h2 h3 h4).validT hf.hd hr,.inr (.inr (.inr ⟨rfl,?_⟩))⟩;simp only[Typ.id_mk];refine⟨by rw[e1]; exact hkd,hs'.1,hs'.2.2.1 (by rw[e1]; exact hkd),fun s hs''=>?_⟩;rw[e2]at hs'';exact ih s hs'' (by omega) m (by omega)
theorem zR4 {P:Prg}{hs:List Hd}(hf:Fit P hs){r:Nat}{t:Typ}(h:TyOk hs r t):r<24→∀n,r<n→Wz P n t:=by
 induction h with
 | int r=>intro hr n hn; obtain⟨m,rfl⟩:∃m,n=m+1:=⟨n-1,by omega⟩; exact⟨(TyOk.int r).validT hf.hd hr,.inl rfl⟩
 | bool r=>intro hr n hn; obtain⟨m,rfl⟩:∃m,n=m+1:=⟨n-1,by omega⟩; exact⟨(TyOk.bool r).validT hf.hd hr,.inr (.inl rfl)⟩
 | list r t h ih=>intro hr n hn; obtain⟨m,rfl⟩:∃m,n=m+1:=⟨n-1,by omega⟩; exact⟨(TyOk.list r t h).validT hf.hd hr,.inr (.inr (.inl rfl))⟩
 | dfn r k h h1 h2 h3 h4 ih =>
  intro hr n hn;obtain⟨m,rfl⟩:∃m,n=m+1:=⟨n-1,by omega⟩;obtain⟨hd,hdm⟩:=hf.at_ k h;have e1:(dfn P hs[k].id).kind=hs[k].kind:=congrArg Hd.kind hd;have e2:(dfn P hs[k].id).slots=hs[k].slots:=congrArg Hd.slots hd;have hs':=hf.slots _ hdm;have hkd:hs[k].kind=0∨hs[k].kind=1:=by omega
  refine⟨(TyOk.dfn r k h h1 h2 h3 h4).validT hf.hd hr,.inr (.inr (.inr ⟨rfl,?_⟩))⟩;simp only[Typ.id_mk];refine⟨by rw[e1]; exact hkd,hs'.1,hs'.2.2.1 (by rw[e1]; exact hkd),fun s hs''=>?_⟩;rw[e2]at hs'';exact ih s hs'' (by omega) m (by omega)
theorem zEl {P:Prg}:∀{ts:List Typ} {vs:List Val},zBf P ts vs=true→∀(j:Nat) (h1:j<ts.length) (h2:j<vs.length),zAy P ts[j] vs[j]=true
 | t::ts,v::vs,h,j,h1,h2=>by
  rw[zBf,Bool.and_eq_true]at h;cases j with
  | zero=>exact h.1
  | succ j=>exact zEl h.2 j (by simpa using h1) (by simpa using h2)
theorem zM3 {P:Prg}{hs:List Hd}(hf:Fit P hs){r:Nat}{t:Typ}(h:TyOk hs r t):∀v,zAy P t v=true→TyV P t v:=by
 induction h with
 | int r =>
  intro v hv;rw[zBb]at hv;simp at hv;obtain⟨_,⟨⟨h1,h2⟩,h3⟩,h4⟩:=hv;obtain⟨k,n,l⟩:=v;simp only[Val.k,Val.n,Val.kids]at h1 h2 h3 h4;subst h1 h2;exact .int n h3 h4
 | bool r =>
  intro v hv;rw[zBb]at hv;simp at hv;obtain⟨_,⟨h1,h2⟩,h3⟩:=hv;obtain⟨k,n,l⟩:=v;simp only[Val.k,Val.n,Val.kids]at h1 h2 h3;subst h1 h2;exact .bool n h3
 | list r t h ih =>
  intro v hv;rw[zBb]at hv;simp at hv;obtain⟨_,⟨h1,h2⟩,h3⟩:=hv;obtain⟨k,n,l⟩:=v;simp only[Val.k,Val.n,Val.kids]at h1 h2 h3;subst h1 h2;exact .list _ _ fun x hx=>ih x (h3 x hx)
 | dfn r k h h1 h2 h3 h4 ih =>
  intro v hv;obtain⟨d,hd,hhd⟩:=hf.hd k h;have e1:d.kind=hs[k].kind:=congrArg Hd.kind hhd;have e2:d.slots=hs[k].slots:=congrArg Hd.slots hhd;have ed:dfn P hs[k].id=d:=by simp[dfn,hd]
  rw[zBb]at hv;simp only[Typ.k_mk,Typ.id_mk,ed]at hv;obtain⟨kk,n,l⟩:=v;by_cases hk:d.kind=1
  ·simp[hk,Val.k,Val.n,Val.kids]at hv;obtain⟨_,⟨⟨⟨g1,g2⟩,g3⟩,g4⟩,g5⟩:=hv;replace g1:=of_decide_eq_true g1;replace g2:=of_decide_eq_true g2;replace g3:=of_decide_eq_true g3;replace g4:=of_decide_eq_true g4;obtain⟨x,rfl⟩:=List.length_eq_one_iff.1 g4;obtain⟨j,rfl⟩:∃j:Nat,n=j:=⟨n.toNat,by omega⟩;have hj:j<d.slots.length:=by omega
   rw[Int.toNat_natCast,List.getElem?_eq_getElem hj,Option.map_some,zOa]at g5;subst g1;exact .case _ d j x hd hk hj (ih d.slots[j] (by rw[←e2]; exact List.getElem_mem hj) x g5)
  ·simp[hk,Val.k,Val.n,Val.kids]at hv;obtain⟨_,⟨⟨g1,g2⟩,g3⟩,g4⟩:=hv;replace g1:=of_decide_eq_true g1;replace g2:=of_decide_eq_true g2;replace g3:=of_decide_eq_true g3;subst g1 g2;refine .record _ d l hd (by omega) g3 fun j hj=>?_
   have hjd:j<d.slots.length:=by omega
   have:=zEl g4 j (by simpa using hjd) hj;rw[List.getElem_map]at this;exact ih d.slots[j] (by rw[←e2]; exact List.getElem_mem hjd) l[j] this
def mcN:Nat→Nat
 | 0=>1
 | f+1=>1+3*mcN f
theorem zI2 {g:Typ→Int→Val×Int}{c:Nat}:∀(l:List Typ) (a:Int),(∀t∈l,∀b,qE (g t b).1≤c)→qS (zAP g l a).1≤l.length*c
 | [],a,_=>by simp[zAP,qS]
 | t::l,a,h=>by
  have h1:=h t (by simp) a;have h2:=zI2 l (g t a).2 fun x hx b=>h x (by simp[hx]) b
  simp only[zAP,qS,List.length_cons,Nat.add_mul,Nat.one_mul];omega
theorem zFF (p:Prg)(l:List Int)(hl:∀x∈l,w64 x=x):∀(f:Nat) (t:Typ) (a d:Int),Wf p f t→qE (yF p l f t a d).1≤mcN f
 | 0,t,a,d,h=>h.elim
 | f+1,t,a,d,h=>by
  unfold Wf at h;obtain⟨_,h⟩:=h;have hx:=yQ (i:=a) hl (show (0:Int)<1048576 by omega);unfold mcN;by_cases h0:t.k=0
  ·rw[yF,if_pos h0]; simp[qE,qS]
  by_cases h1:t.k=1
  ·rw[yF,if_neg h0,if_pos h1]; simp[qE,qS]
  by_cases h2:t.k=2
  ·obtain⟨_,x,hx1,hx2⟩:=h.resolve_left h0|>.resolve_left h1|>.resolve_right (fun e=>by omega);rw[yF,if_neg h0,if_neg h1,if_pos h2];have hkid:t.kids.headD Typ.zero=x:=by rw[hx1]; rfl
   rw[hkid];have hq:(if 3<d then 0 else ((atV l a 1048576).tmod 3).toNat)≤3:=by
    split
    ·omega
    ·have:=Int.tmod_lt_of_pos (atV l a 1048576) (show (0:Int)<3 by omega);omega
   generalize (if 3<d then 0 else ((atV l a 1048576).tmod 3).toNat)=q at hq;have:=zI2 (g:=fun t b=>yF p l f t b (w64 (d+1))) (c:=mcN f) (List.replicate q x) (w64 (a+1)) fun y hy b=>by rw[List.eq_of_mem_replicate hy];exact zFF p l hl f x b _ hx2
   rw[List.length_replicate]at this;have:q*mcN f≤3*mcN f:=Nat.mul_le_mul_right _ hq;simp only[qE];omega
  obtain⟨_,_,_,g3,g4⟩:=h.resolve_left h0|>.resolve_left h1|>.resolve_left (fun e=>h2 e.1);by_cases hk:(dfn p t.id).kind=1
  ·rw[yF,if_neg h0,if_neg h1,if_neg h2,if_pos hk];have key:∀y:Typ,y=Typ.zero∨Wf p f y→qE (yF p l f y (w64 (a+1)) (w64 (d+1))).1≤3*mcN f:=by
    intro y hy;rcases hy with rfl | hy
    ·cases f with
     | zero=>simp[yF,qE,qS,mcN]
     | succ f=>rw[yF,if_pos (by rfl)]; simp[qE,qS,mcN]; omega
    ·have:=zFF p l hl f y (w64 (a+1)) (w64 (d+1)) hy;omega
   have:=key (((dfn p t.id).slots.map Slt.typ).getD ((atV l a 1048576).tmod (dfn p t.id).slots.length).toNat Typ.zero) (by
    rw[List.getD_eq_getElem?_getD,List.getElem?_map];cases hg:(dfn p t.id).slots[((atV l a 1048576).tmod (dfn p t.id).slots.length).toNat]? with
    | none=>left; rfl
    | some s=>right; exact g4 s (List.mem_of_getElem? hg))
   simp only[qE,qS];omega
  ·rw[yF,if_neg h0,if_neg h1,if_neg h2,if_neg hk];have:=zI2 (g:=fun t b=>yF p l f t b (w64 (d+1))) (c:=mcN f) ((dfn p t.id).slots.map Slt.typ) (w64 (a+1)) fun y hy b=>by obtain⟨s,hs,rfl⟩:=List.mem_map.1 hy;exact zFF p l hl f s.typ b _ (g4 s hs)
   rw[List.length_map]at this;have:(dfn p t.id).slots.length*mcN f≤3*mcN f:=Nat.mul_le_mul_right _ g3;simp only[qE];omega
theorem zFc:∀{l:List Val} {c:Nat},(∀v∈l,zAg v≤c)→yO l≤c
 | [],c,_=>by simp[yO]
 | v::l,c,h=>by
  have h1:=h v (by simp);have h2:=zFc (l:=l) (c:=c) fun x hx=>h x (by simp[hx])
  simp only[yO];omega
theorem zKx (p:Prg):∀(f:Nat) (t:Typ),zAg (zA1 p f t)≤f+1
 | 0,t=>by simp[zA1,zAg,yO]
 | f+1,t=>by
  unfold zA1;have hm:∀v∈(dfn p t.id).slots.map fun s=>zA1 p f s.typ,zAg v≤f+1:=fun v hv=>by obtain⟨s,_,rfl⟩:=List.mem_map.1 hv;exact zKx p f s.typ
  split
  ·simp[zAg,yO]
  ·split
   ·simp[zAg,yO]
   ·split
    ·simp[zAg,yO]
    ·split
     ·simp only[zAg];have:=zFc (l:=((dfn p t.id).slots.map fun s=>zA1 p f s.typ).take 1) fun v hv=>hm v (List.mem_of_mem_take hv)
      omega
     ·simp only[zAg];have:=zFc hm;omega
theorem zNx {p:Prg}{l:List Int}(hl:∀x∈l,w64 x=x){t:Typ}(hf:Wf p 10 t)(hz:Wz p 5 t):qE (zDt p t l)≤256∧zAg (zDt p t l)≤24:=by
 unfold zDt;have hm:=zFF p l hl 10 t 0 1 hf;have:mcN 10=88573:=by decide
 split
 ·have h1:=zFS p 5 t hz;have h2:=zKx p 5 t;have:zcN 5=121:=by decide
  exact⟨by omega,by omega⟩
 ·rename_i h;have h1:=zFZ (yF p l 10 t 0 1).1 (by omega);have h2:=zG3 (yF p l 10 t 0 1).1 (by omega);exact⟨by omega,by omega⟩
def zC1 (p:Prg)(d:Dfn)(l:List Int):List Val:=d.slots.mapIdx fun i s=>zDt p s.typ (l.drop (min (7*i) l.length))
theorem zLu (p:Prg)(d:Dfn)(l:List Int):(zC1 p d l).length=d.slots.length:=by simp[zC1]
theorem zNF {p:Prg}{hs:List Hd}(hf:Fit p hs){d:Dfn}(hd:d∈p.defs){l:List Int}(hl:∀x∈l,w64 x=x):∀v∈zC1 p d l,qE v≤256∧zAg v≤24:=fun v hv=>by simp only[zC1,List.mem_mapIdx]at hv;obtain⟨i,hi,rfl⟩:=hv;have ht:=(hf.slots d hd).2.2.2.2 _ (List.getElem_mem hi);exact zNx (fun x hx=>hl x (List.mem_of_mem_drop hx)) (zQL hf ht (by omega) 10 (by omega)) (zR4 hf ht (by omega) 5 (by omega))
theorem zJ4 (l:List Int)(n:Nat):(yD l).drop n=yD (l.drop n):=by simp[yD]
def qIo:K:=G [kO 3 0,kO 4 1,kMn 6] (G [kMn 7] (Z (G [kMi 8 0] (K.block 0 (K.loop (Z (G [M 9 8,D 10 4 8,L 11 10 1,kN 12 11,kB 13 9 12 .lss] (Y 13 ks (K.exit 0))) (Z (K.block 1 (K.dops [(0,0,M 16 7),(1,0,J 17 3 2),(2,0,D 18 4 8),(3,0,L 19 18 1),(4,0,M 20 8),(5,0,kX 21 19 20 11),(6,0,D 22 21 4),(7,0,J 23 22 5),(8,0,M 24 2),(9,0,M 25 8),(10,0,⟨none,.bin (some 26) .mul (kc 7) (kt 25)⟩),(11,0,M 27 2),(12,0,kN 28 27),(13,0,⟨none,.mm (some 29) false [(kt 26),(kt 28)]⟩),(14,0,⟨none,.slc (some 30) (kt 24) 1 (some (kt 29)) none none⟩),(15,0,kC 31 87 [(kt 17),(kt 23),(kt 30)]),(16,0,kd 32 47 3 1 [ki,ki,kl] [(0,3,(kt 31))]),(17,0,kP 33 47 3 40 16 32),(18,0,M 7 33)])) (K.ops [M 14 8,kBi 15 14 1 .add,M 8 15])))))) (G [M 34 7,M 6 34] kr)))
theorem qNf:zN Tryz.prog Tryz.f38.ntmps (Tryz.f38.body.getD .skip)=some qIo.erase:=by kernel_rfl
@[simp] theorem qNm:zC Tryz.prog 38=true:=by kernel_rfl
set_option maxHeartbeats 1000000 in
theorem zX9 {p:Prg}{hs:List Hd}(hf:Fit p hs){d:Dfn}(hd:d∈p.defs)(l:List Int)(hl:∀x∈l,w64 x=x) :
 Ret Tryz.prog 38 [.agg (zQ p),.agg (zP d),.sl l.length (yD l)] [] (.sl (zC1 p d l).length (zZ (zC1 p d l))) []:=by
 have hL8:=hf.len8;obtain⟨_,s6,_,_,sty⟩:=hf.slots d hd;have hlen:=zLu p d l;refine zK Tryz.func38 rfl qNf (rs:=[.slot 6]) (by kernel_rfl) ?_;unfold qIo;simp[zQ,zP];refine qP (S:=Nat) (fun i=>[(2,.sl l.length (yD l)),(3,.ptr 0 0),(4,.ptr 1 0),(7,.row 2 i),(8,int i)]) (fun i=>[.box (zQ p),.box (zP d),.row false 47 3 i (zZ ((zC1 p d l).take i))]) (fun i=>i≤d.slots.length) (fun i=>d.slots.length-i) 0 (by simp)
  ((jZ (t:=7) (by simp) 47 3).trans (zV [0,1,2] 0 (by decide) (by simp) (by simp[zQ,zP]) (by simp))) ?_
 intro i hi;have hw:IntKind.i64.wrap ((i:Int)+1)=(i:Int)+1:=IntWalk.i64_in _ (by omega);by_cases hil:i<d.slots.length
 ·have hia:i<(zC1 p d l).length:=by omega
  have ht:=sty _ (List.getElem_mem hil);have hv:=zUX p (by omega) (l.drop (min (7*i) l.length)) (fun x hx=>hl x (List.mem_of_mem_drop hx)) d.slots[i].typ (zQL hf ht (by omega) 10 (by omega)) (zR4 hf ht (by omega) 5 (by omega));have hst:zZ ((zC1 p d l).take (i+1))=zZ ((zC1 p d l).take i)++[.lit (.int .i64 (zDt p d.slots[i].typ (l.drop (min (7*i) l.length))).k),.lit (.int .i64 (zDt p d.slots[i].typ (l.drop (min (7*i) l.length))).n),.sl (zDt p d.slots[i].typ (l.drop (min (7*i) l.length))).kids.length (zZ (zDt p d.slots[i].typ (l.drop (min (7*i) l.length))).kids)]:=by rw[List.take_succ_eq_append_getElem hia,zAN];simp[zC1]
  have hw7:IntKind.i64.wrap (7*(i:Int))=((7*i:Nat):Int):=by rw[IntWalk.i64_in _ (by omega)]; omega
  generalize zDt p d.slots[i].typ (l.drop (min (7*i) l.length))=v at hv hst;have hdl:(yD (l.drop (min (7*i) l.length))).take (l.length-min (7*i) l.length)=yD (l.drop (min (7*i) l.length)):=List.take_of_length_le (by simp[yD]);rw[List.length_drop]at hv;obtain⟨q,hq⟩:∃q:Nat,q=7*i:=⟨_,rfl⟩;rw[←hq]at hw7 hv hdl;by_cases hc:l.length<q
  ·have e:min q l.length=l.length:=by omega
   rw[e]at hv hdl;have hc':(l.length:Int)<(q:Int):=by omega
   simp[zQ,zP,hil,qZ hil,yZ,hw7,hc',zJ4]
   intros
   refine qI hv (by simp[zQ,zB,yD]) (by simp[zI]) ?_;simp[zI];refine⟨⟨by simp[maxLen]; omega,by omega⟩,?_⟩;exact zW (i+1) hil (by omega) (zV [0,1,2] 0 (by decide) (by simp) (by simp[zQ,zP,hst]) (by simp[hw]))
  ·have e:min q l.length=q:=by omega
   rw[e]at hv hdl;have hc':¬(l.length:Int)<(q:Int):=by omega
   have hle:q≤l.length:=by omega
   simp[zQ,zP,hil,qZ hil,yZ,hw7,hc',hle,zJ4,hdl]
   intros
   refine qI hv (by simp[zQ,zB]) (by simp[zI]) ?_;simp[zI];refine⟨⟨by simp[maxLen]; omega,by omega⟩,?_⟩;exact zW (i+1) hil (by omega) (zV [0,1,2] 0 (by decide) (by simp) (by simp[zQ,zP,hst]) (by simp[hw]))
 ·have hie:i=d.slots.length:=by omega
  subst hie;have hall:(zC1 p d l).take d.slots.length=zC1 p d l:=by rw[←hlen]; exact List.take_length
  rw[hall];simp[zQ,zP]
  intros
  exact zA 1 (by simp[hlen])
end Go.Proofs.YthglhccibdlccaaGreatDoor

/-
  A choice of levels is kept; rows that are not kept become persistent.
  Contracts of functions that work on some objects, and how a call meets them in any state.
-/
import Derived.Test.YthglhccibdlccaaGreatDoorX11
set_option linter.unusedVariables false
set_option linter.unusedSimpArgs false
namespace Go.Abs
def zUv (o k c:Nat):A→A
 | .sl _ cs=>if k=0 then .sl 0 [] else .sl k ((cs.drop o).take c)
 | _=>.any
mutual
def vw (rf:Bool→Nat→Nat→A)(g:Nat→Option Nat):A→A
 | .ptr l o=>match g l with
  | some i=>.ptr i o
  | none=>rf true l o
 | .row l n=>match g l with
  | some i=>.row i n
  | none=>rf false l n
 | .rwp l n o=>match g l with
  | some i=>.rwp i n o
  | none=>.any
 | .map l=>match g l with
  | some i=>.map i
  | none=>.any
 | .win l n o k c=>match g l with
  | some i=>.win i n o k c
  | none=>zUv o k c (rf false l n)
 | .agg cs=>.agg (vwL rf g cs)
 | .tup cs=>.tup (vwL rf g cs)
 | .sl n cs=>.sl n (vwL rf g cs)
 | .fsl n cs=>.fsl n (vwL rf g cs)
 | .rptr cs=>.rptr (vwL rf g cs)
 | .clo f a b=>.clo f (vwL rf g a) (vwL rf g b)
 | .any=>.any
 | .nil=>.nil
 | .lit v=>.lit v
def vwL (rf:Bool→Nat→Nat→A)(g:Nat→Option Nat):List A→List A
 | []=>[]
 | c::cs=>vw rf g c::vwL rf g cs
end
def seen (σ : St)(g:Nat→Option Nat):Nat→Bool→Nat→Nat→A
 | 0,_,_,_=>.any
 | k+1,false,l,n=>match σ[l]? with
  | some (.row _ _ _ m cs)=>if n=m then .sl n (vwL (seen σ g k) g cs) else .any
  | _=>.any
 | k+1,true,l,o=>match σ[l]? with
  | some (.box cs)=>.rptr ((vwL (seen σ g k) g cs).drop o)
  | _=>.any
def vwO (rf:Bool→Nat→Nat→A)(g:Nat→Option Nat):AObj→AObj
 | .dead=>.dead
 | .box cs=>.box (vwL rf g cs)
 | .row fz e sz n cs=>.row fz e sz n (vwL rf g cs)
 | .lp b r M es=>.lp b r M (es.map fun p=>(p.1,vw rf g p.2))
 | .mp fr nk es=>.mp fr nk (es.map fun p=>(p.1,vw rf g p.2))
 | .it m n met=>match g m with
  | some i=>.it i n met
  | none=>.dead
 | .rsv=>.rsv
def zGw:AObj→AObj
 | .dead=>.dead
 | .box cs=>.box (jG cs)
 | .row fz e sz n cs=>.row fz e sz n (jG cs)
 | .lp b r M es=>.lp b r M (es.map fun p=>(p.1,nrm0 p.2))
 | .mp fr nk es=>.mp fr nk (es.map fun p=>(p.1,nrm0 p.2))
 | .it m n met=>.it m n met
 | .rsv=>.rsv
def qU:List Nat→Nat→Option Nat
 | [],_=>none
 | k::ks,l=>if l=k then some 0 else (qU ks l).map (· + 1)
theorem zI5:∀{ks:List Nat} {l i:Nat},qU ks l=some i→ks[i]?=some l
 | [],l,i,h=>by simp[qU]at h
 | k::ks,l,i,h=>by
  simp only[qU]at h;split at h
  ·cases h; rename_i h; simp[h]
  ·simp only[Option.map_eq_some_iff]at h;obtain⟨j,hj,rfl⟩:=h
   simpa using zI5 hj
theorem zKA:∀{ks:List Nat} {l:Nat},qU ks l=none→l∉ks
 | [],l,_=>by simp
 | k::ks,l,h=>by
  simp only[qU]at h;split at h
  ·cases h
  ·rename_i hne;simp only[Option.map_eq_none_iff]at h;simp[hne,zKA h]
section
variable {P:Program}{H H':Mem}{L L':List LI} {σ : St}{w:World}
theorem zIy:∀{ks:List Nat} {i j x:Nat},ks.Nodup→ks[i]?=some x→ks[j]?=some x→i=j
 | [],i,j,x,_,h,_=>by simp at h
 | k::ks,i,j,x,hd,h1,h2=>by
  rw[List.nodup_cons]at hd;cases i with
  | zero =>
   cases j with
   | zero=>rfl
   | succ j =>
    simp only[List.getElem?_cons_zero,List.getElem?_cons_succ,Option.some.injEq]at h1 h2;subst h1;exact(hd.1 (List.mem_of_getElem? h2)).elim
  | succ i =>
   cases j with
   | zero =>
    simp only[List.getElem?_cons_zero,List.getElem?_cons_succ,Option.some.injEq]at h1 h2;subst h2;exact(hd.1 (List.mem_of_getElem? h1)).elim
   | succ j =>
    simp only[List.getElem?_cons_succ]at h1 h2;rw[zIy hd.2 h1 h2]
mutual
theorem Rel.vw {rf:Bool→Nat→Nat→A}{g:Nat→Option Nat}(hh:HLe H H')(hg:∀l i,g l=some i→L'[i]?=L[l]?)(hr:∀l n v,g l=none→Rel H L (.row l n) v→Rel H' L' (rf false l n) v)(hp:∀l n v,g l=none→Rel H L (.ptr l n) v→Rel H' L' (rf true l n) v) :
 ∀(a:A) {v:Value},Rel H L a v→Rel H' L' (vw rf g a) v
 | .ptr l o,v,h=>by
  simp only[Abs.vw];split
  ·rename_i i hi;simp only[Rel]at h⊢;rw[hg l i hi];exact h
  ·rename_i hi;exact hp l o v hi h
 | .row l n,v,h=>by
  simp only[Abs.vw];split
  ·rename_i i hi;simp only[Rel]at h⊢;rw[hg l i hi];exact h
  ·rename_i hi;exact hr l n v hi h
 | .rwp l n o,v,h=>by
  simp only[Abs.vw];split
  ·rename_i i hi;simp only[Rel]at h⊢;rw[hg l i hi];exact h
  ·simp[Rel]
 | .map l,v,h=>by
  simp only[Abs.vw];split
  ·rename_i i hi;simp only[Rel]at h⊢;rw[hg l i hi];exact h
  ·simp[Rel]
 | .win l n o k c,v,h=>by
  simp only[Abs.vw];split
  ·rename_i i hi;simp only[Rel]at h⊢;rw[hg l i hi];exact h
  ·rename_i hi;simp only[Rel]at h;obtain⟨h0,li,e,h1,h2,h3⟩:=h;by_cases hn:n=li.len
   ·obtain⟨g0,ad,cap,rfl,g1,g2,g3⟩:=h3 hn;have h4:=hr l n (match li.block with | none=>.slice none 0 0 | some b=>.slice (some ⟨b,0,none⟩) n li.cap) hi (by
     simp only[Rel];exact⟨by split<;>rfl,li,e,h1,h2,fun _=>rfl⟩)
    generalize rf false l n=x at h4;cases x<;>simp only[zUv]<;>try (simp only[Rel]; done)
    rename_i n' cs;split
    ·rename_i hk;subst hk;simp only[Rel];exact⟨ad,cap,rfl,Nat.zero_le _,g2,.inl (by simp)⟩
    ·rename_i hk;rcases g3 with g3 | ⟨b,g3,rfl⟩
     ·exact(hk g3).elim
     ·simp only[g3,Rel]at h4 ⊢;obtain⟨a',cap',k1,k2,k3,k4⟩:=h4;simp only[Value.slice.injEq]at k1;obtain⟨rfl,rfl,rfl⟩:=k1;refine⟨_,cap,rfl,g1,g2,?_⟩;rcases k4 with ⟨rfl,rfl⟩ | ⟨b',o',us,k5,k6,k7,k8⟩
      ·omega
      ·cases k5;refine .inr ⟨b,o,_,rfl,(k6.drop o).take c,zAM k7,?_⟩;have:=(k8.drop o).take c
       rwa [Nat.zero_add]at this
   ·have h4:=hr l n (.bool true) hi (by
     simp only[Rel];exact⟨rfl,li,e,h1,h2,fun e=>(hn e).elim⟩)
    generalize rf false l n=x at h4;cases x<;>simp only[zUv]<;>try (simp only[Rel]; done)
    simp only[Rel]at h4;obtain⟨_,_,h4,_⟩:=h4;cases h4
 | .agg cs,v,h=>by simp only[Rel,Abs.vw]at h⊢;obtain⟨vs,rfl,h1,h2⟩:=h;exact⟨vs,rfl,zX.vw hh hg hr hp cs h1,h2⟩
 | .tup cs,v,h=>by simp only[Rel,Abs.vw]at h⊢;obtain⟨vs,rfl,h1⟩:=h;exact⟨vs,rfl,zX.vw hh hg hr hp cs h1⟩
 | .sl n cs,v,h=>by
  simp only[Rel,Abs.vw]at h⊢;obtain⟨a,cap,rfl,h1,h2,h3⟩:=h;refine⟨a,cap,rfl,h1,h2,?_⟩;rcases h3 with ⟨h3,rfl⟩ | ⟨b,o,us,rfl,h4,h5,h6⟩
  ·exact .inl ⟨h3,by simp[vwL]⟩
  ·exact .inr ⟨b,o,us,rfl,zX.vw hh hg hr hp cs h4,h5,h6.mono hh⟩
 | .fsl n cs,v,h=>by
  simp only[Rel,Abs.vw]at h⊢;obtain⟨a,rfl,h1,h3⟩:=h;refine⟨a,rfl,h1,?_⟩;rcases h3 with ⟨h3,rfl⟩ | ⟨b,o,us,rfl,h4,h5,h6⟩
  ·exact .inl ⟨h3,by simp[vwL]⟩
  ·exact .inr ⟨b,o,us,rfl,zX.vw hh hg hr hp cs h4,h5,h6.mono hh⟩
 | .rptr cs,v,h=>by simp only[Rel,Abs.vw]at h⊢;obtain⟨b,o,us,rfl,h4,h5,h6⟩:=h;exact⟨b,o,us,rfl,zX.vw hh hg hr hp cs h4,h5,h6.mono hh⟩
 | .clo f first cap,v,h=>by simp only[Rel,Abs.vw]at h⊢;obtain⟨fs,cs,rfl,h1,h2⟩:=h;exact⟨fs,cs,rfl,zX.vw hh hg hr hp first h1,zX.vw hh hg hr hp cap h2⟩
 | .any,_,_=>by simp[Rel,Abs.vw]
 | .nil,_,h=>by simpa [Rel,Abs.vw] using h
 | .lit _,_,h=>by simpa [Rel,Abs.vw] using h
theorem zX.vw {rf:Bool→Nat→Nat→A}{g:Nat→Option Nat}(hh:HLe H H')(hg:∀l i,g l=some i→L'[i]?=L[l]?)(hr:∀l n v,g l=none→Rel H L (.row l n) v→Rel H' L' (rf false l n) v)(hp:∀l n v,g l=none→Rel H L (.ptr l n) v→Rel H' L' (rf true l n) v) :
 ∀(cs:List A) {vs:List Value},zX H L cs vs→zX H' L' (vwL rf g cs) vs
 | [],vs,h=>by simpa [zX,vwL] using h
 | c::cs,vs,h=>by simp only[zX,vwL]at h⊢;obtain⟨u,us,rfl,h1,h2⟩:=h;exact⟨u,us,rfl,Rel.vw hh hg hr hp c h1,zX.vw hh hg hr hp cs h2⟩
end
def AObj.held:AObj→Nat
 | .row _ _ sz n _=>n*sz
 | .box cs=>cs.length
 | _=>0
def zMO (g:Nat→Option Nat)(L:List LI) (σ : St)(b o:Nat):Prop :=
 ∃(i:Nat) (li:LI) (ob:AObj),g i=none∧L[i]?=some li∧σ[i]?=some ob∧li.block=some b∧o<ob.held
open Classical in
noncomputable def zKk (g:Nat→Option Nat) (H:Mem) (L:List LI) (σ : St) (w:World):Mem:=⟨fun b o=>match H b o with
 | some v=>some v
 | none=>if zMO g L σ b o then w.cell? ⟨b,o,none⟩ else none,fun b o v h=>by simp only[H.2 b o v h]⟩
open Classical in
theorem zED (g:Nat→Option Nat)(H:Mem)(L:List LI) (σ : St)(w:World)(b o:Nat):zKk g H L σ w b o=match H b o with
 | some v=>some v
 | none=>if zMO g L σ b o then w.cell? ⟨b,o,none⟩ else none:=rfl
theorem zEE {g:Nat→Option Nat}:HLe H (zKk g H L σ w):=fun b o v h=>by rw[zED,h]
theorem zNX {g:Nat→Option Nat}{b o:Nat}{v:Value}(h:zKk g H L σ w b o=some v):H b o=some v∨(zMO g L σ b o∧w.cell? ⟨b,o,none⟩=some v):=by
 rw[zED]at h;split at h
 ·rename_i u hu; cases h; exact .inl hu
 ·split at h
  ·rename_i hr; exact .inr ⟨hr,h⟩
  ·cases h
theorem zNY {g:Nat→Option Nat}(hs:RelSt H L σ w){b o:Nat}{v:Value}(hx:zMO g L σ b o)(hc:w.cell? ⟨b,o,none⟩=some v):zKk g H L σ w b o=some v:=by
 rw[zED];split
 ·rename_i x hx;have:=hs.pers b o x hx;rw[hc]at this;exact this.symm
 ·rw[if_pos hx];exact hc
theorem Rel.seen {g:Nat→Option Nat}(hs:RelSt H L σ w)(hg:∀l i,g l=some i→L'[i]?=L[l]?) :
 ∀(k:Nat),(∀(l n:Nat) (v:Value),g l=none→Rel H L (.row l n) v→Rel (zKk g H L σ w) L' (seen σ g k false l n) v)∧∀(l n:Nat) (v:Value),g l=none→Rel H L (.ptr l n) v→Rel (zKk g H L σ w) L' (seen σ g k true l n) v
 | 0=>⟨fun l n v _ _=>by simp[Abs.seen,Rel],fun l n v _ _=>by simp[Abs.seen,Rel]⟩
 | k+1=>by
  obtain⟨ih1,ih2⟩:=Rel.seen hs hg k;refine⟨fun l n v hl h=>?_,fun l n v hl h=>?_⟩
  ·simp only[Abs.seen];split
   ·rename_i fz e sz m cs hσ;split
    ·rename_i hn;subst hn;simp only[Rel]at h⊢;obtain⟨_,li,e1,e2,e3,hv⟩:=h;have hob:=hs.obj l li _ e1 hσ;simp only[zW]at hob;obtain⟨_,g1,g2,hob⟩:=hob;have hv:=hv g1.symm;rcases hob with ⟨hb,h0⟩ | ⟨b,cur,hb,k1,k2,k3,k4,k5,k6,k7⟩
     ·rw[hb]at hv;subst h0;have hcs:cs=[]:=List.eq_nil_of_length_eq_zero (by simpa using g2);exact⟨none,0,hv,Nat.le_refl _,Nat.zero_le _,.inl ⟨rfl,by simp[hcs,vwL]⟩⟩
     ·rw[hb]at hv;refine⟨_,_,hv,k2,k3,.inr ⟨b,0,_,rfl,zX.vw zEE hg ih1 ih2 cs k5,k6,fun j u hu=>?_⟩⟩;have hj:j<n*sz:=by
       rw[List.getElem?_take]at hu;split at hu
       ·assumption
       ·cases hu
      have hc:w.cell? ⟨b,j,none⟩=some u:=by
       rw[cell_of_row w b j cur e (0,0) k1];rw[List.getElem?_take,if_pos hj]at hu
       simpa using hu
      simp only[Nat.zero_add];exact zNY hs ⟨l,li,_,hl,e1,hσ,hb,hj⟩ hc
    ·simp[Rel]
   ·simp[Rel]
  ·simp only[Abs.seen];split
   ·rename_i cs hσ;simp only[Rel]at h⊢;obtain⟨li,b,e1,e2,e3,hv⟩:=h;have hob:=hs.obj l li _ e1 hσ;simp only[zW]at hob;obtain⟨_,b',vs,e,hb',hh,hr,h1,_⟩:=hob;rw[e2]at hb';cases hb';refine⟨b,n,vs.drop n,hv,(zX.vw zEE hg ih1 ih2 cs hr).drop n,fun u hu=>h1 u (List.mem_of_mem_drop hu),fun j u hu=>?_⟩;rw[List.getElem?_drop]at hu;have hlt:n+j<cs.length:=by rw[←hr.length];exact(List.getElem?_eq_some_iff.1 hu).1
    refine zNY hs ⟨l,li,_,hl,e1,hσ,e2,hlt⟩ ?_;rw[cell_of_row w b _ _ e (0,0) hh]
    simpa using hu
   ·simp[Rel]
def zAt (σ : St)(rf:Bool→Nat→Nat→A)(g:Nat→Option Nat):List Nat→St→Prop
 | [],[]=>True
 | j::js,o'::os=>(match σ[j]? with
  | some o=>o'=vwO rf g o∨o'=zGw (vwO rf g o)
  | none=>False)∧zAt σ rf g js os
 | _,_=>False
theorem zEt {rf:Bool→Nat→Nat→A}{g:Nat→Option Nat}:∀{ks:List Nat} {σ':St},zAt σ rf g ks σ'→σ'.length=ks.length
 | [],[],_=>rfl
 | _::_,_::_,h=>by simp[zEt h.2]
theorem zEs {rf:Bool→Nat→Nat→A}{g:Nat→Option Nat}:∀{ks:List Nat} {σ':St},zAt σ rf g ks σ'→∀{i j:Nat} {o':AObj},ks[i]?=some j→σ'[i]?=some o'→∃o,σ[j]?=some o∧(o'=vwO rf g o∨o'=zGw (vwO rf g o))
 | [],[],_,i,j,o',h,_=>by simp at h
 | k::ks,p::σ',h,i,j,o',h1,h2=>by
  cases i with
  | zero =>
   simp only[List.getElem?_cons_zero,Option.some.injEq]at h1 h2;subst h1; subst h2;have:=h.1;split at this
   ·rename_i o ho; exact⟨o,ho,this⟩
   ·exact this.elim
  | succ i =>
   simp only[List.getElem?_cons_succ]at h1 h2;exact zEs h.2 h1 h2
theorem zW.nrm {li:LI}{o:AObj}(h:zW H L w li o):zW H L w li (zGw o):=by
 cases o with
 | dead=>trivial
 | box cs =>
  simp only[zW,zGw]at h⊢;obtain⟨h0,b,vs,e,h1,h2,h3,h4,h5⟩:=h;exact⟨h0,b,vs,e,h1,h2,zX.nrm0 _ h3,h4,h5⟩
 | row fz e sz n cs =>
  simp only[zW,zGw]at h⊢;obtain⟨h0,h1,h2,h3⟩:=h;have hl:∀cs:List A,(jG cs).length=cs.length:=fun cs=>by induction cs with
   | nil=>rfl
   | cons c cs ih=>simp[jG,ih]
  refine⟨h0,h1,by rw[hl]; exact h2,?_⟩;rcases h3 with h3 | ⟨b,cur,g1,g2,g3,g4,g5,g6,g7,g8⟩
  ·exact .inl h3
  ·exact .inr ⟨b,cur,g1,g2,g3,g4,g5,zX.nrm0 _ g6,g7,g8⟩
 | lp b r M es =>
  simp only[zW,zGw]at h⊢;obtain⟨h0,h1,tmps,h2,h3,h4⟩:=h;exact⟨h0,h1,tmps,h2,h3,h4.map _ fun a v ha=>Rel.nrm0 a ha⟩
 | mp fr nk es =>
  simp only[zW,zGw]at h⊢;obtain⟨h0,b,ents,ck,h1,h2,h3,h4⟩:=h;exact⟨h0,b,ents,ck,h1,h2,zAg.map _ (fun p _ v hv=>Rel.nrm0 _ hv) h3,h4.1,zKp h4.2⟩
 | it m n met=>exact h
 | rsv=>exact h
theorem zGX {rf:Bool→Nat→Nat→A}{g:Nat→Option Nat}:∀{cs:List A},(vwL rf g cs).length=cs.length
 | []=>rfl
 | c::cs=>by simp[vwL,zGX]
theorem zMY {H0:Mem}{L0:List LI}{w0:World}(ks:List Nat)(fuel:Nat) {σ':St}(hk:∀i,i<L0.length→ks[i]?=some i)(hd:ks.Nodup)
 (ho:zAt σ (Abs.seen σ (qU ks) fuel) (qU ks) ks σ')(h:Nxt H0 L0 w0 H L σ w) :
 ∃H' L',Nxt H0 L0 w0 H' L' σ' w∧HLe H H'∧∀a v,Rel H L a v→Rel H' L' (Abs.vw (Abs.seen σ (qU ks) fuel) (qU ks) a) v:=by
 have hs:=h.st;let g:=qU ks;let L':List LI:=ks.map fun k=>L.getD k ⟨none,0,0,false⟩
 have hin:∀(i j:Nat),ks[i]?=some j→∃li,L[j]?=some li∧L'[i]?=some li:=by
  intro i j hij;have hi:i < σ'.length:=by rw[zEt ho]; exact(List.getElem?_eq_some_iff.1 hij).1
  obtain⟨o,hσ,_⟩:=zEs ho hij (List.getElem?_eq_getElem hi);have hj:j<L.length:=by rw[hs.len]; exact(List.getElem?_eq_some_iff.1 hσ).1
  refine⟨L[j],List.getElem?_eq_getElem hj,?_⟩;simp[L',hij,hj]
 have hback:∀{i:Nat} {li:LI},L'[i]?=some li→∃j,ks[i]?=some j∧L[j]?=some li:=by
  intro i li hi;have hi':i<ks.length:=by simpa [L'] using (List.getElem?_eq_some_iff.1 hi).1
  obtain⟨li',h1,h2⟩:=hin i ks[i] (List.getElem?_eq_getElem hi');rw[hi]at h2;cases h2;exact⟨_,List.getElem?_eq_getElem hi',h1⟩
 have hg:∀l i,g l=some i→L'[i]?=L[l]?:=by intro l i hl;obtain⟨li,h1,h2⟩:=hin i l (zI5 hl);rw[h1,h2]
 have hrel:∀a v,Rel H L a v→Rel (zKk g H L σ w) L' (Abs.vw (Abs.seen σ g fuel) g a) v:=fun a v ha=>Rel.vw zEE hg (Rel.seen hs hg fuel).1 (Rel.seen hs hg fuel).2 a ha
 have hrelL:∀cs vs,zX H L cs vs→zX (zKk g H L σ w) L' (vwL (Abs.seen σ g fuel) g cs) vs:=fun a v ha=>zX.vw zEE hg (Rel.seen hs hg fuel).1 (Rel.seen hs hg fuel).2 a ha
 have hkeep:∀(j:Nat) (li:LI) (b:Nat),j∈ks→L[j]?=some li→li.block=some b→∀o,zKk g H L σ w b o=H b o:=by
  intro j li b hj hL hb o;rw[zED];cases hH:H b o with
  | some v=>rfl
  | none =>
   simp only;rw[if_neg];rintro⟨i,li',ob,g1,g2,g3,g4,g5⟩;have:=hs.inj i j li' li b g2 hL g4 hb;subst this;exact zKA g1 hj
 refine⟨zKk g H L σ w,L',⟨⟨fun b o v hv=>(zNX hv).elim (hs.pers b o v) fun h=>h.2,by simp[L',zEt ho],fun i li o hL hσ=>?_,fun i j x y b hi hj hx hy=>?_,fun i li b hi hb=>?_⟩,
  ⟨h.step.os,h.step.tape,h.step.output,h.step.size,h.step.keep,h.step.hle.trans zEE,fun b o v hv=>?_,h.step.drawn,h.step.dfr⟩,fun i x hx=>?_,fun b ⟨i,x,hi,hx⟩=>?_⟩,zEE,hrel⟩
 ·obtain⟨j,hj,hLj⟩:=hback hL;obtain⟨o0,hσ0,heq⟩:=zEs ho hj hσ;have hob:=hs.obj j li o0 hLj hσ0;have hjm:j∈ks:=List.mem_of_getElem? hj;have key:zW (zKk g H L σ w) L' w li (vwO (Abs.seen σ g fuel) g o0):=by
   cases o0 with
   | dead=>trivial
   | box cs =>
    simp only[zW,vwO]at hob ⊢;obtain⟨h0,b,vs,e,h1,h2,h3,h4,h5⟩:=hob;exact⟨h0,b,vs,e,h1,h2,hrelL _ _ h3,h4,fun o=>by rw[hkeep j li b hjm hLj h1]; exact h5 o⟩
   | row fz e sz n cs =>
    simp only[zW,vwO]at hob ⊢;obtain⟨h0,h1,h2,h3⟩:=hob;refine⟨h0,h1,by rw[zGX]; exact h2,?_⟩;rcases h3 with h3 | ⟨b,cur,g1,g2,g3,g4,g5,g6,g7,g8⟩
    ·exact .inl h3
    ·refine .inr ⟨b,cur,g1,g2,g3,g4,g5,hrelL _ _ g6,g7,?_⟩;cases fz with
     | false=>exact fun o=>by rw[hkeep j li b hjm hLj g1]; exact g8 o
     | true=>exact⟨g8.1.mono zEE,fun o ho=>by rw[hkeep j li b hjm hLj g1]; exact g8.2 o ho⟩
   | lp b r M es =>
    simp only[zW,vwO]at hob ⊢;obtain⟨h0,h1,tmps,h2,h3,h4⟩:=hob;exact⟨h0,h1,tmps,h2,h3,h4.map _ hrel⟩
   | mp fr nk es =>
    simp only[zW,vwO]at hob ⊢;obtain⟨h0,b,ents,ck,h1,h2,h3,h4⟩:=hob;exact⟨h0,b,ents,ck,h1,h2,zAg.map _ (fun p _ v hv=>hrel _ _ hv) h3,h4.1,zKp h4.2⟩
   | it m n met =>
    simp only[vwO];split
    ·rename_i i0 hi0;simp only[zW]at hob ⊢;obtain⟨h0,b,mb,lm,h1,h2,h3,h4,h5⟩:=hob;have hp:Rel H L (.ptr m 0) (.pointer (some ⟨mb,0,none⟩)):=by simp only[Rel]; exact⟨lm,mb,h2,h3,h4,rfl⟩
     have hp:=hrel _ _ hp;simp only[Abs.vw,hi0,Rel]at hp;obtain⟨lm',mb',k2,k3,k4,k5⟩:=hp;cases k5;exact⟨h0,b,mb,lm',h1,k2,k3,k4,h5⟩
    ·trivial
   | rsv=>exact hob
  rcases heq with rfl | rfl
  ·exact key
  ·exact key.nrm
 ·obtain⟨i',hi',hLi⟩:=hback hi;obtain⟨j',hj',hLj⟩:=hback hj;have:=hs.inj i' j' x y b hLi hLj hx hy;subst this;have hi1:=(List.getElem?_eq_some_iff.1 hi').1;have hj1:=(List.getElem?_eq_some_iff.1 hj').1;exact zIy hd hi' hj'
 ·obtain⟨j,_,hLj⟩:=hback hi;exact hs.lt j li b hLj hb
 ·rcases zNX hv with h1 | ⟨⟨i,li,_,_,hL,_,hb,_⟩,_⟩
  ·exact h.step.hnew b o v h1
  ·exact .inr (h.own b ⟨i,li,hL,hb⟩)
 ·obtain⟨x',hx',hr⟩:=h.lle i x hx;have hi:i<L0.length:=(List.getElem?_eq_some_iff.1 hx).1;obtain⟨li,h1,h2⟩:=hin i i (hk i hi);rw[hx']at h1;cases h1;exact⟨_,h2,hr⟩
 ·obtain⟨j,_,hLj⟩:=hback hi;exact h.own b ⟨j,x,hLj,hx⟩
theorem zBz.sel {n0:Nat}{env:Env}(ks:List Nat)(fuel:Nat)(l:List (Nat×A)) {σ':St}(hk:∀i,i<n0→ks[i]?=some i)(hd:ks.Nodup)(ho:zAt σ (Abs.seen σ (qU ks) fuel) (qU ks) ks σ')
 (hl:∀p∈l,p.2=Abs.vw (Abs.seen σ (qU ks) fuel) (qU ks) (env p.1)∨p.2=nrm0 (Abs.vw (Abs.seen σ (qU ks) fuel) (qU ks) (env p.1))):zBz n0 (qT l) σ' env σ:=by
 intro H0 L0 w0 H L w N tmps h0 h1 h2;subst h0;obtain⟨H',L',g1,_,g3⟩:=zMY ks fuel hk hd ho h1;refine⟨H',L',g1,h2.1,fun t=>?_⟩;rcases zEk l t with h | h
 ·rw[h]; simp[Rel]
 ·have:=g3 _ _ (h2.2 t);rcases hl _ h with e | e
  ·simp only at e; rw[e]; exact this
  ·simp only at e; rw[e]; exact Rel.nrm0 _ this
end
end Go.Abs
namespace Go.Abs
def Ret (P:Program)(f:FuncId)(args:List A) (σ0:St)(r:A) (σ1:St):Prop:=yN P f args σ0 fun o σ'=>o=.ret r∧σ' = σ1
def jQ:Bool→Nat→Nat→A:=fun _ _ _=>.any
def jO {α : Type}:List α→List Nat→List α→List α
 | s,[],t=>s++t
 | s,j::js,o::os=>jO (s.set j o) js os
 | s,_::_,[]=>s
theorem zCH {α : Type}:∀{js:List Nat} {s t:List α},js.length≤t.length→(jO s js t).length=s.length+(t.length-js.length)
 | [],s,t,_=>by simp[jO]
 | j::js,s,[],h=>by simp at h
 | j::js,s,o::os,h=>by simp only[jO,List.length_cons]at h⊢;rw[zCH (by omega)];simp
theorem zEP {α : Type}:∀{js:List Nat} {s t:List α} {x:Nat},js.length≤t.length→x<s.length→x∉js→(jO s js t)[x]?=s[x]?
 | [],s,t,x,_,hx,_=>by simp[jO,List.getElem?_append_left hx]
 | j::js,s,[],x,h,_,_=>by simp at h
 | j::js,s,o::os,x,h,hx,hn=>by simp only[jO,List.length_cons,List.mem_cons,not_or]at h hn ⊢;rw[zEP (by omega) (by simpa using hx) hn.2,List.getElem?_set_ne (Ne.symm hn.1)]
theorem zDt {α : Type}:∀{js:List Nat} {s t:List α} {i x:Nat},js.length≤t.length→js.Nodup→(∀y∈js,y<s.length)→js[i]?=some x→(jO s js t)[x]?=t[i]?
 | [],s,t,i,x,_,_,_,h=>by simp at h
 | j::js,s,[],i,x,h,_,_,_=>by simp at h
 | j::js,s,o::os,i,x,h,hd,hb,hi=>by
  rw[List.nodup_cons]at hd;simp only[jO,List.length_cons]at h⊢;cases i with
  | zero =>
   simp only[List.getElem?_cons_zero,Option.some.injEq]at hi;subst hi;have hj:=hb j (List.mem_cons_self ..);rw[zEP (by omega) (by simpa using hj) hd.1,List.getElem?_set_self hj];rfl
  | succ i =>
   simp only[List.getElem?_cons_succ]at hi ⊢;exact zDt (by omega) hd.2 (fun y hy=>by simpa using hb y (List.mem_cons_of_mem _ hy)) hi
theorem zGN {α : Type}:∀{js:List Nat} {s t:List α} {k:Nat},js.length≤t.length→(jO s js t)[s.length+k]?=t[js.length+k]?
 | [],s,t,k,_=>by simp only[jO,List.length_nil,Nat.zero_add];rw[List.getElem?_append_right (by omega),Nat.add_sub_cancel_left]
 | j::js,s,[],k,h=>by simp at h
 | j::js,s,o::os,k,h=>by
  simp only[jO,List.length_cons]at h⊢;have:=zGN (js:=js) (s:=s.set j o) (t:=os) (k:=k) (by omega);rw[List.length_set]at this;rw[this];have e:js.length+1+k=js.length+k+1:=by omega
  rw[e,List.getElem?_cons_succ]
def zDx (js:List Nat)(n l:Nat):Nat:=match js,l with
 | [],l=>n+l
 | j::_,0=>j
 | _::js,l+1=>zDx js n l
theorem zJ1:∀{js:List Nat} {n i x:Nat},js[i]?=some x→zDx js n i=x
 | [],n,i,x,h=>by simp at h
 | j::js,n,0,x,h=>by simpa [zDx] using h
 | j::js,n,i+1,x,h=>by simp only[zDx]; exact zJ1 (by simpa using h)
theorem zHg:∀{js:List Nat} {n k:Nat},zDx js n (js.length+k)=n+k
 | [],n,k=>by simp[zDx]
 | j::js,n,k=>by
  have e:(j::js).length+k=js.length+k+1:=by simp; omega
  rw[e];simp only[zDx];exact zHg
def ren (js:List Nat)(n:Nat)(a:A):A:=vw jQ (fun l=>some (zDx js n l)) a
def qCu (js:List Nat)(n:Nat)(cs:List A):List A:=vwL jQ (fun l=>some (zDx js n l)) cs
def zB0 (js:List Nat)(n:Nat)(o:AObj):AObj:=vwO jQ (fun l=>some (zDx js n l)) o
def zBo (js:List Nat):List A→List A→Prop
 | [],[]=>True
 | a'::aS',a::aS=>(a=vw jQ (qU js) a'∨a=nrm0 (vw jQ (qU js) a'))∧zBo js aS' aS
 | _,_=>False
section
variable {P:Program}{H H':Mem}{L L':List LI} {σ : St}{w:World}
theorem zW.vw {H':Mem}{L':List LI}{w':World}{rf:Bool→Nat→Nat→A}{g:Nat→Option Nat}{li:LI}{o:AObj}(h:zW H L w li o)(hrel:∀cs vs,zX H L cs vs→zX H' L' (vwL rf g cs) vs)
 (hw:∀b,li.block=some b→w'.heap[b]?=w.heap[b]?)(hh:HLe H H')(hb:∀b,li.block=some b→∀o,H' b o=H b o):zW H' L' w' li (vwO rf g o):=by
 cases o with
 | dead=>trivial
 | box cs =>
  simp only[zW,vwO]at h⊢;obtain⟨h0,b,vs,e,h1,h2,h3,h4,h5⟩:=h;exact⟨h0,b,vs,e,h1,by rw[hw b h1]; exact h2,hrel _ _ h3,h4,fun o=>by rw[hb b h1]; exact h5 o⟩
 | row fz e sz n cs =>
  simp only[zW,vwO]at h⊢;obtain⟨h0,h1,h2,h3⟩:=h;refine⟨h0,h1,by rw[zGX]; exact h2,?_⟩;rcases h3 with h3 | ⟨b,cur,g1,g2,g3,g4,g5,g6,g7,g8⟩
  ·exact .inl h3
  ·refine .inr ⟨b,cur,g1,by rw[hw b g1]; exact g2,g3,g4,g5,hrel _ _ g6,g7,?_⟩;cases fz with
   | false=>exact fun o=>by rw[hb b g1]; exact g8 o
   | true=>exact⟨g8.1.mono hh,fun o ho=>by rw[hb b g1]; exact g8.2 o ho⟩
 | lp b r M es =>
  simp only[zW,vwO]at h⊢;obtain⟨h0,h1,tmps,h2,h3,h4⟩:=h;exact⟨h0,h1,tmps,by rw[hw b h1]; exact h2,h3,h4.map _ fun a v ha=>by have:=hrel [a] [v] (qS ha jP);simp only[vwL]at this;obtain⟨u,us,k1,k2,_⟩:=qA this;cases k1;exact k2⟩
 | mp fr nk es =>
  simp only[zW,vwO]at h⊢;obtain⟨h0,b,ents,ck,h1,h2,h3,h4⟩:=h;refine⟨h0,b,ents,ck,h1,by rw[hw b h1]; exact h2,zAg.map _ (fun p _ v ha=>?_) h3,h4.1,zKp h4.2⟩;have:=hrel [p.2] [v] (qS ha jP);simp only[vwL]at this;obtain⟨u,us,k1,k2,_⟩:=qA this;cases k1;exact k2
 | it m n met =>
  simp only[vwO];split
  ·rename_i i0 hi0;simp only[zW]at h⊢;obtain⟨h0,b,mb,lm,h1,h2,h3,h4,h5⟩:=h;have hp:Rel H L (.ptr m 0) (.pointer (some ⟨mb,0,none⟩)):=by simp only[Rel]; exact⟨lm,mb,h2,h3,h4,rfl⟩
   have:=hrel [_] [_] (qS hp jP);simp only[vwL,Abs.vw,hi0]at this;obtain⟨u,us,k1,k2,_⟩:=qA this;cases k1;simp only[Rel]at k2;obtain⟨lm',mb',g2,g3,g4,g5⟩:=k2;cases g5;exact⟨h0,b,mb,lm',h1,g2,g3,g4,by rw[hw b h1]; exact h5⟩
  ·trivial
 | rsv=>exact h
theorem zYn {js:List Nat} {σ0:St}(hs:RelSt H L σ w)(hd:js.Nodup)(ho:zAt σ jQ (qU js) js σ0) :
 ∃L0:List LI,L0.length=js.length∧(∀i j:Nat,js[i]?=some j→∃li,L[j]?=some li∧L0[i]?=some li)∧RelSt H L0 σ0 w∧∀a v,Rel H L a v→Rel H L0 (Abs.vw jQ (qU js) a) v:=by
 let L0:List LI:=js.map fun k=>L.getD k ⟨none,0,0,false⟩
 have hin:∀(i j:Nat),js[i]?=some j→∃li,L[j]?=some li∧L0[i]?=some li:=by
  intro i j hij;have hi:i < σ0.length:=by rw[zEt ho]; exact(List.getElem?_eq_some_iff.1 hij).1
  obtain⟨o,hσ,_⟩:=zEs ho hij (List.getElem?_eq_getElem hi);have hj:j<L.length:=by rw[hs.len]; exact(List.getElem?_eq_some_iff.1 hσ).1
  refine⟨L[j],List.getElem?_eq_getElem hj,?_⟩;simp[L0,hij,hj]
 have hback:∀{i:Nat} {li:LI},L0[i]?=some li→∃j,js[i]?=some j∧L[j]?=some li:=by
  intro i li hi;have hi':i<js.length:=by simpa [L0] using (List.getElem?_eq_some_iff.1 hi).1
  obtain⟨li',h1,h2⟩:=hin i js[i] (List.getElem?_eq_getElem hi');rw[hi]at h2;cases h2;exact⟨_,List.getElem?_eq_getElem hi',h1⟩
 have hg:∀l i,qU js l=some i→L0[i]?=L[l]?:=by intro l i hl;obtain⟨li,h1,h2⟩:=hin i l (zI5 hl);rw[h1,h2]
 have hr0:∀(l n:Nat) (v:Value),qU js l=none→Rel H L (.row l n) v→Rel H L0 (jQ false l n) v:=fun _ _ _ _ _=>by simp[jQ,Rel]
 have hp0:∀(l n:Nat) (v:Value),qU js l=none→Rel H L (.ptr l n) v→Rel H L0 (jQ true l n) v:=fun _ _ _ _ _=>by simp[jQ,Rel]
 refine⟨L0,by simp[L0],hin,⟨hs.pers,by simp[L0,zEt ho],fun i li o hL hσ=>?_,fun i j x y b hi hj hx hy=>?_,fun i li b hi hb=>?_⟩,fun a v ha=>Rel.vw (HLe.refl _) hg hr0 hp0 a ha⟩
 ·obtain⟨j,hj,hLj⟩:=hback hL;obtain⟨o0,hσ0,heq⟩:=zEs ho hj hσ;have key:=(hs.obj j li o0 hLj hσ0).vw (H':=H) (L':=L0) (w':=w) (rf:=jQ) (g:=qU js) (fun cs vs h=>zX.vw (HLe.refl _) hg hr0 hp0 cs h) (fun _ _=>rfl) (HLe.refl _) (fun _ _ _=>rfl);rcases heq with rfl | rfl
  ·exact key
  ·exact key.nrm
 ·obtain⟨i',hi',hLi⟩:=hback hi;obtain⟨j',hj',hLj⟩:=hback hj;have:=hs.inj i' j' x y b hLi hLj hx hy;subst this;exact zIy hd hi' hj'
 ·obtain⟨j,_,hLj⟩:=hback hi;exact hs.lt j li b hLj hb
def zQ7 (C:List Value→World→(Ending→World→Prop)→Prop)(args:List A) (σ : St)(Q:Out→St→Prop):Prop :=
 ∀(H:Mem) (L:List LI) (w:World) (vs:List Value),RelSt H L σ w→zX H L args vs→C vs w fun e w'=>∃o σ' H' L',zG7 H' L' o e∧Nxt H L w H' L' σ' w'∧Q o σ'
def zQh (js:List Nat)(n:Nat):Out→Out
 | .ret r=>.ret (ren js n r)
 | .pan v=>.pan v
theorem zHV {C:List Value→World→(Ending→World→Prop)→Prop}(hmono:∀vs w R R',C vs w R→(∀e w',R e w'→R' e w')→C vs w R'){args args':List A} {σ0:St}{Q0:Out→St→Prop}(h:zQ7 C args σ0 Q0)(js:List Nat)(hd:js.Nodup)(ho:zAt σ jQ (qU js) js σ0)(ha:zBo js args' args){Q:Out→St→Prop}
 (hq:∀o σ1,Q0 o σ1→Q (zQh js σ.length o) (jO σ js (σ1.map (zB0 js σ.length)))):zQ7 C args' σ Q:=by
 intro H L w vs hs hvs;obtain⟨L0,hL0,hin,hs0,hrel0⟩:=zYn hs hd ho;have hvs0:zX H L0 args vs:=by
  clear hq h;induction args' generalizing args vs with
  | nil=>cases args with
   | nil=>rw[jI hvs]; exact jP
   | cons _ _=>exact ha.elim
  | cons a' aS' ih=>cases args with
   | nil=>exact ha.elim
   | cons a aS =>
    obtain⟨u,us,rfl,h1,h2⟩:=qA hvs;refine qS ?_ (ih (vs:=us) ha.2 h2);rcases ha.1 with e | e
    ·rw[e]; exact hrel0 _ _ h1
    ·rw[e]; exact Rel.nrm0 _ (hrel0 _ _ h1)
 refine hmono _ _ _ _ (h H L0 w vs hs0 hvs0) fun e w' hh=>?_
 obtain⟨o,σ',H1,L1,g1,g2,hq0⟩:=hh;have hq:=hq o σ' hq0;have hjs:js.length≤L1.length:=by
  rcases Nat.lt_or_ge L1.length js.length with hlt | hge
  ·have hlt0:L1.length<L0.length:=by omega
   obtain⟨l',hl',_⟩:=g2.lle L1.length L0[L1.length] (List.getElem?_eq_getElem hlt0);exact absurd (List.getElem?_eq_some_iff.1 hl').1 (Nat.lt_irrefl _)
  ·exact hge
 have hjs1:js.length≤(σ'.map (zB0 js σ.length)).length:=by rw[List.length_map,←g2.st.len]; exact hjs
 have hjb:∀y∈js,y<L.length:=by intro y hy;obtain⟨i,hi⟩:=List.getElem?_of_mem hy;obtain⟨li,h1,_⟩:=hin i y hi;exact(List.getElem?_eq_some_iff.1 h1).1
 have hjb':∀y∈js,y < σ.length:=fun y hy=>by rw[←hs.len]; exact hjb y hy
 let L':=jO L js L1;have hlen':L'.length=(jO σ js (σ'.map (zB0 js σ.length))).length:=by rw[zCH hjs,zCH hjs1,List.length_map,hs.len,g2.st.len]
 have hgf:∀l,L'[zDx js σ.length l]?=L1[l]?:=by
  intro l;rcases Nat.lt_or_ge l js.length with hl | hl
  ·have:=List.getElem?_eq_getElem hl;rw[zJ1 this];exact zDt hjs hd hjb this
  ·obtain⟨k,rfl⟩:=Nat.le.dest hl;rw[zHg,←hs.len];exact zGN hjs
 have hgs:∀l,(jO σ js (σ'.map (zB0 js σ.length)))[zDx js σ.length l]?=(σ'[l]?).map (zB0 js σ.length):=by
  intro l;rw[←List.getElem?_map];rcases Nat.lt_or_ge l js.length with hl | hl
  ·have:=List.getElem?_eq_getElem hl;rw[zJ1 this];exact zDt hjs1 hd hjb' this
  ·obtain⟨k,rfl⟩:=Nat.le.dest hl;rw[zHg];exact zGN hjs1
 have hg:∀l i,(fun l=>some (zDx js σ.length l)) l=some i→L'[i]?=L1[l]?:=by intro l i hl;simp only[Option.some.injEq]at hl;subst hl;exact hgf l
 have hr0:∀(l n:Nat) (v:Value),(fun l=>some (zDx js σ.length l)) l=none→Rel H1 L1 (.row l n) v→Rel H1 L' (jQ false l n) v:=fun _ _ _ _ _=>by simp[jQ,Rel]
 have hp0:∀(l n:Nat) (v:Value),(fun l=>some (zDx js σ.length l)) l=none→Rel H1 L1 (.ptr l n) v→Rel H1 L' (jQ true l n) v:=fun _ _ _ _ _=>by simp[jQ,Rel]
 have hcase:∀x,x<L'.length→(∃l,l<L1.length∧zDx js σ.length l=x)∨(x<L.length∧x∉js):=by
  intro x hx;by_cases hm:x∈js
  ·obtain⟨i,hi⟩:=List.getElem?_of_mem hm;exact .inl ⟨i,by have:=(List.getElem?_eq_some_iff.1 hi).1; omega,zJ1 hi⟩
  ·rcases Nat.lt_or_ge x L.length with h | h
   ·exact .inr ⟨h,hm⟩
   ·obtain⟨k,rfl⟩:=Nat.le.dest h;refine .inl ⟨js.length+k,?_,by rw[zHg,hs.len]⟩;rw[zCH hjs]at hx;omega
 have hold:∀x,x<L.length→x∉js→L'[x]?=L[x]?:=fun x hx hm=>zEP hjs hx hm
 have holds:∀x,x<L.length→x∉js→(jO σ js (σ'.map (zB0 js σ.length)))[x]? = σ[x]?:=fun x hx hm=>zEP hjs1 (by rw[←hs.len]; exact hx) hm
 have hown0:∀b,zO4 L0 b→∃(j:Nat) (li:LI),j∈js∧L[j]?=some li∧li.block=some b:=by
  rintro b ⟨i,li,h1,h2⟩;have hi:i<js.length:=by rw[←hL0]; exact(List.getElem?_eq_some_iff.1 h1).1
  obtain⟨li',h3,h4⟩:=hin i js[i] (List.getElem?_eq_getElem hi);rw[h1]at h4;cases h4;exact⟨_,li,List.getElem_mem hi,h3,h2⟩
 have hnot:∀x li b,x∉js→L[x]?=some li→li.block=some b→¬zO4 L0 b:=by intro x li b hx h1 h2 ho;obtain⟨j,li',hj,h3,h4⟩:=hown0 b ho;have:=hs.inj x j li li' b h1 h3 h2 h4;subst this;exact hx hj
 have hlle:LLe L L':=by
  intro x li hx;have hxl:x<L.length:=(List.getElem?_eq_some_iff.1 hx).1;by_cases hm:x∈js
  ·obtain⟨i,hi⟩:=List.getElem?_of_mem hm;obtain⟨li',h1,h2⟩:=hin i x hi;rw[hx]at h1;cases h1;obtain⟨l',h3,h4⟩:=g2.lle i li h2;exact⟨l',by rw[zDt hjs hd hjb hi]; exact h3,h4⟩
  ·exact⟨li,by rw[hold x hxl hm]; exact hx,.inl rfl⟩
 have hout:zG7 H1 L' (zQh js σ.length o) e:=by
  cases o with
  | ret r =>
   obtain⟨v,rfl,hv⟩:=g1;exact⟨v,rfl,Rel.vw (HLe.refl _) hg hr0 hp0 r hv⟩
  | pan v=>exact g1
 refine⟨zQh js σ.length o,jO σ js (σ'.map (zB0 js σ.length)),H1,L',hout,⟨⟨g2.st.pers,hlen',fun x li o hL hσ=>?_,fun x y lx ly b hx hy hbx hby=>?_,fun x li b hx hb=>?_⟩,
  ⟨g2.step.os,g2.step.tape,g2.step.output,g2.step.size,fun k hk hn=>g2.step.keep k hk fun ho=>hn (by obtain⟨j,li,_,h1,h2⟩:=hown0 k ho; exact⟨j,li,h1,h2⟩),g2.step.hle,fun b o v hv=>?_,g2.step.drawn,g2.step.dfr⟩,hlle,fun b ⟨x,li,hx,hb⟩=>?_⟩,hq⟩
 ·rcases hcase x (List.getElem?_eq_some_iff.1 hL).1 with ⟨l,hl,rfl⟩ | ⟨h1,h2⟩
  ·rw[hgf]at hL;rw[hgs,Option.map_eq_some_iff]at hσ;obtain⟨o1,ho1,rfl⟩:=hσ;exact(g2.st.obj l li o1 hL ho1).vw (fun cs vs h=>zX.vw (HLe.refl _) hg hr0 hp0 cs h) (fun _ _=>rfl) (HLe.refl _) (fun _ _ _=>rfl)
  ·rw[hold x h1 h2]at hL;rw[holds x h1 h2]at hσ;refine(hs.obj x li o hL hσ).carry (fun b hb=>g2.step.keep b (hs.lt x li b hL hb) (hnot x li b h2 hL hb)) g2.step.hle hlle (fun b hb o'=>?_);cases hH:H b o' with
   | some u=>exact g2.step.hle _ _ _ hH
   | none =>
    cases hH1:H1 b o' with
    | none=>rfl
    | some u =>
     rcases g2.step.hnew b o' u hH1 with k1 | k1 | k1
     ·rw[hH]at k1; cases k1
     ·exact(hnot x li b h2 hL hb k1).elim
     ·have:=hs.lt x li b hL hb; omega
 ·have cross:∀(l y:Nat) (lx ly:LI),L1[l]?=some lx→lx.block=some b→y∉js→L[y]?=some ly→ly.block=some b→False:=by
   intro l y lx ly k1 k2 k3 k4 k5;rcases g2.own b ⟨l,lx,k1,k2⟩with k | k
   ·exact hnot y ly b k3 k4 k5 k
   ·have:=hs.lt y ly b k4 k5; omega
  rcases hcase x (List.getElem?_eq_some_iff.1 hx).1 with ⟨l,hl,rfl⟩ | ⟨h1,h2⟩
  ·rw[hgf]at hx;rcases hcase y (List.getElem?_eq_some_iff.1 hy).1 with ⟨m,hm,rfl⟩ | ⟨h3,h4⟩
   ·rw[hgf]at hy;rw[g2.st.inj l m lx ly b hx hy hbx hby]
   ·rw[hold y h3 h4]at hy;exact(cross l y lx ly hx hbx h4 hy hby).elim
  ·rw[hold x h1 h2]at hx;rcases hcase y (List.getElem?_eq_some_iff.1 hy).1 with ⟨m,hm,rfl⟩ | ⟨h3,h4⟩
   ·rw[hgf]at hy;exact(cross m x ly lx hy hby h2 hx hbx).elim
   ·rw[hold y h3 h4]at hy;exact hs.inj x y lx ly b hx hy hbx hby
 ·rcases hcase x (List.getElem?_eq_some_iff.1 hx).1 with ⟨l,hl,rfl⟩ | ⟨h1,h2⟩
  ·rw[hgf]at hx;exact g2.st.lt l li b hx hb
  ·rw[hold x h1 h2]at hx;exact Nat.lt_of_lt_of_le (hs.lt x li b hx hb) g2.step.size
 ·rcases g2.step.hnew b o v hv with k | k | k
  ·exact .inl k
  ·obtain⟨j,li,_,h1,h2⟩:=hown0 b k;exact .inr (.inl ⟨j,li,h1,h2⟩)
  ·exact .inr (.inr k)
 ·rcases hcase x (List.getElem?_eq_some_iff.1 hx).1 with ⟨l,hl,rfl⟩ | ⟨h1,h2⟩
  ·rw[hgf]at hx;rcases g2.own b ⟨l,li,hx,hb⟩with k | k
   ·obtain⟨j,li',_,h1,h2⟩:=hown0 b k;exact .inl ⟨j,li',h1,h2⟩
   ·exact .inr k
  ·rw[hold x h1 h2]at hx;exact .inl ⟨x,li,hx,hb⟩
theorem zLA {C:List Value→World→(Ending→World→Prop)→Prop}(hmono:∀vs w R R',C vs w R→(∀e w',R e w'→R' e w')→C vs w R'){args args':List A} {σ0:St}{Q0:Out→St→Prop}(h:zQ7 C args σ0 Q0)(js:List Nat)(hd:js.Nodup)(ho:zAt σ jQ (qU js) js σ0)(ha:zBo js args' args){Q:Out→St→Prop}
 (hnp:∀v σ1,¬Q0 (.pan v) σ1)(hq:∀r σ1,Q0 (.ret r) σ1→Q (.ret (ren js σ.length r)) (jO σ js (σ1.map (zB0 js σ.length)))):zQ7 C args' σ Q :=
 zHV hmono h js hd ho ha fun o σ1 h0=>by
  cases o with
  | ret r=>exact hq r σ1 h0
  | pan v=>exact(hnp v σ1 h0).elim
theorem zEy (P:Program)(f:FuncId):∀(vs:List Value) (w:World) (R R':Ending→World→Prop),Calls P f vs.toArray w R→(∀e w',R e w'→R' e w')→Calls P f vs.toArray w R':=fun _ _ _ _ h k=>h.mono k
theorem zAw {f:FuncId}{args args':List A} {σ0 σ1:St}{r:A}(h:Ret P f args σ0 r σ1)(js:List Nat)(hd:js.Nodup)(ho:zAt σ jQ (qU js) js σ0)(ha:zBo js args' args){Q:Out→St→Prop}
 (hq:Q (.ret (ren js σ.length r)) (jO σ js (σ1.map (zB0 js σ.length)))):yN P f args' σ Q :=
 zLA (C:=fun vs w R=>Calls P f vs.toArray w R) (zEy P f) (Q0:=fun o σ'=>o=.ret r∧σ' = σ1) h js hd ho ha (fun v σ1 h=>by cases h.1) (fun r' σ' h=>by obtain⟨h1,rfl⟩:=h; cases h1; exact hq)
theorem zES {f:FuncId}{args:List A} {σ0 σ1:St}{r:A}
 (h:yN P f args σ0 fun o σ'=>∃(r':A)(ks:List Nat)(fuel:Nat),o=.ret r'∧(∀i,i < σ0.length→ks[i]?=some i)∧ks.Nodup∧zAt σ' (seen σ' (qU ks) fuel) (qU ks) ks σ1 ∧
  (r=vw (seen σ' (qU ks) fuel) (qU ks) r'∨r=nrm0 (vw (seen σ' (qU ks) fuel) (qU ks) r'))):Ret P f args σ0 r σ1:=by
 intro H L w vs hs ha;refine(h H L w vs hs ha).mono fun e w' hh=>?_
 obtain⟨o,σ',H',L',g1,g2,r',ks,fuel,rfl,hk,hd,ho,hr⟩:=hh;obtain⟨v,rfl,hv⟩:=g1;obtain⟨H2,L2,k1,_,k3⟩:=zMY ks fuel (by rw[hs.len]; exact hk) hd ho g2;refine⟨.ret r,σ1,H2,L2,⟨v,rfl,?_⟩,k1,rfl,rfl⟩;rcases hr with e | e
 ·rw[e]; exact k3 _ _ hv
 ·rw[e]; exact Rel.nrm0 _ (k3 _ _ hv)
end
end Go.Abs

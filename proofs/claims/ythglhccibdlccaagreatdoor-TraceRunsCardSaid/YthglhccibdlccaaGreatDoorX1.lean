/-
  What the program's tables hold from the start: the functions of eval.numbers.
  A logic of abstract states over the kit's 'Calls' and 'Code.wp': abstract values, and how they stand to the model's values and world.
-/
import Derived.Test.YthglhccibdlccaaGreatDoorProg
import Derived.Deep.Quiet
import Derived.Laws.AppendOwn
import Derived.Laws.OwnMore
import Derived.Laws.Sem
import Derived.Laws.World
import Derived.Laws.Cells
import Derived.Laws.Entries
import Derived.Laws.BytesArg
import Derived.Laws.MakeOwn
set_option linter.unusedVariables false
set_option linter.unusedSimpArgs false
namespace Go.Abs
def zRh:List (Nat×List Value):=[(0,[.func (.func 199) #[] #[],.func (.func 201) #[] #[],.func (.func 202) #[] #[],.func (.func 203) #[] #[],.func (.func 204) #[] #[]])]
end Go.Abs
namespace Go.Abs
inductive A where
 | any
 | nil
 | lit (v:Value)
 | agg (cs:List A)
 | tup (cs:List A)
 | sl (n:Nat) (cs:List A)
 | fsl (n:Nat) (cs:List A)
 | ptr (l off:Nat)
 | rptr (cs:List A)
 | row (l n:Nat)
 | rwp (l n off:Nat)
 | map (l:Nat)
 /-- A part of a row that had n elements: from the cell o on,k elements,c cells. -/
 | win (l n o k c:Nat)
 | clo (f:FuncId) (first cap:List A)
 deriving Inhabited
def zRi (b o:Nat):Option Value:=match zRh.lookup b with
 | some vs=>vs[o]?
 | none=>none
abbrev Mem:={f:Nat→Nat→Option Value // ∀b o v,zRi b o=some v→f b o=some v}
instance:CoeFun Mem fun _=>Nat→Nat→Option Value:=⟨fun H=>H.1⟩
def zMZ:Value→A
 | .func (.func f) ⟨[]⟩ ⟨[]⟩=>.clo f [] []
 | v=>.lit v
structure LI where
 block:Option Nat
 cap:Nat
 len:Nat
 isRow:Bool
def At (H:Mem)(b o:Nat)(us:List Value):Prop:=∀i u,us[i]?=some u→H b (o+i)=some u
def one (v:Value):Prop:=v.oneCell'=true
mutual
def Rel (H:Mem)(L:List LI):A→Value→Prop
 | .any,_=>True
 | .nil,v=>v=.slice none 0 0
 | .lit u,v=>v=u
 | .agg cs,v=>∃vs:List Value,v=.agg vs.toArray∧zX H L cs vs∧∀u∈vs,one u
 | .tup cs,v=>∃vs:List Value,v=.tuple vs.toArray∧zX H L cs vs
 | .sl n cs,v=>∃a cap,v=.slice a n cap∧n≤cap∧cap≤maxLen∧((n=0∧cs=[]) ∨
  ∃b o,∃us:List Value,a=some ⟨b,o,none⟩∧zX H L cs us∧(∀u∈us,one u)∧At H b o us)
 | .fsl n cs,v=>∃a,v=.slice a n n∧n≤maxLen∧((n=0∧cs=[]) ∨
  ∃b o,∃us:List Value,a=some ⟨b,o,none⟩∧zX H L cs us∧(∀u∈us,one u)∧At H b o us)
 | .ptr l off,v=>∃li b,L[l]?=some li∧li.block=some b∧li.isRow=false∧v=.pointer (some ⟨b,off,none⟩)
 | .rptr cs,v=>∃b o,∃us:List Value,v=.pointer (some ⟨b,o,none⟩)∧zX H L cs us∧(∀u∈us,one u)∧At H b o us
 | .row l n,v=>one v∧∃li,L[l]?=some li∧li.isRow=true∧n≤li.len ∧
  (n=li.len→v=match li.block with | none=>.slice none 0 0 | some b=>.slice (some ⟨b,0,none⟩) n li.cap)
 | .rwp l n off,v=>one v∧∃li,L[l]?=some li∧li.isRow=true∧n≤li.len∧(n=li.len→∃b,li.block=some b∧v=.pointer (some ⟨b,off,none⟩))
 | .map l,v=>∃li b,L[l]?=some li∧li.block=some b∧li.isRow=false∧v=.map (some b)
 | .win l n o k _,v=>one v∧∃li,L[l]?=some li∧li.isRow=true∧n≤li.len ∧
  (n=li.len→k≤n∧∃ad cap,v=.slice ad k cap∧k≤cap∧cap≤maxLen∧(k=0∨∃b,li.block=some b∧ad=some ⟨b,o,none⟩))
 | .clo f first cap,v=>∃fs cs:List Value,v=.func (.func f) fs.toArray cs.toArray∧zX H L first fs∧zX H L cap cs
def zX (H:Mem)(L:List LI):List A→List Value→Prop
 | [],vs=>vs=[]
 | c::cs,vs=>∃u us,vs=u::us∧Rel H L c u∧zX H L cs us
end
def HLe (H H':Mem):Prop:=∀b o v,H b o=some v→H' b o=some v
def LLe (L L':List LI):Prop:=∀(i:Nat) (l:LI),L[i]?=some l→∃l':LI,L'[i]?=some l'∧(l'=l∨(l.isRow=true∧l'.isRow=true∧l.len<l'.len)∨(l.block=none∧l.isRow=false∧l'.isRow=false))
theorem HLe.refl (H:Mem):HLe H H:=fun _ _ _ h=>h
theorem HLe.trans {H H' H'':Mem}(h:HLe H H')(k:HLe H' H''):HLe H H'':=fun b o v e=>k b o v (h b o v e)
theorem LLe.refl (L:List LI):LLe L L:=fun _ l h=>⟨l,h,.inl rfl⟩
theorem LLe.trans {L L' L'':List LI}(h:LLe L L')(k:LLe L' L''):LLe L L'':=by
 intro i l e;obtain⟨l',e',hl⟩:=h i l e;obtain⟨l'',e'',hl'⟩:=k i l' e';refine⟨l'',e'',?_⟩;rcases hl with rfl | ⟨a,b,c⟩ | ⟨a,b,c⟩
 ·exact hl'
 ·rcases hl' with rfl | ⟨a',b',c'⟩ | ⟨a',b',c'⟩
  ·exact .inr (.inl ⟨a,b,c⟩)
  ·exact .inr (.inl ⟨a,b',by omega⟩)
  ·rw[b]at b'; cases b'
 ·rcases hl' with rfl | ⟨a',b',c'⟩ | ⟨a',b',c'⟩
  ·exact .inr (.inr ⟨a,b,c⟩)
  ·rw[c]at a'; cases a'
  ·exact .inr (.inr ⟨a,b,c'⟩)
theorem LLe.append (L M:List LI):LLe L (L++M):=fun i l h=>⟨l,by rw[List.getElem?_append_left (List.getElem?_eq_some_iff.1 h).1]; exact h,.inl rfl⟩
theorem At.mono {H H':Mem} {b o us}(h:At H b o us)(hh:HLe H H'):At H' b o us:=fun i u e=>hh _ _ _ (h i u e)
mutual
theorem Rel.mono {H H':Mem}{L L':List LI}(hh:HLe H H')(hl:LLe L L'):∀(a:A) {v:Value},Rel H L a v→Rel H' L' a v
 | .any,_,_=>by simp[Rel]
 | .nil,_,h=>by simpa [Rel] using h
 | .lit _,_,h=>by simpa [Rel] using h
 | .agg cs,v,h=>by simp only[Rel]at h⊢;obtain⟨vs,rfl,h1,h2⟩:=h;exact⟨vs,rfl,zX.mono hh hl cs h1,h2⟩
 | .tup cs,v,h=>by simp only[Rel]at h⊢;obtain⟨vs,rfl,h1⟩:=h;exact⟨vs,rfl,zX.mono hh hl cs h1⟩
 | .sl n cs,v,h=>by
  simp only[Rel]at h⊢;obtain⟨a,cap,rfl,h1,h2,h3⟩:=h;refine⟨a,cap,rfl,h1,h2,?_⟩;rcases h3 with h3 | ⟨b,o,us,rfl,h4,h5,h6⟩
  ·exact .inl h3
  ·exact .inr ⟨b,o,us,rfl,zX.mono hh hl cs h4,h5,h6.mono hh⟩
 | .fsl n cs,v,h=>by
  simp only[Rel]at h⊢;obtain⟨a,rfl,h1,h3⟩:=h;refine⟨a,rfl,h1,?_⟩;rcases h3 with h3 | ⟨b,o,us,rfl,h4,h5,h6⟩
  ·exact .inl h3
  ·exact .inr ⟨b,o,us,rfl,zX.mono hh hl cs h4,h5,h6.mono hh⟩
 | .ptr l off,v,h=>by
  simp only[Rel]at h⊢;obtain⟨li,b,e,h1,h2,h3⟩:=h;obtain⟨l',e',hl'⟩:=hl _ _ e;rcases hl' with rfl | ⟨a,_⟩ | ⟨a,_⟩
  ·exact⟨_,b,e',h1,h2,h3⟩
  ·rw[h2]at a; cases a
  ·rw[h1]at a; cases a
 | .rptr cs,v,h=>by simp only[Rel]at h⊢;obtain⟨b,o,us,rfl,h4,h5,h6⟩:=h;exact⟨b,o,us,rfl,zX.mono hh hl cs h4,h5,h6.mono hh⟩
 | .row l n,v,h=>by
  simp only[Rel]at h⊢;obtain⟨h0,li,e,h1,h2,h3⟩:=h;obtain⟨l',e',hl'⟩:=hl _ _ e;rcases hl' with rfl | ⟨a,b,c⟩ | ⟨_,a,_⟩
  ·exact⟨h0,_,e',h1,h2,h3⟩
  ·exact⟨h0,l',e',b,by omega,fun he=>by omega⟩
  ·rw[h1]at a; cases a
 | .rwp l n off,v,h=>by
  simp only[Rel]at h⊢;obtain⟨h0,li,e,h1,h2,h3⟩:=h;obtain⟨l',e',hl'⟩:=hl _ _ e;rcases hl' with rfl | ⟨a,b,c⟩ | ⟨_,a,_⟩
  ·exact⟨h0,_,e',h1,h2,h3⟩
  ·exact⟨h0,l',e',b,by omega,fun he=>by omega⟩
  ·rw[h1]at a; cases a
 | .win l n o k c,v,h=>by
  simp only[Rel]at h⊢;obtain⟨h0,li,e,h1,h2,h3⟩:=h;obtain⟨l',e',hl'⟩:=hl _ _ e;rcases hl' with rfl | ⟨a,b,c⟩ | ⟨_,a,_⟩
  ·exact⟨h0,_,e',h1,h2,h3⟩
  ·exact⟨h0,l',e',b,by omega,fun he=>by omega⟩
  ·rw[h1]at a; cases a
 | .map l,v,h=>by
  simp only[Rel]at h⊢;obtain⟨li,b,e,h1,h2,h3⟩:=h;obtain⟨l',e',hl'⟩:=hl _ _ e;rcases hl' with rfl | ⟨a,_⟩ | ⟨a,_⟩
  ·exact⟨_,b,e',h1,h2,h3⟩
  ·rw[h2]at a; cases a
  ·rw[h1]at a; cases a
 | .clo f first cap,v,h=>by simp only[Rel]at h⊢;obtain⟨fs,cs,rfl,h1,h2⟩:=h;exact⟨fs,cs,rfl,zX.mono hh hl first h1,zX.mono hh hl cap h2⟩
theorem zX.mono {H H':Mem}{L L':List LI}(hh:HLe H H')(hl:LLe L L'):∀(cs:List A) {vs:List Value},zX H L cs vs→zX H' L' cs vs
 | [],vs,h=>by simpa [zX] using h
 | c::cs,vs,h=>by simp only[zX]at h⊢;obtain⟨u,us,rfl,h1,h2⟩:=h;exact⟨u,us,rfl,Rel.mono hh hl c h1,zX.mono hh hl cs h2⟩
end
section
variable {H:Mem}{L:List LI}
theorem jP:zX H L [] []:=by simp[zX]
theorem qS {c:A}{cs:List A}{v:Value}{vs:List Value}(h:Rel H L c v)(hs:zX H L cs vs):zX H L (c::cs) (v::vs):=by simp only[zX]; exact⟨v,vs,rfl,h,hs⟩
theorem qA {c:A}{cs:List A}{vs:List Value}(h:zX H L (c::cs) vs):∃u us,vs=u::us∧Rel H L c u∧zX H L cs us:=by
 simpa only[zX] using h
theorem jI {vs:List Value}(h:zX H L [] vs):vs=[]:=by simpa only[zX] using h
theorem zX.length:∀{cs:List A} {vs:List Value},zX H L cs vs→vs.length=cs.length
 | [],vs,h=>by simp[jI h]
 | c::cs,vs,h=>by obtain⟨u,us,rfl,_,h2⟩:=qA h;simp[zX.length h2]
theorem zX.get:∀{cs:List A} {vs:List Value},zX H L cs vs→∀{i:Nat} {c:A},cs[i]?=some c→∃v,vs[i]?=some v∧Rel H L c v
 | [],_,_,i,c,hc=>by simp at hc
 | c::cs,vs,h,i,d,hd=>by
  obtain⟨u,us,rfl,h1,h2⟩:=qA h;cases i with
  | zero=>simp only[List.getElem?_cons_zero,Option.some.injEq]at hd; subst hd; exact⟨u,by simp,h1⟩
  | succ i=>simp only[List.getElem?_cons_succ]at hd ⊢; exact zX.get h2 hd
theorem zX.append:∀{cs:List A} {vs:List Value} {ds:List A} {us:List Value},zX H L cs vs→zX H L ds us→zX H L (cs++ds) (vs++us)
 | [],vs,ds,us,h,h'=>by rw[jI h]; exact h'
 | c::cs,vs,ds,us,h,h'=>by obtain⟨u,ws,rfl,h1,h2⟩:=qA h;exact qS h1 (zX.append h2 h')
theorem zX.take:∀{cs:List A} {vs:List Value} (n:Nat),zX H L cs vs→zX H L (cs.take n) (vs.take n)
 | _,_,0,_=>by simp[zX]
 | [],vs,n+1,h=>by rw[jI h]; simp[zX]
 | c::cs,vs,n+1,h=>by obtain⟨u,ws,rfl,h1,h2⟩:=qA h;exact qS h1 (zX.take n h2)
theorem zX.drop:∀{cs:List A} {vs:List Value} (n:Nat),zX H L cs vs→zX H L (cs.drop n) (vs.drop n)
 | _,_,0,h=>by simpa using h
 | [],vs,n+1,h=>by rw[jI h]; simp[zX]
 | c::cs,vs,n+1,h=>by
  obtain⟨u,ws,rfl,h1,h2⟩:=qA h
  simpa using zX.drop n h2
theorem zX.set:∀{cs:List A} {vs:List Value},zX H L cs vs→∀(i:Nat) {c:A} {v:Value},Rel H L c v→zX H L (cs.set i c) (vs.set i v)
 | [],vs,h,i,c,v,hc=>by rw[jI h]; simp[zX]
 | c::cs,vs,h,i,d,v,hd=>by
  obtain⟨u,ws,rfl,h1,h2⟩:=qA h;cases i with
  | zero=>exact qS hd h2
  | succ i=>exact qS h1 (zX.set h2 i hd)
theorem zX.split:∀{cs ds:List A} {vs:List Value},zX H L (cs++ds) vs→∃us ws,vs=us++ws∧zX H L cs us∧zX H L ds ws
 | [],ds,vs,h=>⟨[],vs,rfl,jP,h⟩
 | c::cs,ds,vs,h=>by obtain⟨u,us,rfl,h1,h2⟩:=qA h;obtain⟨us',ws,rfl,h3,h4⟩:=zX.split h2;exact⟨u::us',ws,rfl,qS h1 h3,h4⟩
end
theorem At.take {H:Mem} {b o us}(n:Nat)(h:At H b o us):At H b o (us.take n):=fun i u e=>by
 rw[List.getElem?_take]at e;split at e
 ·exact h i u e
 ·cases e
theorem At.drop {H:Mem} {b o us}(n:Nat)(h:At H b o us):At H b (o+n) (us.drop n):=fun i u e=>by
 rw[List.getElem?_drop]at e;have:=h _ _ e
 rwa [←Nat.add_assoc]at this
inductive AObj where
 | dead
 | box (cs:List A)
 | row (fz:Bool) (e:TypeId) (sz n:Nat) (cs:List A)
 /-- The record of a range over a function: its block,the record but for its temporaries,and what these hold. -/
 | lp (b:Nat) (r:Loop) (N:Nat) (es:List (Nat×A))
 /-- A map: whether its entries were born one by one from 0 on,how many integers a key has,and its entries. -/
 | mp (fresh:Bool) (nk:Nat) (es:List (List Int×A))
 /-- A level that is kept for a box. -/
 | rsv
 /-- An iterator over the map at a level,which had n entries: the entries that it has met. -/
 | it (m n:Nat) (met:List Nat)
 deriving Inhabited
def zGu (n:Int):Value:=.int .i64 n
def zC6 (ks:List Int):Value:=.agg (ks.map zGu).toArray
def zAg (H:Mem)(L:List LI):List (List Int×A)→List MapEntry→Prop
 | [],l=>l=[]
 | p::es,l=>∃e l',l=e::l'∧e.key=zC6 p.1∧Rel H L p.2 e.val∧zAg H L es l'
theorem zAg.mono {H H':Mem}{L L':List LI}(hh:HLe H H')(hl:LLe L L'):∀{es:List (List Int×A)} {l:List MapEntry},zAg H L es l→zAg H' L' es l
 | [],_,h=>h
 | _::_,_,⟨e,l',h1,h2,h3,h4⟩=>⟨e,l',h1,h2,Rel.mono hh hl _ h3,zAg.mono hh hl h4⟩
theorem zAg.map {H H':Mem}{L L':List LI}(f:A→A):∀{es:List (List Int×A)} {l:List MapEntry},(∀p∈es,∀v,Rel H L p.2 v→Rel H' L' (f p.2) v)→zAg H L es l→zAg H' L' (es.map fun p=>(p.1,f p.2)) l
 | [],_,_,h=>h
 | _::_,_,hf,⟨e,l',h1,h2,h3,h4⟩=>⟨e,l',h1,h2,hf _ (List.mem_cons_self ..) _ h3,zAg.map f (fun p hp=>hf p (List.mem_cons_of_mem _ hp)) h4⟩
theorem zAg.length {H:Mem}{L:List LI}:∀{es:List (List Int×A)} {l:List MapEntry},zAg H L es l→l.length=es.length
 | [],_,h=>by rw[show _=[] from h]; rfl
 | _::_,_,⟨_,l',h1,_,_,h4⟩=>by rw[h1,List.length_cons,List.length_cons,zAg.length h4]
theorem zAg.get {H:Mem}{L:List LI}:∀{es:List (List Int×A)} {l:List MapEntry},zAg H L es l→∀{i:Nat} {p:List Int×A},es[i]?=some p→∃e,l[i]?=some e∧e.key=zC6 p.1∧Rel H L p.2 e.val
 | [],_,_,i,p,hp=>by simp at hp
 | _::_,_,⟨e,l',h1,h2,h3,h4⟩,0,p,hp=>by simp at hp; subst hp; exact⟨e,by rw[h1]; rfl,h2,h3⟩
 | _::_,_,⟨e,l',h1,h2,h3,h4⟩,i+1,p,hp=>by obtain⟨e',g1,g2⟩:=zAg.get h4 (i:=i) (p:=p) (by simpa using hp);exact⟨e',by rw[h1]; simpa using g1,g2⟩
theorem zKp {nk:Nat}{f:A→A}{es:List (List Int×A)}(h:∀p∈es,p.1.length=nk):∀p∈es.map fun p=>(p.1,f p.2),p.1.length=nk:=fun p hp=>by obtain⟨q,hq,rfl⟩:=List.mem_map.1 hp;exact h q hq
def qES (fresh:Bool)(ents:List MapEntry)(ck:Nat):Prop:=fresh=true→ck=ents.length∧∀(i:Nat) (e:MapEntry),ents[i]?=some e→e.born=i
def zFl (H:Mem)(L:List LI)(es:List (Nat×A))(tmps:Array Value):Prop:=∀p∈es,Rel H L p.2 (tmps.getD p.1 undef)
theorem zFl.mono {H H':Mem}{L L':List LI}{es:List (Nat×A)}{tmps:Array Value}(h:zFl H L es tmps)(hh:HLe H H')(hl:LLe L L'):zFl H' L' es tmps:=fun p hp=>Rel.mono hh hl _ (h p hp)
theorem zFl.map {H H':Mem}{L L':List LI}{es:List (Nat×A)}{tmps:Array Value}(h:zFl H L es tmps)(f:A→A)(hf:∀a v,Rel H L a v→Rel H' L' (f a) v):zFl H' L' (es.map fun p=>(p.1,f p.2)) tmps:=by intro p hp;obtain⟨q,hq,rfl⟩:=List.mem_map.1 hp;exact hf _ _ (h q hq)
abbrev St:=List AObj
def zW (H:Mem)(L:List LI)(w:World)(l:LI):AObj→Prop
 | .dead=>True
 | .box cs=>l.isRow=false∧∃b,∃vs:List Value,∃e,l.block=some b∧w.heap[b]?=some (.cells vs.toArray e (0,0))∧zX H L cs vs∧(∀u∈vs,one u)∧∀o,H b o=none
 | .row fz e sz n cs=>l.isRow=true∧l.len=n∧cs.length=n*sz∧((l.block=none∧n=0) ∨
  ∃b cur,l.block=some b∧w.heap[b]?=some (.cells cur e (0,0))∧n≤l.cap∧l.cap≤maxLen∧cur.size=l.cap*sz∧zX H L cs (cur.toList.take (n*sz))∧(∀u∈cur.toList.take (n*sz),one u) ∧
   match fz with
   | false=>∀o,H b o=none
   | true=>At H b 0 (cur.toList.take (n*sz))∧∀o,n*sz≤o→H b o=none)
 | .lp b r N es=>l.isRow=false∧l.block=some b∧∃tmps:Array Value,w.heap[b]?=some (.loop {r with tmps:=tmps})∧N≤tmps.size∧zFl H L es tmps
 | .rsv=>l.block=none∧l.isRow=false
 | .mp fresh nk es=>l.isRow=false∧∃b,∃ents:Array MapEntry,∃ck,l.block=some b∧w.heap[b]?=some (.map ents ck)∧zAg H L es ents.toList∧qES fresh ents.toList ck∧∀p∈es,p.1.length=nk
 | .it m n met=>l.isRow=false∧∃b mb lm,l.block=some b∧L[m]?=some lm∧lm.block=some mb∧lm.isRow=false∧w.heap[b]?=some (.mapIter (some mb) n met.toArray n)
structure RelSt (H:Mem)(L:List LI) (σ : St)(w:World):Prop where
 pers:∀b o v,H b o=some v→w.cell? ⟨b,o,none⟩=some v
 len:L.length = σ.length
 obj:∀(i:Nat) l o,L[i]?=some l→σ[i]?=some o→zW H L w l o
 inj:∀(i j:Nat) l l' b,L[i]?=some l→L[j]?=some l'→l.block=some b→l'.block=some b→i=j
 lt:∀(i:Nat) l b,L[i]?=some l→l.block=some b→b<w.heap.size
structure Step (O:Nat→Prop)(w0:World)(H0:Mem)(w:World)(H:Mem):Prop where
 os:w.os=w0.os
 tape:w.tape=w0.tape
 output:w.output=w0.output
 size:w0.heap.size≤w.heap.size
 keep:∀k,k<w0.heap.size→¬O k→w.heap[k]?=w0.heap[k]?
 hle:HLe H0 H
 hnew:∀b o v,H b o=some v→H0 b o=some v∨O b∨w0.heap.size≤b
 drawn:w0.drawn≤w.drawn
 dfr:∀(k:Nat) d,w0.heap[k]?=some (.deferred d)→w.heap[k]?=some (.deferred d)
theorem Step.refl (O:Nat→Prop)(w:World)(H:Mem):Step O w H w H :=
 ⟨rfl,rfl,rfl,Nat.le_refl _,fun _ _ _=>rfl,HLe.refl H,fun _ _ _ h=>.inl h,Nat.le_refl _,fun _ _ h=>h⟩
def zO4 (L:List LI)(b:Nat):Prop:=∃(i:Nat) (l:LI),L[i]?=some l∧l.block=some b
structure Inv (O:Nat→Prop)(w0:World)(H0:Mem)(H:Mem)(L:List LI) (σ : St)(w:World):Prop where
 st:RelSt H L σ w
 step:Step O w0 H0 w H
 own:∀b,zO4 L b→O b∨w0.heap.size≤b
theorem Step.trans {O O':Nat→Prop}{w0 w1 w2:World}{H0 H1 H2:Mem}(h:Step O w0 H0 w1 H1)(k:Step O' w1 H1 w2 H2)
 (ho:∀b,O' b→O b∨w0.heap.size≤b):Step O w0 H0 w2 H2:=by
 refine⟨k.os.trans h.os,k.tape.trans h.tape,k.output.trans h.output,Nat.le_trans h.size k.size,fun i hi hn=>?_,h.hle.trans k.hle,fun b o v e=>?_,Nat.le_trans h.drawn k.drawn,fun i d e=>k.dfr i d (h.dfr i d e)⟩
 ·rw[k.keep i (Nat.lt_of_lt_of_le hi h.size) (fun hO=>(ho i hO).elim hn (by omega)),h.keep i hi hn]
 ·rcases k.hnew b o v e with h1 | h1 | h1
  ·exact h.hnew b o v h1
  ·exact .inr (ho b h1)
  ·exact .inr (.inr (Nat.le_trans h.size h1))
abbrev Env:=Nat→A
def Env.put (env:Env)(d:Option Nat)(a:A):Env:=match d with | none=>env | some d=>fun t=>if t=d then a else env t
def qI (H:Mem)(L:List LI)(N:Nat)(env:Env)(tmps:Array Value):Prop:=N≤tmps.size∧∀t,Rel H L (env t) (tmps.getD t undef)
theorem qI.mono {H H':Mem}{L L':List LI}{N:Nat}{env:Env}{tmps:Array Value}(h:qI H L N env tmps)(hh:HLe H H')(hl:LLe L L'):qI H' L' N env tmps :=
 ⟨h.1,fun t=>Rel.mono hh hl _ (h.2 t)⟩
theorem qI.put {H:Mem}{L:List LI}{N:Nat}{env:Env}{a:Act}(h:qI H L N env a.tmps){d:Option Nat}(hd:∀x,d=some x→x<N){r:A}{v:Value}(hr:Rel H L r v) :
 qI H L N (env.put d r) (a.put d v).tmps:=by
 cases d with
 | none=>exact h
 | some d =>
  have hlt:d<a.tmps.size:=Nat.lt_of_lt_of_le (hd d rfl) h.1;refine⟨by simpa [Act.put] using h.1,fun t=>?_⟩;simp only[Env.put,Act.put];by_cases ht:t=d
  ·subst ht; simpa [hlt] using hr
  ·have:=h.2 t
   simpa [ht,Array.getElem?_setIfInBounds_ne (Ne.symm ht)] using this
end Go.Abs

/-
  The definitions that types reach: met one by one, or in rounds.
  The law's calls: which definition is called.
  trace: notes, and the definitions that types reach.
  trace: environments as maps.
-/
import Derived.Test.YthglhccibdlccaaGreatDoorX41
import Derived.Test.YthglhccibdlccaaGreatDoorX26
import Derived.Test.YthglhccibdlccaaGreatDoorX40
set_option linter.unusedVariables false
set_option linter.unusedSimpArgs false
namespace Go.Proofs.YthglhccibdlccaaGreatDoor
open Go.Abs
inductive Nam:Typ→Id→Prop
 | here (t:Typ) (h:t.k=3):Nam t t.id
 | kid (t k:Typ) (x:Id) (h:k∈t.kids) (hx:Nam k x):Nam t x
inductive Rch (p:Prg)(T:Typ→Prop):Id→Prop
 | base (t:Typ) (x:Id) (ht:T t) (hx:Nam t x):Rch p T x
 | step (y:Id) (s:Slt) (x:Id) (hy:Rch p T y) (hs:s∈(dfn p y).slots) (hx:Nam s.typ x):Rch p T x
theorem Rch.mono {p:Prg}{T T':Typ→Prop}{x:Id}(h:Rch p T x)(hT:∀t,T t→T' t):Rch p T' x:=by
 induction h with
 | base t x ht hx=>exact .base t x (hT t ht) hx
 | step y s x _ hs hx ih=>exact .step y s x ih hs hx
theorem Rch.one {p:Prg}{T:Typ→Prop}{x:Id}(h:Rch p T x):∃t,T t∧Rch p (· = t) x:=by
 induction h with
 | base t x ht hx=>exact⟨t,ht,.base t x rfl hx⟩
 | step y s x _ hs hx ih =>
  obtain⟨t,ht,h⟩:=ih;exact⟨t,ht,.step y s x h hs hx⟩
def zAv (p:Prg):Nat→Typ→List Id→List Id
 | 0,_,L=>L
 | f+1,t,L=>if t.k=3∧t.id∉t.kids.foldl (fun L k=>zAv p f k L) L then (dfn p t.id).slots.foldl (fun L s=>zAv p f s.typ L) (t.kids.foldl (fun L k=>zAv p f k L) L++[t.id])
  else t.kids.foldl (fun L k=>zAv p f k L) L
structure Meets (p:Prg)(T:Typ→Prop)(L L':List Id):Prop where
 sub:∀x∈L,x∈L'
 all:∀t x,T t→Nam t x→x∈L'
 clo:∀x∈L',x∉L→∀s∈(dfn p x).slots,∀y,Nam s.typ y→y∈L'
 snd:∀x∈L',x∈L∨Rch p T x
theorem Meets.trans {p:Prg}{T T':Typ→Prop}{L L' L'':List Id}(h:Meets p T L L')(k:Meets p T' L' L''):Meets p (fun t=>T t∨T' t) L L'':=by
 refine⟨fun x hx=>k.sub x (h.sub x hx),fun t x ht hx=>?_,fun x hx hn s hs y hy=>?_,fun x hx=>?_⟩
 ·rcases ht with ht | ht
  ·exact k.sub x (h.all t x ht hx)
  ·exact k.all t x ht hx
 ·by_cases hx':x∈L'
  ·exact k.sub y (h.clo x hx' hn s hs y hy)
  ·exact k.clo x hx hx' s hs y hy
 ·rcases k.snd x hx with hx | hx
  ·rcases h.snd x hx with hx | hx
   ·exact .inl hx
   ·exact .inr (hx.mono fun _ h=>.inl h)
  ·exact .inr (hx.mono fun _ h=>.inr h)
theorem Meets.congr {p:Prg}{T T':Typ→Prop}{L L':List Id}(h:Meets p T L L')(hT:∀t,T t↔T' t):Meets p T' L L' :=
 ⟨h.sub,fun t x ht hx=>h.all t x ((hT t).2 ht) hx,h.clo,fun x hx=>(h.snd x hx).imp (fun h=>h) fun h=>h.mono fun t=>(hT t).1⟩
def zBw (p:Prg)(ss:List Slt)(L:List Id):List Id:=ss.foldl (fun L s=>zAv p 10 s.typ L) L
mutual
def zOr:Typ→List Id→List Id
 | .mk k x l,L=>zKy l (if k=3 then zFi L x else L)
def zKy:List Typ→List Id→List Id
 | [],L=>L
 | t::l,L=>zKy l (zOr t L)
end
mutual
theorem zOs:∀(t:Typ) (L:List Id) (x:Id),x∈zOr t L↔x∈L∨Nam t x
 | .mk k y l,L,x=>by
  rw[zOr,zMh l];constructor
  ·rintro(h | ⟨t,ht,h⟩)
   ·split at h
    ·rename_i hk;rcases zEh.1 h with h | h
     ·exact .inl h
     ·subst h; exact .inr (.here (.mk k x l) hk)
    ·exact .inl h
   ·exact .inr (.kid (.mk k y l) t x ht h)
  ·rintro(h | h)
   ·left;split
    ·exact zEh.2 (.inl h)
    ·exact h
   ·generalize hT:Typ.mk k y l=T at h;cases h with
    | here _ h =>
     subst hT;left;show y∈_;rw[if_pos (show k=3 from h)];exact zEh.2 (.inr rfl)
    | kid _ t _ ht hx =>
     subst hT;exact .inr ⟨t,ht,hx⟩
theorem zMh:∀(l:List Typ) (L:List Id) (x:Id),x∈zKy l L↔x∈L∨∃t∈l,Nam t x
 | [],L,x=>by simp[zKy]
 | t::l,L,x=>by rw[zKy,zMh l,zOs t];simp only[List.mem_cons,exists_eq_or_imp,or_assoc]
end
mutual
theorem zRo:∀(t:Typ) (L:List Id),SS L→SS (zOr t L)
 | .mk k y l,L,h=>by
  rw[zOr];refine zOt l _ ?_;split
  ·exact zMQ h
  ·exact h
theorem zOt:∀(l:List Typ) (L:List Id),SS L→SS (zKy l L)
 | [],L,h=>h
 | t::l,L,h=>by rw[zKy]; exact zOt l _ (zRo t L h)
end
def namS (ss:List Slt)(L:List Id):List Id:=ss.foldl (fun L s=>zOr s.typ L) L
def zGr (ds:List Dfn)(n:Nat):List Nat:=(List.range n).filter fun i=>match ds[i]? with | some d=>zBO d.kind | none=>false
def zCd (l:List Nat):List A:=l.map fun(i:Nat)=>A.lit (.int .i64 (i:Int))
@[simp] theorem qCe (l:List Nat):jG (zCd l)=zCd l:=by
 have:zCd l=yF (l.map fun(i:Nat)=>(i:Int)):=by simp[zCd,yF,Function.comp_def]
 rw[this]; simp
@[simp] theorem qJq {rf:Bool→Nat→Nat→A}{g:Nat→Option Nat}(l:List Nat):vwL rf g (zCd l)=zCd l:=by
 have:zCd l=yF (l.map fun(i:Nat)=>(i:Int)):=by simp[zCd,yF,Function.comp_def]
 rw[this]; simp
@[simp] theorem qD3 (l:List Nat):(zCd l).length=l.length:=by simp[zCd]
theorem zPQ {l:List Nat}{i:Nat}(h:i<l.length):(zCd l).drop i=int l[i]::zCd (l.drop (i+1)):=by rw[zCd,←List.map_drop,List.drop_eq_getElem_cons h]; rfl
theorem zPR (l:List Nat)(i:Nat):zCd (l++[i])=zCd l++[A.lit (.int .i64 (i:Int))]:=by simp[zCd]
theorem zRI {ds:List Dfn}{n:Nat}(h:n<ds.length):zGr ds (n+1)=if zBO ds[n].kind then zGr ds n++[n] else zGr ds n:=by unfold zGr;rw[List.range_succ,List.filter_append,List.filter_cons,List.filter_nil,List.getElem?_eq_getElem h];cases hb:zBO ds[n].kind<;>simp[hb]
theorem zNy (ds:List Dfn)(n:Nat):(zGr ds n).length≤n:=by
 have:=List.length_filter_le (fun i=>match ds[i]? with | some d=>zBO d.kind | none=>false) (List.range n)
 simpa [zGr] using this
theorem zTL {ds:List Dfn}{n i:Nat}(h:i∈zGr ds n):∃hi:i<ds.length,zBO ds[i].kind=true:=by
 unfold zGr at h;rw[List.mem_filter]at h;have h2:=h.2;cases hg:ds[i]? with
 | none=>rw[hg]at h2; cases h2
 | some d =>
  rw[hg]at h2;obtain⟨a,b⟩:=List.getElem?_eq_some_iff.1 hg;exact⟨a,by rw[b]; exact h2⟩
def qF3:K:=G [kO 1 0,kMn 2] (G [kMn 3] (Z (G [kMi 4 0] (K.block 0 (K.loop (Z (G [M 5 4,D 6 1 1,L 7 6 1,kN 8 7,kB 9 5 8 .lss] (Y 9 ks (K.exit 0))) (Z (K.block 1 (G [D 12 1 1,L 13 12 1,M 14 4,kX 15 13 14 31,J 16 15 31,kC 17 25 [(kt 16)]] (Y 17 (K.ops [M 18 3,M 19 4,kd 20 3 1 1 [ki] [(0,1,(kt 19))],kP 21 3 1 8 18 20,M 3 21]) ks))) (K.ops [M 10 4,kBi 11 10 1 .add,M 4 11])))))) (G [M 22 3,M 2 22] kr)))
theorem qMn:zL Tryz.prog Tryz.f27.ntmps (Tryz.f27.body.getD .skip)=some qF3.erase:=by kernel_rfl
@[simp] theorem qNr:zA Tryz.prog 27=true:=by kernel_rfl
set_option maxHeartbeats 1000000 in
theorem zQe {p:Prg}{hs:List Hd}(hf:Fit p hs):Ret Tryz.prog 27 [.agg (zU p)] [] (.sl (zGr p.defs p.defs.length).length (zCd (zGr p.defs p.defs.length))) []:=by
 have hL8:=hf.len8;refine zK Tryz.func27 rfl qMn (rs:=[.slot 2]) (by kernel_rfl) ?_;unfold qF3;have h0:zGr p.defs 0=[]:=rfl;have h00:zCd []=[]:=rfl;simp[zU];refine qZ (S:=Nat) (fun i=>[(1,.ptr 0 0),(3,.row 1 (zGr p.defs i).length),(4,int i)]) (fun i=>[.box (zU p),.row false 3 1 (zGr p.defs i).length (zCd (zGr p.defs i))]) (fun i=>i≤p.defs.length) (fun i=>p.defs.length-i) 0 (by simp)
  ((yA (t:=3) (by simp) 3 1).trans (zS [0,1] 0 (by decide) (by simp) (by simp[zU,h0,h00]) (by simp[h0]))) ?_
 intro i hi;have hw:IntKind.i64.wrap ((i:Int)+1)=(i:Int)+1:=IntWalk.i64_in _ (by omega);have hbl:=zNy p.defs i;by_cases hil:i<p.defs.length
 ·have hst:=zRI hil;have hdr:=yB hil;have hhb:=zX8 p.defs[i];generalize p.defs[i]=d at *
  simp[zU,hil,hdr,zP]
  intros
  refine zR hhb (by simp[zP]) (by simp) ?_;cases hb:zBO d.kind with
  | true =>
   rw[if_pos hb]at hst;simp;refine⟨⟨by simp[maxLen]; omega,by omega⟩,?_⟩;exact zT (i+1) hil (by omega) (zS [0,1] 0 (by decide) (by simp) (by simp[zU,hst,zPR]) (by simp[hw,hst]))
  | false =>
   rw[if_neg (by simp[hb])]at hst;simp;exact zT (i+1) hil (by omega) (zS [0,1] 0 (by decide) (by simp) (by simp[zU,hst]) (by simp[hw,hst]))
 ·have hie:i=p.defs.length:=by omega
  subst hie;simp[zU]
  intros
  exact zC 1 (by simp)
def qA1:K:=G [kO 3 0,kZ 6 kz0,kMn 7,kMb 8 false] (G [J 11 3 2,kC 12 27 [(kt 11)],M 9 12] (Z (G [M 13 9,kN 14 13,kQi 15 14 0 false] (Y 15 (G [kb 16 kz0 [],S 6 16 31,kMn 7,kMb 8 false] kr) ks)) (Z (K.dops [(0,1,D 17 3 1),(1,1,L 18 17 1),(2,0,M 19 9),(3,0,M 20 2),(4,0,M 21 9),(5,1,kN 22 21),(6,1,kC 23 12 [(kt 20),(kt 22)]),(7,1,kX 24 19 23 1),(8,1,L 25 24 1),(9,1,kX 26 18 25 31),(10,1,J 27 26 31),(11,0,kZ 10 kz0),(12,0,S 10 27 31)]) (Z (K.dops [(0,0,J 28 10 31),(1,0,J 29 3 2),(2,0,J 30 10 31),(3,0,M 31 1),(4,0,kC 32 38 [(kt 29),(kt 30),(kt 31)]),(5,0,S 6 28 31),(6,0,M 7 32),(7,0,kMb 8 true)]) kr))))
theorem qG7:zL Tryz.prog Tryz.f10.ntmps (Tryz.f10.body.getD .skip)=some qA1.erase:=by kernel_rfl
@[simp] theorem qNi:zA Tryz.prog 10=true:=by kernel_rfl
set_option maxHeartbeats 1000000 in
theorem zRR {p:Prg}{hs:List Hd}(hf:Fit p hs)(l:List Int)(hl:∀x∈l,w64 x=x)(n:Int)(hn:w64 n=n) :
 (Ret Tryz.prog 10 [.agg (zU p),.sl l.length (yF l),int n] [] (.tup [.agg (zP Dfn.zero),.sl 0 [],bl false]) []) ∨
 ∃d∈p.defs,zBO d.kind=true∧Ret Tryz.prog 10 [.agg (zU p),.sl l.length (yF l),int n] [] (.tup [.agg (zP d),.sl (zCZ p d l).length (zV (zCZ p d l)),bl true]) []:=by
 have hL8:=hf.len8;have hb:=zQe hf;have hbl:=zNy p.defs p.defs.length;have hmem:=fun i (h:i∈zGr p.defs p.defs.length)=>zTL h
 generalize zGr p.defs p.defs.length=L at *
 by_cases h0:L.length=0
 ·left;have hLn:L=[]:=List.eq_nil_of_length_eq_zero h0;subst hLn;refine zK Tryz.func10 rfl qG7 (rs:=[.cell 6 31 true,.slot 7,.slot 8]) (by kernel_rfl) ?_;unfold qA1;simp[zU];refine zR hb (by simp[zU]) (by simp) ?_;simp[zCd];exact zC 0 (by simp[zP,Dfn.zero,Exp.zero,Typ.zero,Id.zero])
 ·right;obtain⟨a0,a1⟩:=zCl (k:=(L.length:Int)) hn (by omega);have ra:=zFR n L.length (by omega);obtain⟨x,hx⟩:∃x:Nat,zAq n L.length=x:=⟨(zAq n L.length).toNat,by omega⟩;rw[hx]at ra;have hxl:x<L.length:=by omega
  obtain⟨hi,hk⟩:=hmem _ (List.getElem_mem hxl);have hdm:=List.getElem_mem hi;have hag:=zW3 hf hdm l hl;have hdr:=zPQ hxl;have hdd:=yB hi;refine⟨p.defs[L[x]],hdm,hk,?_⟩;generalize p.defs[L[x]]=d at *
  have hn0:¬L=[]:=fun e=>h0 (by simp[e])
  refine zK Tryz.func10 rfl qG7 (rs:=[.cell 6 31 true,.slot 7,.slot 8]) (by kernel_rfl) ?_;unfold qA1;simp[zU];refine zR hb (by simp[zU]) (by simp) ?_;simp[hn0]
  intros
  refine zA3 ra (by simp) (by simp) ?_;simp[hxl,hdr,hi,hdd,zP];refine qE hag (by simp[zU,zP]) (by simp) ?_;simp;exact zC 0 (by simp[zP])
end Go.Proofs.YthglhccibdlccaaGreatDoor
namespace Go.Proofs.YthglhccibdlccaaGreatDoor
open Go.Abs
def ddI (L:List Id)(x:Id):List Id:=if x∈L then L else L++[x]
def ddL (l:List Id):List Id:=l.foldl ddI []
theorem zJT (l:List Id)(x:Id):ddL (l++[x])=ddI (ddL l) x:=by simp[ddL]
theorem zWZ {L:List Id}{x y:Id}:y∈ddI L x↔y∈L∨y=x:=by
 unfold ddI;split
 ·rename_i h;constructor
  ·exact .inl
  ·rintro(h' | rfl)
   ·exact h'
   ·exact h
 ·simp
theorem zXa {l:List Id}{y:Id}:y∈ddL l↔y∈l:=by
 induction l using zBy with
 | nil=>simp[ddL]
 | snoc l x ih=>rw[zJT,zWZ,ih]; simp
theorem zWY (L:List Id)(x:Id):(ddI L x).length≤L.length+1:=by
 unfold ddI;split
 ·omega
 ·simp
theorem zMA (l:List Id):(ddL l).length≤l.length:=by
 induction l using zBy with
 | nil=>simp[ddL]
 | snoc l x ih=>rw[zJT]; have:=zWY (ddL l) x; simp; omega
theorem zR0 (l:List Id):zBJ (ddL l)=zBJ l:=(zDo _).unique (zDo _) fun x=>by rw[zB9,zB9,zXa]
def zH6 (l:List Id):List (List Int×A):=l.map fun x=>(zBb x,.lit (.bool true))
@[simp] theorem qKE {rf:Bool→Nat→Nat→A}{g:Nat→Option Nat}(l:List Id):((zH6 l).map fun p=>(p.1,vw rf g p.2))=zH6 l:=by
 simp only[zH6,List.map_map];refine List.map_congr_left fun x _=>?_
 simp
theorem zGK {i:Id}:∀(l:List Id),zA1 (zBb i) (zH6 l)=if i∈l then some (.lit (.bool true)) else none
 | []=>rfl
 | x::l=>by
  have ih:=zGK (i:=i) l;simp only[zH6,List.map_cons,zA1]at ih ⊢;by_cases h:x=i
  ·simp[h]
  ·have h':¬zBb x=zBb i:=fun e=>h (zF2.1 e)
   rw[if_neg h',ih];simp[Ne.symm h]
theorem zI9 {x:Id}:∀(l:List Id),x∉l→zDm (zBb x) (.lit (.bool true)) (zH6 l)=zH6 (l++[x])
 | [],_=>rfl
 | y::l,h=>by
  have ih:=zI9 (x:=x) l (fun h'=>h (by simp[h']));have h':¬zBb y=zBb x:=fun e=>h (by simp[zF2.1 e])
  simp only[zH6,List.map_cons,zDm,h',if_false,List.cons_append]at ih ⊢;rw[ih]
@[simp] theorem qK2 {a:A}:zF1 (.bool false) false (some a)=a:=rfl
@[simp] theorem qK1:zF1 (.bool false) false none=.lit (.bool false):=rfl
def nS (ds ns:List Id):St:=[.box [.row 2 ds.length,.row 3 ns.length],.box [.map 4],.row false 29 3 ds.length (qF ds),.row false 29 3 ns.length (qF ns),.mp true 3 (zH6 ns)]
def qFJ:K:=G [kO 5 1] (G [M 6 0] (Y 6 (K.ops [D 7 2 0,L 8 7 1,J 9 5 3,kd 10 29 3 1 [ki,ki,ki] [(0,3,(kt 9))],kP 11 29 3 24 8 10,D 12 2 0,S 12 11 1]) (G [L 13 3 1,J 14 5 3,⟨none,.mop (some 15) (.get 3 (.bool false) false) [(kt 13),(kt 14)]⟩,kR 16 15] (Y 16 (G [L 17 3 1,J 18 5 3,⟨none,.mop none (.set 3) [(kt 17),(kt 18),(.const (.bool true))]⟩] (K.ops [D 19 2 1,L 20 19 1,J 21 5 3,kd 22 29 3 1 [ki,ki,ki] [(0,3,(kt 21))],kP 23 29 3 24 20 22,D 24 2 1,S 24 23 1])) ks))))
theorem qM3:zL Tryz.prog Tryz.f44.ntmps (Tryz.f44.body.getD .skip)=some qFJ.erase:=by kernel_rfl
@[simp] theorem qNJ:zA Tryz.prog 44=true:=by kernel_rfl
theorem zMU (b:Bool)(x:Id)(ds ns:List Id)(hd:ds.length≤1000000)(hn:ns.length≤1000000) :
 Ret Tryz.prog 44 [bl b,.agg (qX x),.ptr 0 0,.ptr 1 0] (nS ds ns) (.tup []) (nS (if b then ds++[x] else ds) (if b then ns else ddI ns x)):=by
 refine zK Tryz.func44 rfl qM3 (rs:=[]) (by kernel_rfl) ?_;unfold qFJ;cases b with
 | true =>
  simp[nS,qX];refine⟨⟨by simp[maxLen]; omega,by omega⟩,?_⟩;exact zG [0,1,2,3,4] 0 (by decide) (by simp) (by simp[jJ,qF]) (by simp)
 | false =>
  have hf:=zGK (i:=x) ns;simp only[zBb]at hf;by_cases h:x∈ns
  ·rw[if_pos h]at hf;simp[nS,qX,hf];exact zG [0,1,2,3,4] 0 (by decide) (by simp) (by simp[ddI,h]) (by simp)
  ·rw[if_neg h]at hf;have hp:=zI9 ns h;simp only[zBb]at hp;simp[nS,qX,hf,hp];refine⟨⟨by simp[maxLen]; omega,by omega⟩,?_⟩;exact zG [0,1,2,3,4] 0 (by decide) (by simp) (by simp[ddI,h,jJ,qF]) (by simp)
def tS (p:Prg)(s:XS):St:=[.box (zU p++[int s.fuel,int s.fail,.clo 44 [] [.ptr 1 0,.ptr 2 0]]),.box [.row 3 s.ds.length,.row 4 (ddL s.ns).length],.box [.map 5],
 .row false 29 3 s.ds.length (qF s.ds),.row false 29 3 (ddL s.ns).length (qF (ddL s.ns)),.mp true 3 (zH6 (ddL s.ns))]
def rS (p:Prg)(s:XS)(L:List Id):St:=tS p {s with ds:=L}++[.mp true 3 (zH6 L)]
structure RL (p:Prg)(L:List Id):Prop where
 nd:L.Nodup
 sub:∀x∈L,x∈p.defs.map Dfn.id
theorem RL.len {p:Prg}{hs:List Hd}(hf:Fit p hs){L:List Id}(h:RL p L):L.length≤8:=by
 have:=h.nd.length_le_of_subset (l₂:=p.defs.map Dfn.id) h.sub;have:=hf.len8;simp at *
 omega
theorem RL.fold {p:Prg} {α : Type}(g : α→List Id→List Id):∀(l:List α) (L:List Id),(∀a∈l,∀L,RL p L→RL p (g a L))→RL p L→RL p (l.foldl (fun L a=>g a L) L)
 | [],L,_,h=>h
 | a::l,L,hg,h=>by rw[List.foldl_cons];exact RL.fold g l _ (fun b hb=>hg b (by simp[hb])) (hg a (by simp) L h)
theorem zGa {α β : Type}(g : β→α→β)(b : β){l:List α}{i:Nat}(h:i<l.length):(l.take (i+1)).foldl g b=g ((l.take i).foldl g b) l[i]:=by rw[List.take_succ_eq_append_getElem h,List.foldl_append]; rfl
def qFK:K:=G [kO 4 1] (Z (G [D 12 4 4,L 13 12 1,kN 14 13,kMi 15 0] (K.block 0 (K.loop (G [kB 16 15 14 .lss] (Z (Y 16 ks (K.exit 0)) (Z (K.block 1 (G [kX 17 13 15 5,J 18 17 5,kZ 7 kz2,S 7 18 5] (K.ops [M 19 0,J 20 7 5,M 21 2,kC 22 46 [(kt 19),(kt 20),(kt 21)]]))) (K.ops [kBi 23 15 1 .add,M 15 23]))))))) (Z (G [D 24 4 0,L 25 24 1,kQi 26 25 3 true,M 27 26,T 27 false (M 28 2),T 27 false (D 29 4 1),T 27 false (J 30 29 3),⟨some (27,false),.mop (some 31) (.get 3 (.bool false) false) [(kt 28),(kt 30)]⟩,kPt 32 27 31] (Y 32 kr ks)) (G [M 33 2,D 34 4 1,J 35 34 3,⟨none,.mop none (.set 3) [(kt 33),(kt 35),(.const (.bool true))]⟩] (Z (K.dops [(0,0,M 37 0),(1,0,kU 38 37),(2,1,D 39 38 0),(3,1,J 40 39 2),(4,1,D 41 4 1),(5,1,J 42 41 3),(6,1,kC 43 42 [(kt 40),(kt 42)]),(7,0,M 36 43),(8,0,kE 44 36 0),(9,0,kE 45 36 1),(10,0,kZ 8 kz0),(11,0,S 8 44 31),(12,0,M 9 45)]) (G [M 46 9] (Y 46 (Z (K.dops [(0,0,M 47 0),(1,0,kU 48 47),(2,0,D 49 48 4),(3,0,L 50 49 1),(4,0,D 51 8 0),(5,0,J 52 51 3),(6,4,⟨none,.call (some 53) (kt 50) [(.const (.bool true)),(kt 52)]⟩)]) (G [D 54 8 8,L 55 54 1,kN 56 55,kMi 57 0] (K.block 2 (K.loop (G [kB 58 57 56 .lss] (Z (Y 58 ks (K.exit 2)) (Z (K.block 3 (G [kX 59 55 57 11,J 60 59 11,kZ 11 kz5,S 11 60 11] (K.ops [M 61 0,D 62 11 4,J 63 62 5,M 64 2,kC 65 46 [(kt 61),(kt 63),(kt 64)]]))) (K.ops [kBi 66 57 1 .add,M 57 66])))))))) ks))))))
def qO9:Nat→Option (List (Nat×Nat)):=fun r=>match r with | 10=>some [(0,0),(1,0),(2,0),(3,0),(4,0),(5,0),(6,4)] | _=>none
theorem qM4:qC Tryz.prog Tryz.f46.ntmps qO9 (Tryz.f46.body.getD .skip)=some qFK.erase:=by kernel_rfl
@[simp] theorem qNK:zA Tryz.prog 46=true:=by kernel_rfl
def zGZ (p:Prg)(s:XS)(m:Nat)(t:Typ):Prop:=∀L,RL p L→RL p (zAv p m t L)∧Ret Tryz.prog 46 [.ptr 0 0,.agg (zB t),.map 6] (rS p s L) (.tup []) (rS p s (zAv p m t L))
set_option maxHeartbeats 2000000 in
theorem zER {p:Prg}{hs:List Hd}(hf:Fit p hs)(s:XS)(hs0:s.ns=[])(m:Nat)(t:Typ)(hk:∀k∈t.kids,zGZ p s m k)(hd:t.k=3→∃d,yC p.defs t.id=some d∧∀sl∈d.slots,zGZ p s m sl.typ):zGZ p s (m+1) t:=by
 intro L hL;obtain⟨L1,hL1⟩:∃L1,L1=t.kids.foldl (fun L k=>zAv p m k L) L:=⟨_,rfl⟩;have rl:∀i,RL p ((t.kids.take i).foldl (fun L k=>zAv p m k L) L):=fun i=>RL.fold (fun k L=>zAv p m k L) _ _ (fun k hk' L hL=>(hk k (List.mem_of_mem_take hk') L hL).1) hL
 have rl1:RL p L1:=by have:=rl t.kids.length; rw[List.take_length]at this; rw[hL1]; exact this
 have hall:t.kids.take t.kids.length=t.kids:=List.take_length;have e:zAv p (m+1) t L=if t.k=3∧t.id∉L1 then (dfn p t.id).slots.foldl (fun L s=>zAv p m s.typ L) (L1++[t.id]) else L1:=by rw[zAv,←hL1]
 rw[e];have hn0:ddL s.ns=[]:=by rw[hs0]; rfl
 have rl2:t.k=3→t.id∉L1→RL p (L1++[t.id]):=fun h3 hin=>by
  obtain⟨d,hd,_⟩:=hd h3;obtain⟨hdm,hdi⟩:=zAC hd;refine⟨?_,fun x hx=>?_⟩
  ·rw[List.nodup_append];refine⟨rl1.nd,by simp,fun a ha b hb=>?_⟩;rw[List.mem_singleton.1 hb];exact fun e=>hin (e▸ha)
  ·rcases List.mem_append.1 hx with hx | hx
   ·exact rl1.sub x hx
   ·rw[List.mem_singleton.1 hx,←hdi];exact List.mem_map_of_mem hdm
 have rl3:t.k=3→t.id∉L1→∀i,RL p (((dfn p t.id).slots.take i).foldl (fun L s=>zAv p m s.typ L) (L1++[t.id])):=fun h3 hin i=>by
  obtain⟨d,hd,hsl⟩:=hd h3;have:dfn p t.id=d:=by simp[dfn,hd]
  rw[this];exact RL.fold (fun(s:Slt) L=>zAv p m s.typ L) _ _ (fun sl hsl' L hL=>(hsl sl (List.mem_of_mem_take hsl') L hL).1) (rl2 h3 hin)
 refine⟨?_,?_⟩
 ·split
  ·rename_i hc;have:=rl3 hc.1 hc.2 (dfn p t.id).slots.length
   rwa [List.take_length]at this
  ·exact rl1
 refine zH Tryz.func46 rfl qM4 (rs:=[]) (by kernel_rfl) ?_;unfold qFK;have hP:=eP p;simp[rS,tS,hP,zB,hn0];intro hl;refine qZ (S:=Nat) (fun i=>[(0,.ptr 0 0),(2,.map 6),(4,.ptr 7 0),(13,.sl t.kids.length (jB t.kids)),(14,int t.kids.length),(15,int i)])
  (fun i=>rS p s ((t.kids.take i).foldl (fun L k=>zAv p m k L) L)++[.box (zB t)]) (fun i=>i≤t.kids.length) (fun i=>t.kids.length-i) 0 (by simp)
  (zS [0,1,2,3,4,5,6,7] 0 (by decide) (by simp) (by simp[rS,tS,hP,zB,hn0]) (by simp)) ?_
 intro i hi;by_cases h:i<t.kids.length
 ·obtain⟨_,hr⟩:=hk t.kids[i] (List.getElem_mem h) _ (rl i);have hst:=zGa (fun L k=>zAv p m k L) L h;generalize (t.kids.take i).foldl (fun L k=>zAv p m k L) L=Li at hr hst ⊢;simp[rS,tS,hP,zB,hn0,h,zCb h];refine zN hr [0,1,2,3,4,5,6] (by decide) (by simp[rS,tS,hP,hn0]) (by simp[zB]) ?_;simp[rS,tS,hP,hn0];exact zT (i+1) h (by omega) (zS [0,1,2,3,4,5,6,7] 0 (by decide) (by simp) (by simp[rS,tS,hP,zB,hn0,hst]) (by simp[qB h hl]))
 ·have hil:i=t.kids.length:=by omega
  subst hil;rw[hall,←hL1];have hLl:=rl1.len hf;have hf1:=zGK (i:=t.id) L1;simp only[zBb]at hf1;by_cases h3:t.k=3
  ·by_cases hin:t.id∈L1
   ·rw[if_pos hin]at hf1;rw[if_neg (by simp[hin])];simp[rS,tS,hP,zB,hn0,h3,hf1];exact zG [0,1,2,3,4,5,6] 0 (by decide) (by simp) (by simp) (by simp)
   ·rw[if_neg hin]at hf1;rw[if_pos ⟨h3,hin⟩];have hp1:=zI9 L1 hin;simp only[zBb]at hp1;obtain⟨d,hdd,hsl⟩:=hd h3;have hdf:dfn p t.id=d:=by simp[dfn,hdd]
    have hdi:=(zAC hdd).2;have rl3:=rl3 h3 hin;have rl2:=rl2 h3 hin;have hnt:=zMU true d.id L1 [] (by omega) (by simp);rw[hdi]at hnt;rw[hdf]at rl3 ⊢;simp[rS,tS,hP,zB,hn0,h3,hf1,hp1];refine zA3 (zE3 p t.id) (by simp[zU,qX]) (by simp[zAL]) ?_;simp[zAL,hdd,zP,hdi];refine zAr hnt [1,2,3,4,5] (by decide) (by simp[nS,zH6]) (by simp[qX]) ?_;simp[nS];intro hls;refine qZ (S:=Nat) (fun i=>[(0,.ptr 0 0),(2,.map 6),(55,.sl d.slots.length (jU d.slots)),(56,int d.slots.length),(57,int i)])
     (fun i=>rS p s ((d.slots.take i).foldl (fun L s=>zAv p m s.typ L) (L1++[t.id]))) (fun i=>i≤d.slots.length) (fun i=>d.slots.length-i) 0 (by simp)
     (zS [0,1,2,3,4,5,6] 0 (by decide) (by simp) (by simp[rS,tS,hP,hn0,jJ]) (by simp)) ?_
    intro i hi;by_cases h:i<d.slots.length
    ·obtain⟨_,hr⟩:=hsl d.slots[i] (List.getElem_mem h) _ (rl3 i);have hst:=zGa (fun L (s:Slt)=>zAv p m s.typ L) (L1++[t.id]) h;generalize (d.slots.take i).foldl (fun L s=>zAv p m s.typ L) (L1++[t.id])=Li at hr hst ⊢;simp[rS,tS,hP,hn0,h,jL h,zAd];refine zN hr [0,1,2,3,4,5,6] (by decide) (by simp[rS,tS,hP,hn0]) (by simp[zB]) ?_;simp[rS,tS,hP,hn0];exact zT (i+1) h (by omega) (zS [0,1,2,3,4,5,6] 0 (by decide) (by simp) (by simp[rS,tS,hP,hn0,hst]) (by simp[qB h hls]))
    ·have hil:i=d.slots.length:=by omega
     subst hil;simp[rS,tS,hP,hn0];exact zG [0,1,2,3,4,5,6] 0 (by decide) (by simp) (by simp) (by simp)
  ·rw[if_neg (by simp[h3])];simp[rS,tS,hP,zB,hn0,h3];exact zG [0,1,2,3,4,5,6] 0 (by decide) (by simp) (by simp) (by simp)
theorem zO9 {p:Prg}{hs:List Hd}(hf:Fit p hs)(s:XS)(hs0:s.ns=[]){r:Nat}{t:Typ}(h:TyOk hs r t):∀n,r<n→zGZ p s n t:=by
 induction h with
 | int r=>intro n hn; obtain⟨m,rfl⟩:∃m,n=m+1:=⟨n-1,by omega⟩; exact zER hf s hs0 m _ (by simp) (by simp)
 | bool r=>intro n hn; obtain⟨m,rfl⟩:∃m,n=m+1:=⟨n-1,by omega⟩; exact zER hf s hs0 m _ (by simp) (by simp)
 | list r t h ih =>
  intro n hn; obtain⟨m,rfl⟩:∃m,n=m+1:=⟨n-1,by omega⟩;refine zER hf s hs0 m _ (fun k hk=>?_) (by simp);simp only[Typ.kids_mk,List.mem_singleton]at hk;subst hk;exact ih m (by omega)
 | dfn r k h h1 h2 h3 h4 ih =>
  intro n hn; obtain⟨m,rfl⟩:∃m,n=m+1:=⟨n-1,by omega⟩;refine zER hf s hs0 m _ (by simp) fun _=>?_
  obtain⟨d,hd,hhd⟩:=hf.hd k h;have e2:d.slots=hs[k].slots:=congrArg Hd.slots hhd;exact⟨d,hd,fun sl hsl=>ih sl (by rw[←e2]; exact hsl) m (by omega)⟩
end Go.Proofs.YthglhccibdlccaaGreatDoor
namespace Go.Abs
theorem zY1 {n0:Nat}{env:Env} {σ : St}{l nk:Nat}{es:List (List Int×A)}(hσ : σ[l]?=some (.mp true nk es)):zBz n0 env (σ.set l (.mp false nk es)) env σ:=by
 intro H0 L0 w0 H L w N tmps h0 h1 h2;have hs:=zIB (o':=.mp false nk es) h1.st hσ (fun li hob=>by simp only[zW]at hob ⊢;obtain⟨g0,b,ents,ck,g1,g2,g3,g4,g5⟩:=hob;exact⟨g0,b,ents,ck,g1,g2,g3,(show qES false ents.toList ck from fun h=>by cases h),g5⟩)
 exact⟨H,L,⟨hs,h1.step,h1.lle,h1.own⟩,h2⟩
theorem zHu {ks:List Int}:∀(l m:List (List Int×A)),zA1 ks (l++m)=(zA1 ks l).or (zA1 ks m)
 | [],m=>rfl
 | p::l,m=>by
  simp only[List.cons_append,zA1];split
  ·rfl
  ·exact zHu l m
end Go.Abs
namespace Go.Proofs.YthglhccibdlccaaGreatDoor
open Go.Abs
def zDA (l:List EVar):List (List Int×A):=l.map fun b=>([b.id.a,b.id.b,b.id.c,b.n],.agg [.lit (.int .i64 b.v.k),.lit (.int .i64 b.v.n),.sl b.v.kids.length (zV b.v.kids)])
@[simp] theorem qKF {rf:Bool→Nat→Nat→A}{g:Nat→Option Nat}(l:List EVar):((zDA l).map fun p=>(p.1,vw rf g p.2))=zDA l:=by
 simp only[zDA,List.map_map];refine List.map_congr_left fun x _=>?_
 simp
def Fr (V:List EVar)(i:Id)(n:Int):Prop:=∀b∈V,¬(b.id=i∧b.n=n)
theorem qBR {a b:Id}{n m:Int}:[a.a,a.b,a.c,n]=[b.a,b.b,b.c,m]↔a=b∧n=m:=by obtain⟨x,y,z⟩:=a;obtain⟨x',y',z'⟩:=b;simp[and_assoc]
theorem zKg {i:Id}{n:Int}:∀{V:List EVar},Fr V i n→zA1 [i.a,i.b,i.c,n] (zDA V)=none
 | [],_=>rfl
 | b::V,h=>by
  have h1:=h b (by simp);have ih:=zKg (V:=V) fun x hx=>h x (by simp[hx])
  simp only[zDA,List.map_cons,zA1]at ih ⊢;rw[if_neg fun e=>h1 (qBR.1 e)];exact ih
theorem zJ9 {i:Id}{n:Int}{v:Val}:∀{V:List EVar},Fr V i n→zDm [i.a,i.b,i.c,n] (.agg [.lit (.int .i64 v.k),.lit (.int .i64 v.n),.sl v.kids.length (zV v.kids)]) (zDA V)=zDA (V++[⟨i,n,v⟩])
 | [],_=>rfl
 | b::V,h=>by
  have h1:=h b (by simp);have ih:=zJ9 (v:=v) (V:=V) fun x hx=>h x (by simp[hx])
  simp only[zDA,List.map_cons,zDm,List.cons_append]at ih ⊢;rw[if_neg fun e=>h1 (qBR.1 e),ih]
theorem zMB {i:Id}{n:Int}{v:Val}:∀{V:List EVar},Fr V i n→zIe [i.a,i.b,i.c,n] (zDA (V++[⟨i,n,v⟩]))=zDA V
 | [],_=>by simp[zDA,zIe]
 | b::V,h=>by
  have h1:=h b (by simp);have ih:=zMB (v:=v) (V:=V) fun x hx=>h x (by simp[hx])
  simp only[zDA,List.map_cons,zIe,List.cons_append]at ih ⊢;rw[if_neg fun e=>h1 (qBR.1 e),ih]
def NdV (V:List EVar):Prop:=V.Pairwise fun a b=>¬(a.id=b.id∧a.n=b.n)
theorem NdV.push {V:List EVar}(h:NdV V){i:Id}{n:Int}{v:Val}(hf:Fr V i n):NdV (V++[⟨i,n,v⟩]):=by unfold NdV;rw[List.pairwise_append];refine⟨h,by simp,fun a ha b hb=>?_⟩;rw[List.mem_singleton.1 hb];exact hf a ha
theorem Fr.of {V:List EVar}{i:Id}(h:∀b∈V,b.id≠i)(n:Int):Fr V i n:=fun b hb e=>h b hb e.1
theorem Fr.push {V:List EVar}{i:Id}(h:∀b∈V,b.id≠i){n m:Int}(hne:m≠n)(v:Val):Fr (V++[⟨i,m,v⟩]) i n:=fun b hb e=>by
 rcases List.mem_append.1 hb with hb | hb
 ·exact h b hb e.1
 ·rw[List.mem_singleton.1 hb]at e;exact hne e.2
theorem EnvT.get {p:Prg}{B:List Bnd}{V:List EVar}(h:EnvT p B V)(hn:NdV V){x:Id}{n:Int}{t:Typ}:zCe B x n=some t →
 zA1 [x.a,x.b,x.c,n] (zDA V)=some (.agg [.lit (.int .i64 (zEf V x n).k),.lit (.int .i64 (zEf V x n).n),.sl (zEf V x n).kids.length (zV (zEf V x n).kids)]):=by
 induction h with
 | nil=>intro h; simp[zCe]at h
 | snoc B V b v h hi hb ht hz ih =>
  intro hl;unfold NdV at hn;rw[List.pairwise_append]at hn;have e:zDA (V++[v])=zDA V++zDA [v]:=by simp[zDA]
  rw[e,zHu,zKf];rw[zEJ]at hl;by_cases hc:b.id=x∧b.n=n
  ·have hv:v.id=x∧v.n=n:=⟨hi.trans hc.1,hb.trans hc.2⟩;have hfr:Fr V x n:=fun y hy e=>hn.2.2 y hy v (by simp) ⟨e.1.trans hv.1.symm,e.2.trans hv.2.symm⟩
   rw[zKg hfr,if_pos hv];simp[zDA,zA1,hv.1,hv.2]
  ·rw[if_neg hc]at hl;rw[if_neg (fun e=>hc ⟨hi.symm.trans e.1,hb.symm.trans e.2⟩),ih hn.1 hl];rfl
@[simp] theorem qOt {z:Value}{a:A}:zF1 z false (some a)=a:=rfl
@[simp] theorem qK3:zF1 (.agg #[(.int .i64 0),(.int .i64 0),(.slice none 0 0)]) true none=.tup [.agg [.lit (.int .i64 0),.lit (.int .i64 0),.nil],.lit (.bool false)]:=by kernel_rfl
def tE (p:Prg)(s:XS)(V:List EVar):St:=tS p s++[.mp false 4 (zDA V)]
def TOk (p:Prg)(r:Val×XS)(e:Exp)(V:List EVar)(s:XS):Prop:=Ret Tryz.prog 93 [.ptr 0 0,.agg (zF e),.map 6] (tE p s V) (.agg (zI r.1)) (tE p r.2 V)
@[simp] theorem qJW:zA Tryz.prog 93=true:=by kernel_rfl
@[simp] theorem qJY:zA Tryz.prog 129=true:=by kernel_rfl
@[simp] theorem qJV:zA Tryz.prog 144=true:=by kernel_rfl
@[simp] theorem qJU:zA Tryz.prog 47=true:=by kernel_rfl
def qFL:K:=G [kO 6 1,kO 8 3,kO 9 4,kZ 10 [ki,ki,kl]] (G [M 15 2,J 16 8 4,⟨none,.mop (some 17) (.get 4 (.agg #[ki,ki,kl]) true) [(kt 15),(kt 16)]⟩,M 14 17,kE 18 14 0,kE 19 14 1,kZ 11 [ki,ki,kl],S 11 18 3,M 12 19] (G [M 20 2,J 21 8 4,J 22 9 3,⟨none,.mop none (.set 4) [(kt 20),(kt 21),(kt 22)]⟩] (G [M 23 0,J 24 6 15,M 25 2,kC 26 93 [(kt 23),(kt 24),(kt 25)],kZ 13 [ki,ki,kl],S 13 26 3] (G [M 27 2,J 28 8 4,⟨none,.mop none (.del 4) [(kt 27),(kt 28)]⟩] (Z (G [M 29 12] (Y 29 (K.ops [M 30 2,J 31 8 4,J 32 11 3,⟨none,.mop none (.set 4) [(kt 30),(kt 31),(kt 32)]⟩]) ks)) (G [J 33 13 3,S 10 33 3] kr))))))
theorem qM5:zL Tryz.prog Tryz.f166.ntmps (Tryz.f166.body.getD .skip)=some qFL.erase:=by kernel_rfl
@[simp] theorem qNM:zA Tryz.prog 166=true:=by kernel_rfl
set_option maxHeartbeats 1000000 in
theorem zKY {p:Prg}(e:Exp)(V:List EVar)(i:Id)(n:Int)(v:Val)(s:XS)(r:Val×XS)(hf:Fr V i n)(h:TOk p r e (V++[⟨i,n,v⟩]) s) :
 Ret Tryz.prog 166 [.ptr 0 0,.agg (zF e),.map 6,.agg [.lit (.int .i64 i.a),.lit (.int .i64 i.b),.lit (.int .i64 i.c),.lit (.int .i64 n)],.agg (zI v)] (tE p s V) (.agg (zI r.1)) (tE p r.2 V):=by
 refine zK Tryz.func166 rfl qM5 (rs:=[.cell 10 3 true]) (by kernel_rfl) ?_;unfold qFL;have hP:=eP p;have h1:=zKg hf;have h2:=zJ9 (v:=v) hf;have h3:=zMB (v:=v) hf;unfold TOk at h;simp[tE,tS,hP,zF,zI,h1,h2];refine zN h [0,1,2,3,4,5,6] (by decide) (by simp[tE,tS,hP]) (by simp[zF]) ?_;simp[tE,tS,hP,zI,h3];exact zG [0,1,2,3,4,5,6] 0 (by decide) (by simp) (by simp) (by simp[zI])
end Go.Proofs.YthglhccibdlccaaGreatDoor

/-
  trace.differ: the IDs that only one of two maps has, or whose things differ; in some order.
  Types of expressions; which definitions the maker may name.
-/
import Derived.Test.YthglhccibdlccaaGreatDoorX26
import Derived.Test.YthglhccibdlccaaGreatDoorX17
import Derived.Test.YthglhccibdlccaaGreatDoorX19
set_option linter.unusedVariables false
set_option linter.unusedSimpArgs false
namespace Go.Proofs.YthglhccibdlccaaGreatDoor
open Go.Abs
def zAY {α : Type}(idf : α→Id)(D:List α)(c : α→Bool)(met:List Nat):List Id:=met.filterMap fun i=>(D[i]?).bind fun x=>if c x then some (idf x) else none
theorem zEr {α : Type}{idf : α→Id}{D:List α}{c : α→Bool}{met:List Nat}{i:Nat}{x : α}(h:D[i]?=some x):zAY idf D c (met++[i])=if c x then zAY idf D c met++[idf x] else zAY idf D c met:=by simp only[zAY,List.filterMap_append,List.filterMap_cons,List.filterMap_nil,h,Option.bind_some];cases c x<;>simp
theorem zNO {α β : Type}{f g : α→Option β}:∀{l:List α},(∀x∈l,f x=g x)→l.filterMap f=l.filterMap g
 | [],_=>rfl
 | x::l,h=>by rw[List.filterMap_cons,List.filterMap_cons,h x (List.mem_cons_self ..),zNO fun y hy=>h y (List.mem_cons_of_mem _ hy)]
theorem zQo {α : Type}{idf : α→Id}{c : α→Bool}(D:List α):zAY idf D c (List.range D.length)=(D.filter c).map idf:=by
 induction D using zBy with
 | nil=>rfl
 | snoc D y ih =>
  have h1:zAY idf (D++[y]) c (List.range D.length)=zAY idf D c (List.range D.length):=by
   unfold zAY;refine zNO fun i hi=>?_
   rw[List.getElem?_append_left (List.mem_range.1 hi)]
  rw[List.length_append,List.length_singleton,List.range_succ,zEr (x:=y) (by simp),h1,ih,List.filter_append,List.map_append];cases hc:c y<;>simp[hc]
structure Met (n:Nat)(met:List Nat):Prop where
 nd:met.Nodup
 lt:∀i∈met,i<n
theorem Met.snoc {n:Nat}{met:List Nat}(h:Met n met){i:Nat}(hi:i<n)(hn:i∉met):Met n (met++[i]):=by
 refine⟨?_,fun j hj=>?_⟩
 ·rw[List.nodup_append];refine⟨h.nd,by simp,fun a ha b hb=>?_⟩;simp only[List.mem_singleton]at hb;subst hb;exact fun e=>hn (e▸ha)
 ·rcases List.mem_append.1 hj with hj | hj
  ·exact h.lt j hj
  ·rw[List.mem_singleton.1 hj]; exact hi
theorem Met.le {n:Nat}{met:List Nat}(h:Met n met):met.length≤n:=by
 have:=h.nd.length_le_of_subset (l₂:=List.range n) fun i hi=>List.mem_range.2 (h.lt i hi)
 simpa using this
theorem Met.perm {n:Nat}{met:List Nat}(h:Met n met)(ha:∀i,i<n→i∈met):met.Perm (List.range n) :=
 (List.perm_ext_iff_of_nodup h.nd List.nodup_range).2 fun i=>⟨fun hi=>List.mem_range.2 (h.lt i hi),fun hi=>ha i (List.mem_range.1 hi)⟩
theorem Met.sel {α : Type}{idf : α→Id}{c : α→Bool}{D:List α}{met:List Nat}(h:Met D.length met)(ha:∀i,i<D.length→i∈met):(zAY idf D c met).Perm ((D.filter c).map idf):=by rw[←zQo];exact(h.perm ha).filterMap _
theorem zH5 {α : Type}{idf : α→Id}{enc : α→List A}{D:List α}{i:Nat}{p:List Int×A}(h:(zBv idf enc D)[i]?=some p):∃x,D[i]?=some x∧p=(zBb (idf x),.agg (enc x)):=by rw[zBv,List.getElem?_map,Option.map_eq_some_iff]at h;obtain⟨x,hx,rfl⟩:=h;exact⟨x,hx,rfl⟩
@[simp] theorem qId {α : Type}{idf : α→Id}{enc : α→List A}{D:List α}:(zBv idf enc D).length=D.length:=by simp[zBv]
def cD1 {α : Type}(idf : α→Id)(D2:List α)(same : α→α→Bool)(x : α):Bool:=match zIr idf D2 (idf x)with
 | some y=>!same x y
 | none=>true
def cD2 {α : Type}(idf : α→Id)(D1:List α)(y : α):Bool:=(zIr idf D1 (idf y)).isNone
def zNF {α : Type}(idf : α→Id)(same : α→α→Bool)(D1 D2:List α):List Id:=(D1.filter (cD1 idf D2 same)).map idf++(D2.filter (cD2 idf D1)).map idf
def zYN:K:=G [kMn 6] (G [kMn 7] (Z (G [M 15 0,⟨none,.mop (some 16) .rng [(kt 15)]⟩] (K.block 0 (K.loop (G [⟨none,.mop (some 17) .nxt [(kt 16)]⟩,kE 18 17 0] (Z (Y 18 ks (K.exit 0)) (K.block 1 (G [⟨none,.mop (some 19) .ent [(kt 16)]⟩,kE 20 19 0,kE 21 19 1,kZ 8 [ki,ki,ki],kZ 9 kz0,S 8 20 3,S 9 21 31] (G [M 23 1,J 24 8 3,⟨none,.mop (some 25) (.get 3 (.agg #[ki,ki,ki,ki,ki,ki,ki,(.string ⟨#[]⟩),kl,ki,ki,ki,ki,kl,ki,ki,ki,ki,ki,ki,ki,ki,ki,ki,ki,ki,kl,kl,kl,ki,kl]) true) [(kt 23),(kt 24)]⟩,M 22 25,kE 26 22 0,kE 27 22 1,kZ 10 kz0,S 10 26 31,M 11 27] (G [M 28 11,kR 29 28,M 30 29,T 30 false (M 31 2),T 30 false (J 32 9 31),T 30 false (J 33 10 31),⟨some (30,false),.call (some 34) (kt 31) [(kt 32),(kt 33)]⟩,T 30 false (kR 35 34),kPt 36 30 35] (Y 36 (K.ops [M 37 7,J 38 8 3,kd 39 29 3 1 [ki,ki,ki] [(0,3,(kt 38))],kP 40 29 3 24 37 39,M 7 40]) ks)))))))))) (Z (G [M 41 1,⟨none,.mop (some 42) .rng [(kt 41)]⟩] (K.block 2 (K.loop (G [⟨none,.mop (some 43) .nxt [(kt 42)]⟩,kE 44 43 0] (Z (Y 44 ks (K.exit 2)) (K.block 3 (G [⟨none,.mop (some 45) .ent [(kt 42)]⟩,kE 46 45 0,kZ 12 [ki,ki,ki],S 12 46 3] (G [M 48 0,J 49 12 3,⟨none,.mop (some 50) (.get 3 (.agg #[ki,ki,ki,ki,ki,ki,ki,(.string ⟨#[]⟩),kl,ki,ki,ki,ki,kl,ki,ki,ki,ki,ki,ki,ki,ki,ki,ki,ki,ki,kl,kl,kl,ki,kl]) true) [(kt 48),(kt 49)]⟩,M 47 50,kE 51 47 0,kE 52 47 1,kZ 13 kz0,S 13 51 31,M 14 52] (G [M 53 14,kR 54 53] (Y 54 (K.ops [M 55 7,J 56 12 3,kd 57 29 3 1 [ki,ki,ki] [(0,3,(kt 56))],kP 58 29 3 24 55 57,M 7 58]) ks)))))))))) (G [M 59 7,M 6 59] kr))))
theorem qGw:zL Tryz.prog Tryz.f56.ntmps (Tryz.f56.body.getD .skip)=some zYN.erase:=by kernel_rfl
@[simp] theorem qJD:zA Tryz.prog 56=true:=by kernel_rfl
set_option maxRecDepth 100000 in
theorem zP3 (g:FuncId)(hcal:zA Tryz.prog g=true)(same:Dfn→Dfn→Bool)(hs:∀x y,Ret Tryz.prog g [.agg (zP x),.agg (zP y)] [] (bl (same x y)) [])(D1 D2:List Dfn)(hl1:D1.length≤1000000)(hl2:D2.length≤1000000) :
 yN Tryz.prog 56 [.map 0,.map 1,.clo g [] []] [.mp true 3 (zBv Dfn.id zP D1),.mp true 3 (zBv Dfn.id zP D2)] fun o τ=>∃l:List Id,l.Perm (zNF Dfn.id same D1 D2)∧o=.ret (.row 2 l.length) ∧
  τ = [.mp true 3 (zBv Dfn.id zP D1),.mp true 3 (zBv Dfn.id zP D2),.row false 29 3 l.length (qF l)]:=by
 refine zIO Tryz.func56 rfl qGw (rs:=[.slot 6]) (by kernel_rfl) ?_;unfold zYN;simp;refine qZ (S:=List Nat) (fun met=>[(0,.map 0),(1,.map 1),(2,.clo g [] []),(7,.row 3 (zAY Dfn.id D1 (cD1 Dfn.id D2 same) met).length),(16,.ptr 2 0)])
  (fun met=>[.mp true 3 (zBv Dfn.id zP D1),.mp true 3 (zBv Dfn.id zP D2),.it 0 D1.length met,.row false 29 3 (zAY Dfn.id D1 (cD1 Dfn.id D2 same) met).length (qF (zAY Dfn.id D1 (cD1 Dfn.id D2 same) met))])
  (fun met=>Met D1.length met) (fun met=>D1.length-met.length) [] ⟨by simp,by simp⟩
  ((yA (t:=7) (by simp) 29 3).trans (zS [0,1,2,3] 0 (by decide) (by simp) (by simp[zAY]) (by simp[zAY]))) ?_
 intro met hmet;simp;have hkb:∀d:Id,zKo (zBb d)=.agg [.lit (.int .i64 d.a),.lit (.int .i64 d.b),.lit (.int .i64 d.c)]:=fun _=>rfl
 refine⟨fun i ks v hi hp=>?_,fun hall=>?_⟩
 ·obtain⟨x,hx,e⟩:=zH5 hp;cases e;refine⟨_,_,hp,?_⟩;have hin:i<D1.length:=(List.getElem?_eq_some_iff.1 hx).1;have hm:=hmet.snoc hin hi;have hle:=hm.le;have hle0:=hmet.le;rw[List.length_append,List.length_singleton]at hle;have hsel:=zEr (idf:=Dfn.id) (c:=cD1 Dfn.id D2 same) (met:=met) hx;have hsl:(zAY Dfn.id D1 (cD1 Dfn.id D2 same) met).length≤met.length:=List.length_filterMap_le _ _;have hf:=zBV (i:=x.id) (enc:=zP) (idf:=Dfn.id) D2;generalize zAY Dfn.id D1 (cD1 Dfn.id D2 same) met=L at hsel hsl ⊢;simp only[zBb]at hf;cases hh:zIr Dfn.id D2 x.id with
  | none =>
   rw[hh]at hf;simp only[Option.map_none]at hf;have hc:cD1 Dfn.id D2 same x=true:=by simp[cD1,hh]
   rw[if_pos hc]at hsel;simp[hkb,zP,hf];refine⟨⟨by simp[maxLen]; omega,by omega⟩,?_⟩;exact zT (met++[i]) hm (by simp; omega) (zS [0,1,2,3] 0 (by decide) (by simp) (by simp[hsel,jJ]) (by simp[hsel]))
  | some y =>
   rw[hh]at hf;simp only[Option.map_some]at hf;simp[hkb,zP,hf,hcal];refine zR (hs x y) (by simp[zP]) (by simp) ?_;cases hxy:same x y with
   | false =>
    have hc:cD1 Dfn.id D2 same x=true:=by simp[cD1,hh,hxy]
    rw[if_pos hc]at hsel;simp;refine⟨⟨by simp[maxLen]; omega,by omega⟩,?_⟩;exact zT (met++[i]) hm (by simp; omega) (zS [0,1,2,3] 0 (by decide) (by simp) (by simp[hsel,jJ]) (by simp[hsel]))
   | true =>
    have hc:cD1 Dfn.id D2 same x=false:=by simp[cD1,hh,hxy]
    rw[if_neg (by simp[hc])]at hsel;simp;exact zT (met++[i]) hm (by simp; omega) (zS [0,1,2,3] 0 (by decide) (by simp) (by simp[hsel]) (by simp[hsel]))
 ·have hperm:=hmet.sel (idf:=Dfn.id) (c:=cD1 Dfn.id D2 same) hall;generalize zAY Dfn.id D1 (cD1 Dfn.id D2 same) met=L at hperm ⊢;have hL:L.length≤D1.length:=by rw[hperm.length_eq,List.length_map]; exact List.length_filter_le _ _
  refine qZ (S:=List Nat) (fun met=>[(0,.map 0),(1,.map 1),(7,.row 2 (L++zAY Dfn.id D2 (cD2 Dfn.id D1) met).length),(42,.ptr 3 0)])
   (fun met=>[.mp true 3 (zBv Dfn.id zP D1),.mp true 3 (zBv Dfn.id zP D2),.row false 29 3 (L++zAY Dfn.id D2 (cD2 Dfn.id D1) met).length (qF (L++zAY Dfn.id D2 (cD2 Dfn.id D1) met)),.it 1 D2.length met])
   (fun met=>Met D2.length met) (fun met=>D2.length-met.length) [] ⟨by simp,by simp⟩
   (zS [0,1,3,4] 0 (by decide) (by simp) (by simp[zAY]) (by simp[zAY])) ?_
  clear hmet hall met;intro met hmet;simp;refine⟨fun i ks v hi hp=>?_,fun hall=>?_⟩
  ·obtain⟨x,hx,e⟩:=zH5 hp;cases e;refine⟨_,_,hp,?_⟩;have hin:i<D2.length:=(List.getElem?_eq_some_iff.1 hx).1;have hm:=hmet.snoc hin hi;have hle:=hm.le;have hle0:=hmet.le;rw[List.length_append,List.length_singleton]at hle;have hsel:=zEr (idf:=Dfn.id) (c:=cD2 Dfn.id D1) (met:=met) hx;have hsl:(zAY Dfn.id D2 (cD2 Dfn.id D1) met).length≤met.length:=List.length_filterMap_le _ _;have hf:=zBV (i:=x.id) (enc:=zP) (idf:=Dfn.id) D1;generalize zAY Dfn.id D2 (cD2 Dfn.id D1) met=M at hsel hsl ⊢;simp only[zBb]at hf;cases hh:zIr Dfn.id D1 x.id with
   | none =>
    rw[hh]at hf;simp only[Option.map_none]at hf;have hc:cD2 Dfn.id D1 x=true:=by simp[cD2,hh]
    rw[if_pos hc]at hsel;simp[hkb,hf];refine⟨⟨by simp[maxLen]; omega,by omega⟩,?_⟩;exact zT (met++[i]) hm (by simp; omega) (zS [0,1,2,3] 0 (by decide) (by simp) (by simp[hsel,jJ,Nat.add_assoc]) (by simp[hsel,Nat.add_assoc]))
   | some y =>
    rw[hh]at hf;simp only[Option.map_some]at hf;have hc:cD2 Dfn.id D1 x=false:=by simp[cD2,hh]
    rw[if_neg (by simp[hc])]at hsel;simp[hkb,zP,hf];exact zT (met++[i]) hm (by simp; omega) (zS [0,1,2,3] 0 (by decide) (by simp) (by simp[hsel]) (by simp[hsel]))
  ·have hperm2:=hmet.sel (idf:=Dfn.id) (c:=cD2 Dfn.id D1) hall;generalize zAY Dfn.id D2 (cD2 Dfn.id D1) met=M at hperm2 ⊢;refine⟨L++M,hperm.append hperm2,?_⟩;exact zG [0,1,2] 0 (by decide) (by simp) (by simp) (by simp)
def zYO:K:=G [kMn 6] (G [kMn 7] (Z (G [M 15 0,⟨none,.mop (some 16) .rng [(kt 15)]⟩] (K.block 0 (K.loop (G [⟨none,.mop (some 17) .nxt [(kt 16)]⟩,kE 18 17 0] (Z (Y 18 ks (K.exit 0)) (K.block 1 (G [⟨none,.mop (some 19) .ent [(kt 16)]⟩,kE 20 19 0,kE 21 19 1,kZ 8 [ki,ki,ki],kZ 9 kz1,S 8 20 3,S 9 21 15] (G [M 23 1,J 24 8 3,⟨none,.mop (some 25) (.get 3 (.agg #[ki,ki,ki,ki,ki,ki,ki,ki,ki,ki,ki,ki,kl,kl,kl]) true) [(kt 23),(kt 24)]⟩,M 22 25,kE 26 22 0,kE 27 22 1,kZ 10 kz1,S 10 26 15,M 11 27] (G [M 28 11,kR 29 28,M 30 29,T 30 false (M 31 2),T 30 false (J 32 9 15),T 30 false (J 33 10 15),⟨some (30,false),.call (some 34) (kt 31) [(kt 32),(kt 33)]⟩,T 30 false (kR 35 34),kPt 36 30 35] (Y 36 (K.ops [M 37 7,J 38 8 3,kd 39 29 3 1 [ki,ki,ki] [(0,3,(kt 38))],kP 40 29 3 24 37 39,M 7 40]) ks)))))))))) (Z (G [M 41 1,⟨none,.mop (some 42) .rng [(kt 41)]⟩] (K.block 2 (K.loop (G [⟨none,.mop (some 43) .nxt [(kt 42)]⟩,kE 44 43 0] (Z (Y 44 ks (K.exit 2)) (K.block 3 (G [⟨none,.mop (some 45) .ent [(kt 42)]⟩,kE 46 45 0,kZ 12 [ki,ki,ki],S 12 46 3] (G [M 48 0,J 49 12 3,⟨none,.mop (some 50) (.get 3 (.agg #[ki,ki,ki,ki,ki,ki,ki,ki,ki,ki,ki,ki,kl,kl,kl]) true) [(kt 48),(kt 49)]⟩,M 47 50,kE 51 47 0,kE 52 47 1,kZ 13 kz1,S 13 51 15,M 14 52] (G [M 53 14,kR 54 53] (Y 54 (K.ops [M 55 7,J 56 12 3,kd 57 29 3 1 [ki,ki,ki] [(0,3,(kt 56))],kP 58 29 3 24 55 57,M 7 58]) ks)))))))))) (G [M 59 7,M 6 59] kr))))
theorem qGx:zL Tryz.prog Tryz.f58.ntmps (Tryz.f58.body.getD .skip)=some zYO.erase:=by kernel_rfl
@[simp] theorem qJE:zA Tryz.prog 58=true:=by kernel_rfl
set_option maxRecDepth 100000 in
theorem zP4 (g:FuncId)(hcal:zA Tryz.prog g=true)(same:Exp→Exp→Bool)(hs:∀x y,Ret Tryz.prog g [.agg (zF x),.agg (zF y)] [] (bl (same x y)) [])(D1 D2:List Exp)(hl1:D1.length≤1000000)(hl2:D2.length≤1000000) :
 yN Tryz.prog 58 [.map 0,.map 1,.clo g [] []] [.mp true 3 (zBv Exp.id zF D1),.mp true 3 (zBv Exp.id zF D2)] fun o τ=>∃l:List Id,l.Perm (zNF Exp.id same D1 D2)∧o=.ret (.row 2 l.length) ∧
  τ = [.mp true 3 (zBv Exp.id zF D1),.mp true 3 (zBv Exp.id zF D2),.row false 29 3 l.length (qF l)]:=by
 refine zIO Tryz.func58 rfl qGx (rs:=[.slot 6]) (by kernel_rfl) ?_;unfold zYO;simp;refine qZ (S:=List Nat) (fun met=>[(0,.map 0),(1,.map 1),(2,.clo g [] []),(7,.row 3 (zAY Exp.id D1 (cD1 Exp.id D2 same) met).length),(16,.ptr 2 0)])
  (fun met=>[.mp true 3 (zBv Exp.id zF D1),.mp true 3 (zBv Exp.id zF D2),.it 0 D1.length met,.row false 29 3 (zAY Exp.id D1 (cD1 Exp.id D2 same) met).length (qF (zAY Exp.id D1 (cD1 Exp.id D2 same) met))])
  (fun met=>Met D1.length met) (fun met=>D1.length-met.length) [] ⟨by simp,by simp⟩
  ((yA (t:=7) (by simp) 29 3).trans (zS [0,1,2,3] 0 (by decide) (by simp) (by simp[zAY]) (by simp[zAY]))) ?_
 intro met hmet;simp;have hkb:∀d:Id,zKo (zBb d)=.agg [.lit (.int .i64 d.a),.lit (.int .i64 d.b),.lit (.int .i64 d.c)]:=fun _=>rfl
 refine⟨fun i ks v hi hp=>?_,fun hall=>?_⟩
 ·obtain⟨x,hx,e⟩:=zH5 hp;cases e;refine⟨_,_,hp,?_⟩;have hin:i<D1.length:=(List.getElem?_eq_some_iff.1 hx).1;have hm:=hmet.snoc hin hi;have hle:=hm.le;have hle0:=hmet.le;rw[List.length_append,List.length_singleton]at hle;have hsel:=zEr (idf:=Exp.id) (c:=cD1 Exp.id D2 same) (met:=met) hx;have hsl:(zAY Exp.id D1 (cD1 Exp.id D2 same) met).length≤met.length:=List.length_filterMap_le _ _;have hf:=zBV (i:=x.id) (enc:=zF) (idf:=Exp.id) D2;generalize zAY Exp.id D1 (cD1 Exp.id D2 same) met=L at hsel hsl ⊢;simp only[zBb]at hf;cases hh:zIr Exp.id D2 x.id with
  | none =>
   rw[hh]at hf;simp only[Option.map_none]at hf;have hc:cD1 Exp.id D2 same x=true:=by simp[cD1,hh]
   rw[if_pos hc]at hsel;simp[hkb,zF,hf];refine⟨⟨by simp[maxLen]; omega,by omega⟩,?_⟩;exact zT (met++[i]) hm (by simp; omega) (zS [0,1,2,3] 0 (by decide) (by simp) (by simp[hsel,jJ]) (by simp[hsel]))
  | some y =>
   rw[hh]at hf;simp only[Option.map_some]at hf;simp[hkb,zF,hf,hcal];refine zR (hs x y) (by simp[zF]) (by simp) ?_;cases hxy:same x y with
   | false =>
    have hc:cD1 Exp.id D2 same x=true:=by simp[cD1,hh,hxy]
    rw[if_pos hc]at hsel;simp;refine⟨⟨by simp[maxLen]; omega,by omega⟩,?_⟩;exact zT (met++[i]) hm (by simp; omega) (zS [0,1,2,3] 0 (by decide) (by simp) (by simp[hsel,jJ]) (by simp[hsel]))
   | true =>
    have hc:cD1 Exp.id D2 same x=false:=by simp[cD1,hh,hxy]
    rw[if_neg (by simp[hc])]at hsel;simp;exact zT (met++[i]) hm (by simp; omega) (zS [0,1,2,3] 0 (by decide) (by simp) (by simp[hsel]) (by simp[hsel]))
 ·have hperm:=hmet.sel (idf:=Exp.id) (c:=cD1 Exp.id D2 same) hall;generalize zAY Exp.id D1 (cD1 Exp.id D2 same) met=L at hperm ⊢;have hL:L.length≤D1.length:=by rw[hperm.length_eq,List.length_map]; exact List.length_filter_le _ _
  refine qZ (S:=List Nat) (fun met=>[(0,.map 0),(1,.map 1),(7,.row 2 (L++zAY Exp.id D2 (cD2 Exp.id D1) met).length),(42,.ptr 3 0)])
   (fun met=>[.mp true 3 (zBv Exp.id zF D1),.mp true 3 (zBv Exp.id zF D2),.row false 29 3 (L++zAY Exp.id D2 (cD2 Exp.id D1) met).length (qF (L++zAY Exp.id D2 (cD2 Exp.id D1) met)),.it 1 D2.length met])
   (fun met=>Met D2.length met) (fun met=>D2.length-met.length) [] ⟨by simp,by simp⟩
   (zS [0,1,3,4] 0 (by decide) (by simp) (by simp[zAY]) (by simp[zAY])) ?_
  clear hmet hall met;intro met hmet;simp;refine⟨fun i ks v hi hp=>?_,fun hall=>?_⟩
  ·obtain⟨x,hx,e⟩:=zH5 hp;cases e;refine⟨_,_,hp,?_⟩;have hin:i<D2.length:=(List.getElem?_eq_some_iff.1 hx).1;have hm:=hmet.snoc hin hi;have hle:=hm.le;have hle0:=hmet.le;rw[List.length_append,List.length_singleton]at hle;have hsel:=zEr (idf:=Exp.id) (c:=cD2 Exp.id D1) (met:=met) hx;have hsl:(zAY Exp.id D2 (cD2 Exp.id D1) met).length≤met.length:=List.length_filterMap_le _ _;have hf:=zBV (i:=x.id) (enc:=zF) (idf:=Exp.id) D1;generalize zAY Exp.id D2 (cD2 Exp.id D1) met=M at hsel hsl ⊢;simp only[zBb]at hf;cases hh:zIr Exp.id D1 x.id with
   | none =>
    rw[hh]at hf;simp only[Option.map_none]at hf;have hc:cD2 Exp.id D1 x=true:=by simp[cD2,hh]
    rw[if_pos hc]at hsel;simp[hkb,hf];refine⟨⟨by simp[maxLen]; omega,by omega⟩,?_⟩;exact zT (met++[i]) hm (by simp; omega) (zS [0,1,2,3] 0 (by decide) (by simp) (by simp[hsel,jJ,Nat.add_assoc]) (by simp[hsel,Nat.add_assoc]))
   | some y =>
    rw[hh]at hf;simp only[Option.map_some]at hf;have hc:cD2 Exp.id D1 x=false:=by simp[cD2,hh]
    rw[if_neg (by simp[hc])]at hsel;simp[hkb,zF,hf];exact zT (met++[i]) hm (by simp; omega) (zS [0,1,2,3] 0 (by decide) (by simp) (by simp[hsel]) (by simp[hsel]))
  ·have hperm2:=hmet.sel (idf:=Exp.id) (c:=cD2 Exp.id D1) hall;generalize zAY Exp.id D2 (cD2 Exp.id D1) met=M at hperm2 ⊢;refine⟨L++M,hperm.append hperm2,?_⟩;exact zG [0,1,2] 0 (by decide) (by simp) (by simp) (by simp)
structure Hd where
 id:Id
 kind:Int
 slots:List Slt
 res:Typ
def Dfn.hd (d:Dfn):Hd:=⟨d.id,d.kind,d.slots,d.res⟩
abbrev jK:Typ:=.mk 0 Id.zero []
abbrev jT:Typ:=.mk 1 Id.zero []
abbrev jM (t:Typ):Typ:=.mk 2 Id.zero [t]
abbrev zBm (d:Id):Typ:=.mk 3 d []
inductive TyOk (hs:List Hd):Nat→Typ→Prop
 | int (r:Nat):TyOk hs r jK
 | bool (r:Nat):TyOk hs r jT
 | list (r:Nat) (t:Typ) (h:TyOk hs r t):TyOk hs (r+1) (jM t)
 | dfn (r k:Nat) (h:k<hs.length) (h1:∀(j:Nat) (hj:j<k),hs[j].id≠hs[k].id) (h2:hs[k].kind=0∨hs[k].kind=1∧0<hs[k].slots.length) (h3:hs[k].slots.length≤6)
  (h4:∀s∈hs[k].slots,TyOk hs r s.typ):TyOk hs (r+1) (zBm hs[k].id)
theorem TyOk.mono {hs:List Hd}{r r':Nat}{t:Typ}(h:TyOk hs r t)(hr:r≤r'):TyOk hs r' t:=by
 induction h generalizing r' with
 | int r=>exact .int _
 | bool r=>exact .bool _
 | list r t h ih =>
  obtain⟨q,rfl⟩:∃q,r'=q+1:=⟨r'-1,by omega⟩;exact .list _ _ (ih (by omega))
 | dfn r k h h1 h2 h3 h4 ih =>
  obtain⟨q,rfl⟩:∃q,r'=q+1:=⟨r'-1,by omega⟩;exact .dfn _ k h h1 h2 h3 fun s hs'=>ih s hs' (by omega)
def zCe (env:List Bnd)(x:Id)(n:Int):Option Typ:=(env.reverse.find? fun b=>decide (b.id=x)&&decide (b.n=n)).map (·.typ)
inductive WT (hs:List Hd)(own:Int):List Bnd→Exp→Typ→Prop
 | int (env i n) (h1 : -1099511627776≤n) (h2:n≤1099511627776):WT hs own env (.mk i 0 n Id.zero Typ.zero [] []) jK
 | bool (env i n) (h:n=0∨n=1):WT hs own env (.mk i 1 n Id.zero Typ.zero [] []) jT
 | var (env i n x t) (h:zCe env x n=some t):WT hs own env (.mk i 2 n x Typ.zero [] []) t
 | call (env i) (k:Nat) (h:k<hs.length) (ks) (ho:(k:Int)<own) (hk:hs[k].kind=2) (hl:ks.length=hs[k].slots.length) (hw:∀(j:Nat) (hj:j<ks.length),WT hs own env ks[j] (hs[k].slots[j]'(hl▸hj)).typ) :
  WT hs own env (.mk i 3 0 hs[k].id Typ.zero ks []) hs[k].res
 | arith (env i n a b) (h1:0≤n) (h2:n≤4) (ha:WT hs own env a jK) (hb:WT hs own env b jK):WT hs own env (.mk i 4 n Id.zero Typ.zero [a,b] []) jK
 | less (env i a b) (ha:WT hs own env a jK) (hb:WT hs own env b jK):WT hs own env (.mk i 4 5 Id.zero Typ.zero [a,b] []) jT
 | same (env i a b u) (ha:WT hs own env a u) (hb:WT hs own env b u):WT hs own env (.mk i 4 6 Id.zero Typ.zero [a,b] []) jT
 | andor (env i n a b) (h:n=7∨n=8) (ha:WT hs own env a jT) (hb:WT hs own env b jT):WT hs own env (.mk i 4 n Id.zero Typ.zero [a,b] []) jT
 | not (env i a) (ha:WT hs own env a jT):WT hs own env (.mk i 4 9 Id.zero Typ.zero [a] []) jT
 | join (env i a b t) (ha:WT hs own env a (jM t)) (hb:WT hs own env b (jM t)):WT hs own env (.mk i 4 10 Id.zero Typ.zero [a,b] []) (jM t)
 | len (env i a t) (ha:WT hs own env a (jM t)):WT hs own env (.mk i 4 11 Id.zero Typ.zero [a] []) jK
 | ite (env i a b c t) (ha:WT hs own env a jT) (hb:WT hs own env b t) (hc:WT hs own env c t):WT hs own env (.mk i 5 0 Id.zero Typ.zero [a,b,c] []) t
 | lets (env i a b u t ns) (hn:ns.length≤10) (ha:WT hs own env a u) (hb:WT hs own (env++[⟨i,0,u⟩]) b t):WT hs own env (.mk i 6 0 Id.zero Typ.zero [a,b] ns) t
 | record (env i) (k:Nat) (h:k<hs.length) (ks) (hk:hs[k].kind=0) (hl:ks.length=hs[k].slots.length) (hw:∀(j:Nat) (hj:j<ks.length),WT hs own env ks[j] (hs[k].slots[j]'(hl▸hj)).typ) :
  WT hs own env (.mk i 7 0 hs[k].id Typ.zero ks []) (zBm hs[k].id)
 | field (env i) (k:Nat) (h:k<hs.length) (j:Nat) (hj:j<hs[k].slots.length) (a) (hk:hs[k].kind=0) (ha:WT hs own env a (zBm hs[k].id)):WT hs own env (.mk i 8 j hs[k].id Typ.zero [a] []) hs[k].slots[j].typ
 | case (env i) (k:Nat) (h:k<hs.length) (j:Nat) (hj:j<hs[k].slots.length) (a) (hk:hs[k].kind=1) (ha:WT hs own env a hs[k].slots[j].typ):WT hs own env (.mk i 9 j hs[k].id Typ.zero [a] []) (zBm hs[k].id)
 | mtch (env i) (k:Nat) (h:k<hs.length) (a ks t ns) (hn:ns.length≤10) (hk:hs[k].kind=1) (hl:ks.length=hs[k].slots.length) (ha:WT hs own env a (zBm hs[k].id))
  (hw:∀(j:Nat) (hj:j<ks.length),WT hs own (env++[⟨i,j,(hs[k].slots[j]'(hl▸hj)).typ⟩]) ks[j] t):WT hs own env (.mk i 10 0 hs[k].id Typ.zero (a::ks) ns) t
 | list (env i t ks) (hw:∀(j:Nat) (hj:j<ks.length),WT hs own env ks[j] t):WT hs own env (.mk i 11 0 Id.zero t ks []) (jM t)
 | fold (env i l s b u t ns) (hn:ns.length≤10) (hl:WT hs own env l (jM u)) (hs':WT hs own env s t) (hb:WT hs own (env++[⟨i,0,u⟩]++[⟨i,1,t⟩]) b t):WT hs own env (.mk i 12 0 Id.zero Typ.zero [l,s,b] ns) t
mutual
def tmps:Exp→List Int
 | .mk i _ _ _ _ ks _=>jX ks++[i.c]
def jX:List Exp→List Int
 | []=>[]
 | e::l=>tmps e++jX l
end
mutual
def Exp.num0:Exp→Prop
 | .mk i _ _ _ _ ks _=>(i.a=0∧i.b=0)∧zOy ks
def zOy:List Exp→Prop
 | []=>True
 | e::l=>e.num0∧zOy l
end
theorem zI0:∀l:List Exp,zOy l↔∀e∈l,e.num0
 | []=>by simp[zOy]
 | e::l=>by simp[zOy,zI0 l]
theorem zCt {c k n:Int}{r:Id}{t:Typ}{ks:List Exp}{ns:List ByteArray}(h:∀e∈ks,e.num0):(Exp.mk ⟨0,0,c⟩ k n r t ks ns).num0:=by simp only[Exp.num0,zI0,true_and]; exact h
theorem zGj {c k n:Int}{r:Id}{t:Typ}{ns:List ByteArray}:(Exp.mk ⟨0,0,c⟩ k n r t [] ns).num0:=zCt (by simp)
theorem zH9 {es:List Exp}{n:Nat}(hn:es.length=n)(h:∀(j:Nat)(_:j<es.length),es[j].num0):∀e∈es,e.num0:=fun e he=>by obtain⟨j,hj,rfl⟩:=List.getElem_of_mem he;exact h j hj
structure Seg (lo hi:Int)(l:List Int):Prop where
 nd:l.Nodup
 rng:∀x∈l,lo≤x∧x<hi
theorem Seg.append {a b c:Int}{l l':List Int}(h:Seg a b l)(h':Seg b c l')(hab:a≤b)(hbc:b≤c):Seg a c (l++l'):=by
 refine⟨List.nodup_append.2 ⟨h.nd,h'.nd,fun x hx y hy e=>?_⟩,fun x hx=>?_⟩
 ·have h1:=h.rng x hx;have h2:=h'.rng y hy;omega
 ·rcases List.mem_append.1 hx with hx | hx
  ·have:=h.rng x hx; omega
  ·have:=h'.rng x hx; omega
theorem Seg.perm {a b:Int}{l l':List Int}(h:Seg a b l)(hp:l.Perm l'):Seg a b l':=⟨hp.nodup_iff.1 h.nd,fun x hx=>h.rng x (hp.mem_iff.2 hx)⟩
theorem Seg.one (a:Int):Seg a (a+1) [a]:=⟨by simp,fun x hx=>by simp at hx; omega⟩
theorem Seg.nil {a b:Int}:Seg a b []:=⟨by simp,fun x hx=>by simp at hx⟩
theorem Seg.mono {a b a' b':Int}{l:List Int}(h:Seg a b l)(h1:a'≤a)(h2:b≤b'):Seg a' b' l:=⟨h.nd,fun x hx=>by have:=h.rng x hx; omega⟩
structure Adv (m m':Mk)(c:Int):Prop where
 mods:m'.mods=m.mods
 defs:m'.defs=m.defs
 l:m'.l=m.l
 own:m'.own=m.own
 home:m'.home=m.home
 at1:m.at_≤m'.at_
 at2:m'.at_≤m.at_+c
 temp1:m.temp≤m'.temp
 temp2:m'.temp≤m.temp+c
 left1:m.left-c≤m'.left
 left2:m'.left≤m.left
 name1:m.name≤m'.name
 name2:m'.name≤m.name+c
theorem Adv.trans {m m1 m2:Mk}{c c':Int}(h:Adv m m1 c)(k:Adv m1 m2 c'):Adv m m2 (c+c'):=by obtain⟨h1,h2,h3,h4,h5,h6,h7,h8,h9,h10,h11,h12,h13⟩:=h;obtain⟨k1,k2,k3,k4,k5,k6,k7,k8,k9,k10,k11,k12,k13⟩:=k;exact⟨k1.trans h1,k2.trans h2,k3.trans h3,k4.trans h4,k5.trans h5,by omega,by omega,by omega,by omega,by omega,by omega,by omega,by omega⟩
theorem Adv.mono {m m1:Mk}{c c':Int}(h:Adv m m1 c)(hc:c≤c'):Adv m m1 c':=by obtain⟨h1,h2,h3,h4,h5,h6,h7,h8,h9,h10,h11,h12,h13⟩:=h;exact⟨h1,h2,h3,h4,h5,by omega,by omega,by omega,by omega,by omega,by omega,by omega,by omega⟩
structure Lim (m:Mk)(c:Int):Prop where
 at1:0≤m.at_
 at2:m.at_+c≤1000000000000000
 temp1:0≤m.temp
 temp2:m.temp+c≤1000000000000000
 left1 : -1000000000000000≤m.left-c
 left2:m.left≤1000000000000000
 name1:0≤m.name
 name2:m.name+c≤1000000000000000
theorem Lim.adv {m m1:Mk}{c c':Int}(h:Lim m (c+c'))(k:Adv m m1 c):Lim m1 c':=by obtain⟨h1,h2,h3,h4,h5,h6,h7,h8⟩:=h;obtain⟨k1,k2,k3,k4,k5,k6,k7,k8,k9,k10,k11,k12,k13⟩:=k;exact⟨by omega,by omega,by omega,by omega,by omega,by omega,by omega,by omega⟩
theorem Lim.mono {m:Mk}{c c':Int}(h:Lim m c)(hc:c'≤c):Lim m c':=by obtain⟨h1,h2,h3,h4,h5,h6,h7,h8⟩:=h;exact⟨by omega,by omega,by omega,by omega,by omega,by omega,by omega,by omega⟩
theorem yR (m:Mk):Adv m {m with temp:=m.temp+1,left:=m.left-1} 1:=⟨rfl,rfl,rfl,rfl,rfl,by simp,by simp; omega,by simp; omega,by simp,by simp,by simp; omega,by simp,by simp; omega⟩
theorem zQJ (m:Mk):Adv m {m with at_:=m.at_+1} 1:=⟨rfl,rfl,rfl,rfl,rfl,by simp; omega,by simp,by simp,by simp; omega,by simp; omega,by simp,by simp,by simp; omega⟩
theorem zHc (m:Mk):Adv m {m with name:=m.name+1} 1:=⟨rfl,rfl,rfl,rfl,rfl,by simp,by simp; omega,by simp,by simp; omega,by simp; omega,by simp,by simp; omega,by simp⟩
structure Cx (hs:List Hd)(R:Nat)(m:Mk):Prop where
 heads:m.defs.map Dfn.hd=hs
 len:hs.length≤100
 len0:0<hs.length
 mods:0<m.mods.length
 nums:∀x∈m.l,w64 x=x
 own:m.own≤1000
 typs:∀(k:Nat) (h:k<hs.length),hs[k].kind=0∨hs[k].kind=1→TyOk hs R (zBm hs[k].id)
 slots:∀(k:Nat) (h:k<hs.length),hs[k].slots.length≤6∧∀s∈hs[k].slots,TyOk hs R s.typ
theorem Cx.adv {hs:List Hd}{R:Nat}{m m':Mk}{c:Int}(h:Cx hs R m)(k:Adv m m' c):Cx hs R m':=by obtain⟨h1,h2,h3,h4,h5,h6,h7,h8⟩:=h;exact⟨by rw[k.defs]; exact h1,h2,h3,by rw[k.mods]; exact h4,by rw[k.l]; exact h5,by rw[k.own]; exact h6,h7,h8⟩
theorem Cx.dlen {hs:List Hd}{R:Nat}{m:Mk}(h:Cx hs R m):m.defs.length=hs.length:=by rw[←h.heads,List.length_map]
theorem Cx.get {hs:List Hd}{R:Nat}{m:Mk}(h:Cx hs R m){k:Nat}(hk:k<m.defs.length):hs[k]'(h.dlen▸hk)=m.defs[k].hd:=by obtain⟨rfl,_⟩:=h;simp
structure EnvOk (hs:List Hd)(R:Nat)(temp:Int)(env:List Bnd):Prop where
 typs:∀b∈env,TyOk hs R b.typ
 nd:env.Pairwise fun b c=>¬(b.id=c.id∧b.n=c.n)
 new:∀b∈env,b.id.b=0→b.id.c<temp
theorem EnvOk.mono {hs:List Hd}{R:Nat}{temp temp':Int}{env:List Bnd}(h:EnvOk hs R temp env)(ht:temp≤temp'):EnvOk hs R temp' env:=⟨h.typs,h.nd,fun b hb h0=>by have:=h.new b hb h0; omega⟩
theorem EnvOk.snoc {hs:List Hd}{R:Nat}{temp:Int}{env:List Bnd}(h:EnvOk hs R temp env)(c n:Int)(t:Typ)(ht:TyOk hs R t)(hc:∀b∈env,b.id=⟨0,0,c⟩→b.n≠n)(hct:c<temp):EnvOk hs R temp (env++[⟨⟨0,0,c⟩,n,t⟩]):=by
 refine⟨fun b hb=>?_,?_,fun b hb h0=>?_⟩
 ·rcases List.mem_append.1 hb with hb | hb
  ·exact h.typs b hb
  ·rw[List.mem_singleton.1 hb]; exact ht
 ·rw[List.pairwise_append];refine⟨h.nd,by simp,fun b hb c' hc'=>?_⟩;rw[List.mem_singleton.1 hc'];exact fun e=>hc b hb e.1 e.2
 ·rcases List.mem_append.1 hb with hb | hb
  ·exact h.new b hb h0
  ·rw[List.mem_singleton.1 hb]; exact hct
theorem zMe {env:List Bnd}(h:env.Pairwise fun b c=>¬(b.id=c.id∧b.n=c.n)){b:Bnd}(hb:b∈env):zCe env b.id b.n=some b.typ:=by
 induction env using zBy with
 | nil=>simp at hb
 | snoc l y ih =>
  rw[List.pairwise_append]at h;unfold zCe;rw[List.reverse_append];simp only[List.reverse_cons,List.reverse_nil,List.nil_append,List.singleton_append,List.find?_cons];rcases List.mem_append.1 hb with hb' | hb'
  ·have hne:=h.2.2 b hb' y (by simp);have:(decide (y.id=b.id)&&decide (y.n=b.n))=false:=by
    rw[Bool.and_eq_false_iff];by_cases e:y.id=b.id
    ·right;rw[decide_eq_false_iff_not];exact fun e'=>hne ⟨e.symm,e'.symm⟩
    ·left; simpa using e
   rw[this];exact ih h.1 hb'
  ·rw[List.mem_singleton.1 hb'];simp
def zGW (m:Mk)(k:Nat):Bool:=match m.defs[k]? with
 | some d=>decide ((k:Int)<m.own)&&(decide (d.mod=m.home)||decide (d.mod=(m.mods.headD ⟨Id.zero,⟨#[]⟩,[],[]⟩).id))
 | none=>false
theorem zYz {m:Mk}{k:Nat}(h:zGW m k=true):(k:Int)<m.own:=by
 unfold zGW at h;split at h
 ·rw[Bool.and_eq_true]at h; exact of_decide_eq_true h.1
 ·cases h
theorem zLb (m:Mk)(k:Nat)(hk:k<m.defs.length)(hm:0<m.mods.length):Ret Tryz.prog 119 [.ptr 0 0,int k] (mkS m) (bl (zGW m k)) (mkS m):=by
 refine zK Tryz.func119 rfl qME (rs:=[.slot 4]) (by kernel_rfl) ?_;unfold qFU;have hd:=yB hk;have hb31:k*31+31≤m.defs.length*31:=by omega
 have hv:zGW m k=(decide ((k:Int)<m.own)&&(decide (m.defs[k].mod=m.home)||decide (m.defs[k].mod=(m.mods.headD ⟨Id.zero,⟨#[]⟩,[],[]⟩).id))):=by unfold zGW; rw[List.getElem?_eq_getElem hk]
 cases hmm:m.mods with
 | nil=>rw[hmm]at hm; simp at hm
 | cons m0 M =>
  rw[hmm]at hv;simp only[List.headD_cons]at hv;simp[mkS,mkB,hk,hd,hb31,zP,hmm,zCa,zDV];by_cases h1:(k:Int)<m.own
  ·by_cases h2:m.defs[k].mod=m.home
   ·simp[h1,h2];exact zG [0,1] 0 (by decide) (by simp) (by simp[hmm,zCa,zDV]) (by simp[hv,h1,h2])
   ·have e2:zCf m.defs[k].mod.a m.defs[k].mod.b m.defs[k].mod.c m.home.a m.home.b m.home.c=false:=by rw[zAX]; exact decide_eq_false h2
    simp[h1,e2];exact zG [0,1] 0 (by decide) (by simp) (by simp[hmm,zCa,zDV]) (by simp[hv,h1,h2]<;>congr)
  ·simp[h1];exact zG [0,1] 0 (by decide) (by simp) (by simp[hmm,zCa,zDV]) (by simp[hv,h1])
def zJg (m:Mk)(kind:Int)(k:Nat):Bool:=(match m.defs[k]? with
 | some d=>decide (d.kind=kind)
 | none=>false)&&zGW m k
def ofV (m:Mk)(kind:Int)(x:Nat):Int:=match (List.range m.defs.length).find? fun i=>zJg m kind ((x+i) % m.defs.length)with
 | some i=>(((x+i) % m.defs.length:Nat):Int)
 | none=>-1
theorem zSK {n i:Nat}{p:Nat→Bool}(h:i<n)(hp:p i=true)(hn:∀j<i,p j=false):(List.range n).find? p=some i:=by rw[List.find?_range_eq_some];exact⟨hp,by simpa using h,fun j hj=>by simpa using hn j hj⟩
theorem zQd {n:Nat}{p:Nat→Bool}(hn:∀j<n,p j=false):(List.range n).find? p=none:=by
 rw[List.find?_eq_none];intro x hx
 simpa using hn x (by simpa using hx)
theorem zYa (m:Mk)(kind:Int)(x:Nat):ofV m kind x = -1∨∃k:Nat,∃h:k<m.defs.length,ofV m kind x=k∧m.defs[k].kind=kind∧zGW m k=true:=by
 unfold ofV;split
 ·rename_i i hi;right;have hp:=List.find?_some hi;have hlt:0<m.defs.length:=by have:=List.mem_range.1 (List.mem_of_find?_eq_some hi);omega
  have hk:=Nat.mod_lt (x+i) hlt;refine⟨_,hk,rfl,?_⟩;unfold zJg at hp;rw[List.getElem?_eq_getElem hk]at hp
  simpa using hp
 ·left; rfl
theorem zVE (m:Mk)(kind:Int)(x:Nat)(hx:x≤1000000)(hd:0<m.defs.length)(hd':m.defs.length≤100)(hm:0<m.mods.length):Ret Tryz.prog 118 [.ptr 0 0,int kind,int x] (mkS m) (int (ofV m kind x)) (mkS m):=by
 refine zK Tryz.func118 rfl qMi (rs:=[.slot 6]) (by kernel_rfl) ?_;unfold qFy;simp[mkS,mkB];refine qZ (S:=Nat) (fun i=>[(0,.ptr 0 0),(1,int kind),(2,int x),(7,int m.defs.length),(8,int i)]) (fun _=>mkS m) (fun i=>i≤m.defs.length∧∀j<i,zJg m kind ((x+j) % m.defs.length)=false) (fun i=>m.defs.length-i) 0 (by simp)
  (zS [0,1] 0 (by decide) (by simp) (by simp[mkS,mkB]) (by simp)) ?_
 rintro i ⟨hi,hn⟩;by_cases h:i<m.defs.length
 ·have hk:=Nat.mod_lt (x+i) hd;have w1:IntKind.i64.wrap ((x:Int)+i)=(x:Int)+i:=IntWalk.i64_in _ (by omega);have w2:IntKind.i64.wrap ((i:Int)+1)=(i:Int)+1:=IntWalk.i64_in _ (by omega);have e1:Int.tmod ((x:Int)+i) (m.defs.length:Int)=(((x+i) % m.defs.length:Nat):Int):=by rw[tmN (by omega)]; simp
  have hnil:m.defs≠[]:=fun e=>by rw[e]at hd; simp at hd
  have hne:¬((m.defs.length:Int)=0):=by omega
  generalize hkk:(x+i) % m.defs.length=k at hk e1;have hdr:=yB hk;have hdr3:List.drop (k*31+3) (zZ m.defs)=(zP m.defs[k]++zZ (m.defs.drop (k+1))).drop 3:=by rw[←List.drop_drop,hdr]
  have hb4:k*31+3+1≤m.defs.length*31:=by omega
  have hg:zJg m kind k=(decide (m.defs[k].kind=kind)&&zGW m k):=by unfold zJg; rw[List.getElem?_eq_getElem hk]
  simp[mkS,mkB,h,w1,e1,hne,hk,hdr3,hb4,zP,hnil];have hround:zJg m kind k=false→∀j<i+1,zJg m kind ((x+j) % m.defs.length)=false:=fun hg' j hj=>by
   by_cases e:j=i
   ·subst e; rw[hkk]; exact hg'
   ·exact hn j (by omega)
  have hhit:zJg m kind k=true→ofV m kind x=k:=fun hg'=>by unfold ofV;rw[zSK h (by rw[hkk]; exact hg') hn];simp only[hkk]
  by_cases h1:m.defs[k].kind=kind
  ·simp[h1];refine zN (zLb m k hk hm) [0,1] (by decide) (by simp[mkS,mkB]) (by simp) ?_;cases h2:zGW m k
   ·simp[mkS,mkB];exact zT (i+1) ⟨h,hround (by rw[hg,h2]; simp)⟩ (by omega) (zS [0,1] 0 (by decide) (by simp) (by simp[mkS,mkB]) (by simp[w2]))
   ·simp[mkS,mkB];exact zG [0,1] 0 (by decide) (by simp) (by simp) (by simp[hhit (by rw[hg,h1,h2]; simp)])
  ·simp[h1];exact zT (i+1) ⟨h,hround (by rw[hg]; simp[h1])⟩ (by omega) (zS [0,1] 0 (by decide) (by simp) (by simp[mkS,mkB]) (by simp[w2]))
 ·have:i=m.defs.length:=by omega
  subst this;have hr:ofV m kind x = -1:=by unfold ofV; rw[zQd hn]
  simp[mkS,mkB];exact zG [0,1] 0 (by decide) (by simp) (by simp) (by simp[hr])
end Go.Proofs.YthglhccibdlccaaGreatDoor

/- trace.differ: the IDs that only one of two maps has, or whose things differ; in some order -/
import Derived.Test.YtolkhapmieigcaaGreatDoorX11
set_option linter.unusedVariables false
set_option maxHeartbeats 8000000
set_option maxRecDepth 100000
set_option linter.unusedSimpArgs false
open Go.Proofs.Tryz
namespace Go.Proofs.YtolkhapmieigcaaGreatDoor
open Go.Abs
def c8{α:Type}(idf : α->Id)(D:List α)(c : α->Bool)(met:wA):wG:=met.filterMap fun i=>(D[i]?).bind fun x=>if c x then some (idf x)else none
variable{met:wA}{i:Nat}
theorem pE{α:Type}{idf : α->Id}{D:List α}{c : α->Bool}{x : α}(h:D[i]?=some x):c8 idf D c (met++[i])=if c x then c8 idf D c met++[idf x]else c8 idf D c met:=by simp only[c8,List.filterMap_append,List.filterMap_cons,List.filterMap_nil,h,Option.bind_some];cases c x<;>simp
theorem zIL{α β:Type}{f g : α->Option β}:∀{l:List α},(∀x∈l,f x=g x)->l.filterMap f=l.filterMap g
 |[],_=>rfl
 |x::l,h=>by rw[List.filterMap_cons,List.filterMap_cons,h x (jAp ..),zIL fun y hy=>h y (jAi _ hy)]
theorem zLR{α:Type}{idf : α->Id}{c : α->Bool}(D:List α):c8 idf D c (List.range D.length)=(D.filter c).map idf:=by
 induction D using eI with
 |nil=>rfl
 |snoc D y ih =>
  have h1:c8 idf (D++[y]) c (List.range D.length)=c8 idf D c (List.range D.length):=by
   unfold c8;refine zIL fun i hi=>?_
   rw[jAo (jC.1 hi)]
  rw[jA4,jAn,List.range_succ,pE (x:=y) (by simp),h1,ih,jCs,jBh];cases hc:c y<;>simp[hc]
structure Met(n:Nat)(met:List Nat):Prop where
 nd:met.Nodup
 lt:∀i∈met,i<n
theorem Met.snoc{n:Nat}(h:Met n met)(hi:i<n)(hn:i∉met):Met n (met++[i]):=by
 refine⟨?_,fun j hj=>?_⟩
 .rw[jD];refine⟨h.nd,by simp,fun a ha b hb=>?_⟩;simp only[jAk]at hb;subst hb;exact fun e=>hn (e▸ha)
 .rcases jA6.1 hj with hj|hj
  .exact h.lt j hj
  .rw[jAk.1 hj];exact hi
theorem Met.le{n:Nat}(h:Met n met):met.length<=n:=by
 have:=h.nd.length_le_of_subset (l₂:=List.range n) fun i hi=>jC.2 (h.lt i hi)
 simpa using this
theorem Met.perm{n:Nat}(h:Met n met)(ha:∀i,i<n->i∈met):met.Perm (List.range n) :=
 (List.perm_ext_iff_of_nodup h.nd List.nodup_range).2 fun i=>⟨fun hi=>jC.2 (h.lt i hi),fun hi=>ha i (jC.1 hi)⟩
theorem Met.sel{α:Type}{idf : α->Id}{c : α->Bool}{D:List α}(h:Met D.length met)(ha:∀i,i<D.length->i∈met):(c8 idf D c met).Perm ((D.filter c).map idf):=by rw[<-zLR];exact(h.perm ha).filterMap _
theorem zAV{α:Type}{idf : α->Id}{enc : α->wF}{D:List α}{p:wC×A}(h:(eC idf enc D)[i]?=some p):∃x,D[i]?=some x/\p=(dE (idf x),.agg (enc x)):=by rw[eC,jBn,jAe]at h;obtain⟨x,hx,rfl⟩:=h;exact⟨x,hx,rfl⟩
@[simp]theorem qD8{α:Type}{idf : α->Id}{enc : α->wF}{D:List α}:(eC idf enc D).length=D.length:=by simp[eC]
def cD1{α:Type}(idf : α->Id)(D2:List α)(same : α->α->Bool)(x : α):Bool:=match yZ idf D2 (idf x)with
 |some y=>!same x y
 |none=>true
def cD2{α:Type}(idf : α->Id)(D1:List α)(y : α):Bool:=(yZ idf D1 (idf y)).isNone
def zDK{α:Type}(idf : α->Id)(same : α->α->Bool)(D1 D2:List α):wG:=(D1.filter (cD1 idf D2 same)).map idf++(D2.filter (cD2 idf D1)).map idf
def zTZ:K:=G [kMn 6] (G [kMn 7] (Z (G [M 15 0,⟨none,.mop (some 16) .rng [(kt 15)]⟩] (K.block 0 (K.loop (G [⟨none,.mop (some 17) .nxt [(kt 16)]⟩,kE 18 17 0] (Z (Y 18 ks (K.exit 0)) (K.block 1 (G [⟨none,.mop (some 19) .ent [(kt 16)]⟩,kE 20 19 0,kE 21 19 1,kZ 8 [ki,ki,ki],kZ 9 kz0,S 8 20 3,S 9 21 31] (G [M 23 1,J 24 8 3,⟨none,.mop (some 25) (.get 3 (.agg #[ki,ki,ki,ki,ki,ki,ki,(.string ⟨#[]⟩),kl,ki,ki,ki,ki,kl,ki,ki,ki,ki,ki,ki,ki,ki,ki,ki,ki,ki,kl,kl,kl,ki,kl]) true) [(kt 23),(kt 24)]⟩,M 22 25,kE 26 22 0,kE 27 22 1,kZ 10 kz0,S 10 26 31,M 11 27] (G [M 28 11,kR 29 28,M 30 29,T 30 false (M 31 2),T 30 false (J 32 9 31),T 30 false (J 33 10 31),⟨some (30,false),.call (some 34) (kt 31) [(kt 32),(kt 33)]⟩,T 30 false (kR 35 34),kPt 36 30 35] (Y 36 (K.ops [M 37 7,J 38 8 3,kd 39 32 3 1 [ki,ki,ki] [(0,3,(kt 38))],kP 40 32 3 24 37 39,M 7 40]) ks)))))))))) (Z (G [M 41 1,⟨none,.mop (some 42) .rng [(kt 41)]⟩] (K.block 2 (K.loop (G [⟨none,.mop (some 43) .nxt [(kt 42)]⟩,kE 44 43 0] (Z (Y 44 ks (K.exit 2)) (K.block 3 (G [⟨none,.mop (some 45) .ent [(kt 42)]⟩,kE 46 45 0,kZ 12 [ki,ki,ki],S 12 46 3] (G [M 48 0,J 49 12 3,⟨none,.mop (some 50) (.get 3 (.agg #[ki,ki,ki,ki,ki,ki,ki,(.string ⟨#[]⟩),kl,ki,ki,ki,ki,kl,ki,ki,ki,ki,ki,ki,ki,ki,ki,ki,ki,ki,kl,kl,kl,ki,kl]) true) [(kt 48),(kt 49)]⟩,M 47 50,kE 51 47 0,kE 52 47 1,kZ 13 kz0,S 13 51 31,M 14 52] (G [M 53 14,kR 54 53] (Y 54 (K.ops [M 55 7,J 56 12 3,kd 57 32 3 1 [ki,ki,ki] [(0,3,(kt 56))],kP 58 32 3 24 55 57,M 7 58]) ks)))))))))) (G [M 59 7,M 6 59] kr))))
theorem qBI:ky f62 zTZ:=m_ (by kernel_rfl)
theorem zKS(g:FuncId)(hcal:zA prog g=true)(same:Dfn->Dfn->Bool)(hs:∀x y,my g [.agg (zQ x),.agg (zQ y)] [] (bl (same x y)) [])(D1 D2:wS)(hl1:D1.length<=1000000)(hl2:D2.length<=1000000) :
 y6 prog 62 [.map 0,.map 1,.clo g [] []] [.mp true 3 (eC Dfn.id zQ D1),.mp true 3 (eC Dfn.id zQ D2)] fun o τ=>∃l:wG,l.Perm (zDK Dfn.id same D1 D2)/\o=.ret (.row 2 l.length) /\
  τ = [.mp true 3 (eC Dfn.id zQ D1),.mp true 3 (eC Dfn.id zQ D2),.row false 32 3 l.length (zS l)]:=by
 refine zC0 func62 rfl qBI (rs:=[.slot 6]) (by kernel_rfl) ?_;unfold zTZ;simp;refine qH (S:=wA) (fun met=>[(0,.map 0),(1,.map 1),(2,.clo g [] []),(7,.row 3 (c8 Dfn.id D1 (cD1 Dfn.id D2 same) met).length),(16,.ptr 2 0)])
  (fun met=>[.mp true 3 (eC Dfn.id zQ D1),.mp true 3 (eC Dfn.id zQ D2),.it 0 D1.length met,.row false 32 3 (c8 Dfn.id D1 (cD1 Dfn.id D2 same) met).length (zS (c8 Dfn.id D1 (cD1 Dfn.id D2 same) met))])
  (fun met=>Met D1.length met) (fun met=>D1.length-met.length) [] ⟨by simp,by simp⟩
  ((jS (t:=7) (by simp) 32 3).trans (mw [0,1,2,3] 0 (by rfl) (by simp[c8]))) ?_
 intro met hmet;simp;have hkb:∀d:Id,zAS (dE d)=.agg [.lit (.int .i64 d.a),.lit (.int .i64 d.b),.lit (.int .i64 d.c)]:=fun _=>rfl
 refine⟨fun i ks v hi hp=>?_,fun hall=>?_⟩
 .obtain⟨x,hx,e⟩:=zAV hp;cases e;refine⟨_,_,hp,?_⟩;have hin:i<D1.length:=(jA5.1 hx).1;have hm:=hmet.snoc hin hi;have hle:=hm.le;have hle0:=hmet.le;rw[jA4,jAn]at hle;have hsel:=pE (idf:=Dfn.id) (c:=cD1 Dfn.id D2 same) (met:=met) hx;have hsl:(c8 Dfn.id D1 (cD1 Dfn.id D2 same) met).length<=met.length:=jDi _ _;have hf:=fX (i:=x.id) (enc:=zQ) (idf:=Dfn.id) D2;generalize c8 Dfn.id D1 (cD1 Dfn.id D2 same) met=L at hsel hsl ⊢;simp only[dE]at hf;cases hh:yZ Dfn.id D2 x.id with
  |none =>
   rw[hh]at hf;simp only[jCz]at hf;have hc:cD1 Dfn.id D2 same x=true:=by simp[cD1,hh]
   rw[if_pos hc]at hsel;simp[hkb,zQ,hf];refine⟨⟨by simp[maxLen];omega,by omega⟩,?_⟩;exact zN (met++[i]) hm (by simp;omega) (mw [0,1,2,3] 0 (by rfl) (by simp[hsel,qD]))
  |some y =>
   rw[hh]at hf;simp only[jC7]at hf;simp[hkb,zQ,hf,hcal];refine mu (hs x y) (by simp[zQ]) ?_;cases hxy:same x y with
   |false =>
    have hc:cD1 Dfn.id D2 same x=true:=by simp[cD1,hh,hxy]
    rw[if_pos hc]at hsel;simp;refine⟨⟨by simp[maxLen];omega,by omega⟩,?_⟩;exact zN (met++[i]) hm (by simp;omega) (mw [0,1,2,3] 0 (by rfl) (by simp[hsel,qD]))
   |true =>
    have hc:cD1 Dfn.id D2 same x=false:=by simp[cD1,hh,hxy]
    rw[if_neg (by simp[hc])]at hsel;simp;exact zN (met++[i]) hm (by simp;omega) (mw [0,1,2,3] 0 (by rfl) (by simp[hsel]))
 .have hperm:=hmet.sel (idf:=Dfn.id) (c:=cD1 Dfn.id D2 same) hall;generalize c8 Dfn.id D1 (cD1 Dfn.id D2 same) met=L at hperm ⊢;have hL:L.length<=D1.length:=by rw[hperm.length_eq,jAa];exact jBg _ _
  refine qH (S:=wA) (fun met=>[(0,.map 0),(1,.map 1),(7,.row 2 (L++c8 Dfn.id D2 (cD2 Dfn.id D1) met).length),(42,.ptr 3 0)])
   (fun met=>[.mp true 3 (eC Dfn.id zQ D1),.mp true 3 (eC Dfn.id zQ D2),.row false 32 3 (L++c8 Dfn.id D2 (cD2 Dfn.id D1) met).length (zS (L++c8 Dfn.id D2 (cD2 Dfn.id D1) met)),.it 1 D2.length met])
   (fun met=>Met D2.length met) (fun met=>D2.length-met.length) [] ⟨by simp,by simp⟩
   (mw [0,1,3,4] 0 (by rfl) (by simp[c8])) ?_
  clear hmet hall met;intro met hmet;simp;refine⟨fun i ks v hi hp=>?_,fun hall=>?_⟩
  .obtain⟨x,hx,e⟩:=zAV hp;cases e;refine⟨_,_,hp,?_⟩;have hin:i<D2.length:=(jA5.1 hx).1;have hm:=hmet.snoc hin hi;have hle:=hm.le;have hle0:=hmet.le;rw[jA4,jAn]at hle;have hsel:=pE (idf:=Dfn.id) (c:=cD2 Dfn.id D1) (met:=met) hx;have hsl:(c8 Dfn.id D2 (cD2 Dfn.id D1) met).length<=met.length:=jDi _ _;have hf:=fX (i:=x.id) (enc:=zQ) (idf:=Dfn.id) D1;generalize c8 Dfn.id D2 (cD2 Dfn.id D1) met=M at hsel hsl ⊢;simp only[dE]at hf;cases hh:yZ Dfn.id D1 x.id with
   |none =>
    rw[hh]at hf;simp only[jCz]at hf;have hc:cD2 Dfn.id D1 x=true:=by simp[cD2,hh]
    rw[if_pos hc]at hsel;simp[hkb,hf];refine⟨⟨by simp[maxLen];omega,by omega⟩,?_⟩;exact zN (met++[i]) hm (by simp;omega) (mw [0,1,2,3] 0 (by rfl) (by simp[hsel,qD,jB9]))
   |some y =>
    rw[hh]at hf;simp only[jC7]at hf;have hc:cD2 Dfn.id D1 x=false:=by simp[cD2,hh]
    rw[if_neg (by simp[hc])]at hsel;simp[hkb,zQ,hf];exact zN (met++[i]) hm (by simp;omega) (mw [0,1,2,3] 0 (by rfl) (by simp[hsel]))
  .have hperm2:=hmet.sel (idf:=Dfn.id) (c:=cD2 Dfn.id D1) hall;generalize c8 Dfn.id D2 (cD2 Dfn.id D1) met=M at hperm2 ⊢;refine⟨L++M,hperm.append hperm2,?_⟩;exact mv [0,1,2] 0 (by rfl) (by simp)
def zUa:K:=G [kMn 6] (G [kMn 7] (Z (G [M 15 0,⟨none,.mop (some 16) .rng [(kt 15)]⟩] (K.block 0 (K.loop (G [⟨none,.mop (some 17) .nxt [(kt 16)]⟩,kE 18 17 0] (Z (Y 18 ks (K.exit 0)) (K.block 1 (G [⟨none,.mop (some 19) .ent [(kt 16)]⟩,kE 20 19 0,kE 21 19 1,kZ 8 [ki,ki,ki],kZ 9 kz1,S 8 20 3,S 9 21 15] (G [M 23 1,J 24 8 3,⟨none,.mop (some 25) (.get 3 (.agg #[ki,ki,ki,ki,ki,ki,ki,ki,ki,ki,ki,ki,kl,kl,kl]) true) [(kt 23),(kt 24)]⟩,M 22 25,kE 26 22 0,kE 27 22 1,kZ 10 kz1,S 10 26 15,M 11 27] (G [M 28 11,kR 29 28,M 30 29,T 30 false (M 31 2),T 30 false (J 32 9 15),T 30 false (J 33 10 15),⟨some (30,false),.call (some 34) (kt 31) [(kt 32),(kt 33)]⟩,T 30 false (kR 35 34),kPt 36 30 35] (Y 36 (K.ops [M 37 7,J 38 8 3,kd 39 32 3 1 [ki,ki,ki] [(0,3,(kt 38))],kP 40 32 3 24 37 39,M 7 40]) ks)))))))))) (Z (G [M 41 1,⟨none,.mop (some 42) .rng [(kt 41)]⟩] (K.block 2 (K.loop (G [⟨none,.mop (some 43) .nxt [(kt 42)]⟩,kE 44 43 0] (Z (Y 44 ks (K.exit 2)) (K.block 3 (G [⟨none,.mop (some 45) .ent [(kt 42)]⟩,kE 46 45 0,kZ 12 [ki,ki,ki],S 12 46 3] (G [M 48 0,J 49 12 3,⟨none,.mop (some 50) (.get 3 (.agg #[ki,ki,ki,ki,ki,ki,ki,ki,ki,ki,ki,ki,kl,kl,kl]) true) [(kt 48),(kt 49)]⟩,M 47 50,kE 51 47 0,kE 52 47 1,kZ 13 kz1,S 13 51 15,M 14 52] (G [M 53 14,kR 54 53] (Y 54 (K.ops [M 55 7,J 56 12 3,kd 57 32 3 1 [ki,ki,ki] [(0,3,(kt 56))],kP 58 32 3 24 55 57,M 7 58]) ks)))))))))) (G [M 59 7,M 6 59] kr))))
theorem qBJ:ky f64 zUa:=m_ (by kernel_rfl)
theorem zKT(g:FuncId)(hcal:zA prog g=true)(same:Exp->Exp->Bool)(hs:∀x y,my g [.agg (zH x),.agg (zH y)] [] (bl (same x y)) [])(D1 D2:wH)(hl1:D1.length<=1000000)(hl2:D2.length<=1000000) :
 y6 prog 64 [.map 0,.map 1,.clo g [] []] [.mp true 3 (eC Exp.id zH D1),.mp true 3 (eC Exp.id zH D2)] fun o τ=>∃l:wG,l.Perm (zDK Exp.id same D1 D2)/\o=.ret (.row 2 l.length) /\
  τ = [.mp true 3 (eC Exp.id zH D1),.mp true 3 (eC Exp.id zH D2),.row false 32 3 l.length (zS l)]:=by
 refine zC0 func64 rfl qBJ (rs:=[.slot 6]) (by kernel_rfl) ?_;unfold zUa;simp;refine qH (S:=wA) (fun met=>[(0,.map 0),(1,.map 1),(2,.clo g [] []),(7,.row 3 (c8 Exp.id D1 (cD1 Exp.id D2 same) met).length),(16,.ptr 2 0)])
  (fun met=>[.mp true 3 (eC Exp.id zH D1),.mp true 3 (eC Exp.id zH D2),.it 0 D1.length met,.row false 32 3 (c8 Exp.id D1 (cD1 Exp.id D2 same) met).length (zS (c8 Exp.id D1 (cD1 Exp.id D2 same) met))])
  (fun met=>Met D1.length met) (fun met=>D1.length-met.length) [] ⟨by simp,by simp⟩
  ((jS (t:=7) (by simp) 32 3).trans (mw [0,1,2,3] 0 (by rfl) (by simp[c8]))) ?_
 intro met hmet;simp;have hkb:∀d:Id,zAS (dE d)=.agg [.lit (.int .i64 d.a),.lit (.int .i64 d.b),.lit (.int .i64 d.c)]:=fun _=>rfl
 refine⟨fun i ks v hi hp=>?_,fun hall=>?_⟩
 .obtain⟨x,hx,e⟩:=zAV hp;cases e;refine⟨_,_,hp,?_⟩;have hin:i<D1.length:=(jA5.1 hx).1;have hm:=hmet.snoc hin hi;have hle:=hm.le;have hle0:=hmet.le;rw[jA4,jAn]at hle;have hsel:=pE (idf:=Exp.id) (c:=cD1 Exp.id D2 same) (met:=met) hx;have hsl:(c8 Exp.id D1 (cD1 Exp.id D2 same) met).length<=met.length:=jDi _ _;have hf:=fX (i:=x.id) (enc:=zH) (idf:=Exp.id) D2;generalize c8 Exp.id D1 (cD1 Exp.id D2 same) met=L at hsel hsl ⊢;simp only[dE]at hf;cases hh:yZ Exp.id D2 x.id with
  |none =>
   rw[hh]at hf;simp only[jCz]at hf;have hc:cD1 Exp.id D2 same x=true:=by simp[cD1,hh]
   rw[if_pos hc]at hsel;simp[hkb,zH,hf];refine⟨⟨by simp[maxLen];omega,by omega⟩,?_⟩;exact zN (met++[i]) hm (by simp;omega) (mw [0,1,2,3] 0 (by rfl) (by simp[hsel,qD]))
  |some y =>
   rw[hh]at hf;simp only[jC7]at hf;simp[hkb,zH,hf,hcal];refine mu (hs x y) (by simp[zH]) ?_;cases hxy:same x y with
   |false =>
    have hc:cD1 Exp.id D2 same x=true:=by simp[cD1,hh,hxy]
    rw[if_pos hc]at hsel;simp;refine⟨⟨by simp[maxLen];omega,by omega⟩,?_⟩;exact zN (met++[i]) hm (by simp;omega) (mw [0,1,2,3] 0 (by rfl) (by simp[hsel,qD]))
   |true =>
    have hc:cD1 Exp.id D2 same x=false:=by simp[cD1,hh,hxy]
    rw[if_neg (by simp[hc])]at hsel;simp;exact zN (met++[i]) hm (by simp;omega) (mw [0,1,2,3] 0 (by rfl) (by simp[hsel]))
 .have hperm:=hmet.sel (idf:=Exp.id) (c:=cD1 Exp.id D2 same) hall;generalize c8 Exp.id D1 (cD1 Exp.id D2 same) met=L at hperm ⊢;have hL:L.length<=D1.length:=by rw[hperm.length_eq,jAa];exact jBg _ _
  refine qH (S:=wA) (fun met=>[(0,.map 0),(1,.map 1),(7,.row 2 (L++c8 Exp.id D2 (cD2 Exp.id D1) met).length),(42,.ptr 3 0)])
   (fun met=>[.mp true 3 (eC Exp.id zH D1),.mp true 3 (eC Exp.id zH D2),.row false 32 3 (L++c8 Exp.id D2 (cD2 Exp.id D1) met).length (zS (L++c8 Exp.id D2 (cD2 Exp.id D1) met)),.it 1 D2.length met])
   (fun met=>Met D2.length met) (fun met=>D2.length-met.length) [] ⟨by simp,by simp⟩
   (mw [0,1,3,4] 0 (by rfl) (by simp[c8])) ?_
  clear hmet hall met;intro met hmet;simp;refine⟨fun i ks v hi hp=>?_,fun hall=>?_⟩
  .obtain⟨x,hx,e⟩:=zAV hp;cases e;refine⟨_,_,hp,?_⟩;have hin:i<D2.length:=(jA5.1 hx).1;have hm:=hmet.snoc hin hi;have hle:=hm.le;have hle0:=hmet.le;rw[jA4,jAn]at hle;have hsel:=pE (idf:=Exp.id) (c:=cD2 Exp.id D1) (met:=met) hx;have hsl:(c8 Exp.id D2 (cD2 Exp.id D1) met).length<=met.length:=jDi _ _;have hf:=fX (i:=x.id) (enc:=zH) (idf:=Exp.id) D1;generalize c8 Exp.id D2 (cD2 Exp.id D1) met=M at hsel hsl ⊢;simp only[dE]at hf;cases hh:yZ Exp.id D1 x.id with
   |none =>
    rw[hh]at hf;simp only[jCz]at hf;have hc:cD2 Exp.id D1 x=true:=by simp[cD2,hh]
    rw[if_pos hc]at hsel;simp[hkb,hf];refine⟨⟨by simp[maxLen];omega,by omega⟩,?_⟩;exact zN (met++[i]) hm (by simp;omega) (mw [0,1,2,3] 0 (by rfl) (by simp[hsel,qD,jB9]))
   |some y =>
    rw[hh]at hf;simp only[jC7]at hf;have hc:cD2 Exp.id D1 x=false:=by simp[cD2,hh]
    rw[if_neg (by simp[hc])]at hsel;simp[hkb,zH,hf];exact zN (met++[i]) hm (by simp;omega) (mw [0,1,2,3] 0 (by rfl) (by simp[hsel]))
  .have hperm2:=hmet.sel (idf:=Exp.id) (c:=cD2 Exp.id D1) hall;generalize c8 Exp.id D2 (cD2 Exp.id D1) met=M at hperm2 ⊢;refine⟨L++M,hperm.append hperm2,?_⟩;exact mv [0,1,2] 0 (by rfl) (by simp)
structure Hd where
 id:Id
 kind:Int
 slots:List Slt
 res:Typ
abbrev wQ:=List Hd
def Dfn.hd(d:Dfn):Hd:=⟨d.id,d.kind,d.slots,d.res⟩
abbrev jI:Typ:=.mk 0 Id.zero []
abbrev jV:Typ:=.mk 1 Id.zero []
abbrev jP(t:Typ):Typ:=.mk 2 Id.zero [t]
abbrev dP(d:Id):Typ:=.mk 3 d []
inductive TyOk(hs:List Hd):Nat->Typ->Prop
 |int (r:Nat):TyOk hs r jI
 |bool (r:Nat):TyOk hs r jV
 |list (r:Nat) (t:Typ) (h:TyOk hs r t):TyOk hs (r+1) (jP t)
 |dfn (r k:Nat) (h:k<hs.length) (h1:∀(j:Nat) (hj:j<k),hs[j].id≠hs[k].id) (h2:hs[k].kind=0\/hs[k].kind=1/\0<hs[k].slots.length) (h3:hs[k].slots.length<=6)
  (h4:∀s∈hs[k].slots,TyOk hs r s.typ):TyOk hs (r+1) (dP hs[k].id)
variable{hs:wQ}{r:Nat}{t:Typ}
theorem TyOk.mono{r':Nat}(h:TyOk hs r t)(hr:r<=r'):TyOk hs r' t:=by
 induction h generalizing r' with
 |int r=>exact .int _
 |bool r=>exact .bool _
 |list r t h ih =>
  obtain⟨q,rfl⟩:∃q,r'=q+1:=⟨r'-1,by omega⟩;exact .list _ _ (ih (by omega))
 |dfn r k h h1 h2 h3 h4 ih =>
  obtain⟨q,rfl⟩:∃q,r'=q+1:=⟨r'-1,by omega⟩;exact .dfn _ k h h1 h2 h3 fun s hs'=>ih s hs' (by omega)
def fG(env:wJ)(x:Id)(n:Int):Option Typ:=(env.reverse.find? fun b=>decide (b.id=x)&&decide (b.n=n)).map (·.typ)
inductive WT(hs:List Hd)(own:Int):List Bnd->Exp->Typ->Prop
 |int (env i n) (h1 : -1099511627776<=n) (h2:n<=1099511627776):WT hs own env (.mk i 0 n Id.zero Typ.zero [] []) jI
 |bool (env i n) (h:n=0\/n=1):WT hs own env (.mk i 1 n Id.zero Typ.zero [] []) jV
 |var (env i n x t) (h:fG env x n=some t):WT hs own env (.mk i 2 n x Typ.zero [] []) t
 |call (env i) (k:Nat) (h:k<hs.length) (ks) (ho:(k:Int)<own) (hk:hs[k].kind=2) (hl:ks.length=hs[k].slots.length) (hw:∀(j:Nat) (hj:j<ks.length),WT hs own env ks[j] (hs[k].slots[j]'(hl▸hj)).typ) :
  WT hs own env (.mk i 3 0 hs[k].id Typ.zero ks []) hs[k].res
 |arith (env i n a b) (h1:0<=n) (h2:n<=4) (ha:WT hs own env a jI) (hb:WT hs own env b jI):WT hs own env (.mk i 4 n Id.zero Typ.zero [a,b] []) jI
 |less (env i a b) (ha:WT hs own env a jI) (hb:WT hs own env b jI):WT hs own env (.mk i 4 5 Id.zero Typ.zero [a,b] []) jV
 |same (env i a b u) (ha:WT hs own env a u) (hb:WT hs own env b u):WT hs own env (.mk i 4 6 Id.zero Typ.zero [a,b] []) jV
 |andor (env i n a b) (h:n=7\/n=8) (ha:WT hs own env a jV) (hb:WT hs own env b jV):WT hs own env (.mk i 4 n Id.zero Typ.zero [a,b] []) jV
 |not (env i a) (ha:WT hs own env a jV):WT hs own env (.mk i 4 9 Id.zero Typ.zero [a] []) jV
 |join (env i a b t) (ha:WT hs own env a (jP t)) (hb:WT hs own env b (jP t)):WT hs own env (.mk i 4 10 Id.zero Typ.zero [a,b] []) (jP t)
 |len (env i a t) (ha:WT hs own env a (jP t)):WT hs own env (.mk i 4 11 Id.zero Typ.zero [a] []) jI
 |ite (env i a b c t) (ha:WT hs own env a jV) (hb:WT hs own env b t) (hc:WT hs own env c t):WT hs own env (.mk i 5 0 Id.zero Typ.zero [a,b,c] []) t
 |lets (env i a b u t ns) (hn:ns.length<=10) (ha:WT hs own env a u) (hb:WT hs own (env++[⟨i,0,u⟩]) b t):WT hs own env (.mk i 6 0 Id.zero Typ.zero [a,b] ns) t
 |record (env i) (k:Nat) (h:k<hs.length) (ks) (hk:hs[k].kind=0) (hl:ks.length=hs[k].slots.length) (hw:∀(j:Nat) (hj:j<ks.length),WT hs own env ks[j] (hs[k].slots[j]'(hl▸hj)).typ) :
  WT hs own env (.mk i 7 0 hs[k].id Typ.zero ks []) (dP hs[k].id)
 |field (env i) (k:Nat) (h:k<hs.length) (j:Nat) (hj:j<hs[k].slots.length) (a) (hk:hs[k].kind=0) (ha:WT hs own env a (dP hs[k].id)):WT hs own env (.mk i 8 j hs[k].id Typ.zero [a] []) hs[k].slots[j].typ
 |case (env i) (k:Nat) (h:k<hs.length) (j:Nat) (hj:j<hs[k].slots.length) (a) (hk:hs[k].kind=1) (ha:WT hs own env a hs[k].slots[j].typ):WT hs own env (.mk i 9 j hs[k].id Typ.zero [a] []) (dP hs[k].id)
 |mtch (env i) (k:Nat) (h:k<hs.length) (a ks t ns) (hn:ns.length<=10) (hk:hs[k].kind=1) (hl:ks.length=hs[k].slots.length) (ha:WT hs own env a (dP hs[k].id))
  (hw:∀(j:Nat) (hj:j<ks.length),WT hs own (env++[⟨i,j,(hs[k].slots[j]'(hl▸hj)).typ⟩]) ks[j] t):WT hs own env (.mk i 10 0 hs[k].id Typ.zero (a::ks) ns) t
 |list (env i t ks) (hw:∀(j:Nat) (hj:j<ks.length),WT hs own env ks[j] t):WT hs own env (.mk i 11 0 Id.zero t ks []) (jP t)
 |fold (env i l s b u t ns) (hn:ns.length<=10) (hl:WT hs own env l (jP u)) (hs':WT hs own env s t) (hb:WT hs own (env++[⟨i,0,u⟩]++[⟨i,1,t⟩]) b t):WT hs own env (.mk i 12 0 Id.zero Typ.zero [l,s,b] ns) t
mutual
def tmps:Exp->wC
 | .mk i _ _ _ _ ks _=>jG ks++[i.c]
def jG:List Exp->wC
 |[]=>[]
 |e::l=>tmps e++jG l
end
mutual
def Exp.num0:Exp->Prop
 | .mk i _ _ _ _ ks _=>(i.a=0/\i.b=0)/\zJ7 ks
def zJ7:List Exp->Prop
 |[]=>True
 |e::l=>e.num0/\zJ7 l
end
theorem zBZ:∀l:wH,zJ7 l↔∀e∈l,e.num0
 |[]=>by simp[zJ7]
 |e::l=>by simp[zJ7,zBZ l]
variable{ns:List ByteArray}
theorem gS{c k n:Int}{r:Id}{ks:wH}(h:∀e∈ks,e.num0):(Exp.mk ⟨0,0,c⟩ k n r t ks ns).num0:=by simp only[Exp.num0,zBZ,true_and];exact h
theorem u6{c k n:Int}{r:Id}:(Exp.mk ⟨0,0,c⟩ k n r t [] ns).num0:=gS (by simp)
theorem zBc{es:wH}{n:Nat}(hn:es.length=n)(h:∀(j:Nat)(_:j<es.length),es[j].num0):∀e∈es,e.num0:=fun e he=>by obtain⟨j,hj,rfl⟩:=jAl he;exact h j hj
structure Seg(lo hi:Int)(l:List Int):Prop where
 nd:l.Nodup
 rng:∀x∈l,lo<=x/\x<hi
variable{c a b:Int}{l:wC}
theorem Seg.append{l':wC}(h:Seg a b l)(h':Seg b c l')(hab:a<=b)(hbc:b<=c):Seg a c (l++l'):=by
 refine⟨jD.2 ⟨h.nd,h'.nd,fun x hx y hy e=>?_⟩,fun x hx=>?_⟩
 .have h1:=h.rng x hx;have h2:=h'.rng y hy;omega
 .rcases jA6.1 hx with hx|hx
  .have:=h.rng x hx;omega
  .have:=h'.rng x hx;omega
theorem Seg.perm{l':wC}(h:Seg a b l)(hp:l.Perm l'):Seg a b l':=⟨hp.nodup_iff.1 h.nd,fun x hx=>h.rng x (hp.mem_iff.2 hx)⟩
theorem Seg.one(a:Int):Seg a (a+1) [a]:=⟨by simp,fun x hx=>by simp at hx;omega⟩
theorem Seg.nil:Seg a b []:=⟨by simp,fun x hx=>by simp at hx⟩
theorem Seg.mono{a' b':Int}(h:Seg a b l)(h1:a'<=a)(h2:b<=b'):Seg a' b' l:=⟨h.nd,fun x hx=>by have:=h.rng x hx;omega⟩
structure Adv(m m':Mk)(c:Int):Prop where
 mods:m'.mods=m.mods
 defs:m'.defs=m.defs
 l:m'.l=m.l
 own:m'.own=m.own
 home:m'.home=m.home
 at1:m.at_<=m'.at_
 at2:m'.at_<=m.at_+c
 temp1:m.temp<=m'.temp
 temp2:m'.temp<=m.temp+c
 left1:m.left-c<=m'.left
 left2:m'.left<=m.left
 name1:m.name<=m'.name
 name2:m'.name<=m.name+c
variable{m m1:Mk}{c':Int}
theorem Adv.trans{m2:Mk}(h:Adv m m1 c)(k:Adv m1 m2 c'):Adv m m2 (c+c'):=by obtain⟨h1,h2,h3,h4,h5,h6,h7,h8,h9,h10,h11,h12,h13⟩:=h;obtain⟨k1,k2,k3,k4,k5,k6,k7,k8,k9,k10,k11,k12,k13⟩:=k;exact⟨k1.trans h1,k2.trans h2,k3.trans h3,k4.trans h4,k5.trans h5,by omega,by omega,by omega,by omega,by omega,by omega,by omega,by omega⟩
theorem Adv.mono(h:Adv m m1 c)(hc:c<=c'):Adv m m1 c':=by obtain⟨h1,h2,h3,h4,h5,h6,h7,h8,h9,h10,h11,h12,h13⟩:=h;exact⟨h1,h2,h3,h4,h5,by omega,by omega,by omega,by omega,by omega,by omega,by omega,by omega⟩
structure Lim(m:Mk)(c:Int):Prop where
 at1:0<=m.at_
 at2:m.at_+c<=1000000000000000
 temp1:0<=m.temp
 temp2:m.temp+c<=1000000000000000
 left1 : -1000000000000000<=m.left-c
 left2:m.left<=1000000000000000
 name1:0<=m.name
 name2:m.name+c<=1000000000000000
theorem Lim.adv(h:Lim m (c+c'))(k:Adv m m1 c):Lim m1 c':=by obtain⟨h1,h2,h3,h4,h5,h6,h7,h8⟩:=h;obtain⟨k1,k2,k3,k4,k5,k6,k7,k8,k9,k10,k11,k12,k13⟩:=k;exact⟨by omega,by omega,by omega,by omega,by omega,by omega,by omega,by omega⟩
theorem Lim.mono(h:Lim m c)(hc:c'<=c):Lim m c':=by obtain⟨h1,h2,h3,h4,h5,h6,h7,h8⟩:=h;exact⟨by omega,by omega,by omega,by omega,by omega,by omega,by omega,by omega⟩
theorem yV(m:Mk):Adv m {m with temp:=m.temp+1,left:=m.left-1} 1:=⟨rfl,rfl,rfl,rfl,rfl,by simp,by simp;omega,by simp;omega,by simp,by simp,by simp;omega,by simp,by simp;omega⟩
theorem zMq(m:Mk):Adv m {m with at_:=m.at_+1} 1:=⟨rfl,rfl,rfl,rfl,rfl,by simp;omega,by simp,by simp,by simp;omega,by simp;omega,by simp,by simp,by simp;omega⟩
theorem zAy(m:Mk):Adv m {m with name:=m.name+1} 1:=⟨rfl,rfl,rfl,rfl,rfl,by simp,by simp;omega,by simp,by simp;omega,by simp;omega,by simp,by simp;omega,by simp⟩
structure Cx(hs:List Hd)(R:Nat)(m:Mk):Prop where
 heads:m.defs.map Dfn.hd=hs
 len:hs.length<=100
 len0:0<hs.length
 mods:0<m.mods.length
 nums:∀x∈m.l,w64 x=x
 own:m.own<=1000
 typs:∀(k:Nat) (h:k<hs.length),hs[k].kind=0\/hs[k].kind=1->TyOk hs R (dP hs[k].id)
 slots:∀(k:Nat) (h:k<hs.length),hs[k].slots.length<=6/\∀s∈hs[k].slots,TyOk hs R s.typ
theorem Cx.adv{R:Nat}{m':Mk}(h:Cx hs R m)(k:Adv m m' c):Cx hs R m':=by obtain⟨h1,h2,h3,h4,h5,h6,h7,h8⟩:=h;exact⟨by rw[k.defs];exact h1,h2,h3,by rw[k.mods];exact h4,by rw[k.l];exact h5,by rw[k.own];exact h6,h7,h8⟩
theorem Cx.dlen{R:Nat}(h:Cx hs R m):m.defs.length=hs.length:=by rw[<-h.heads,jAa]
theorem Cx.get{R:Nat}(h:Cx hs R m){k:Nat}(hk:k<m.defs.length):hs[k]'(h.dlen▸hk)=m.defs[k].hd:=by obtain⟨rfl,_⟩:=h;simp
structure EnvOk(hs:List Hd)(R:Nat)(temp:Int)(env:List Bnd):Prop where
 typs:∀b∈env,TyOk hs R b.typ
 nd:env.Pairwise fun b c=>¬(b.id=c.id/\b.n=c.n)
 new:∀b∈env,b.id.b=0->b.id.c<temp
variable{temp:Int}{env:wJ}
theorem EnvOk.mono{R:Nat}{temp':Int}(h:EnvOk hs R temp env)(ht:temp<=temp'):EnvOk hs R temp' env:=⟨h.typs,h.nd,fun b hb h0=>by have:=h.new b hb h0;omega⟩
theorem EnvOk.snoc{R:Nat}(h:EnvOk hs R temp env)(c n:Int)(t:Typ)(ht:TyOk hs R t)(hc:∀b∈env,b.id=⟨0,0,c⟩->b.n≠n)(hct:c<temp):EnvOk hs R temp (env++[⟨⟨0,0,c⟩,n,t⟩]):=by
 refine⟨fun b hb=>?_,?_,fun b hb h0=>?_⟩
 .rcases jA6.1 hb with hb|hb
  .exact h.typs b hb
  .rw[jAk.1 hb];exact ht
 .rw[jCr];refine⟨h.nd,by simp,fun b hb c' hc'=>?_⟩;rw[jAk.1 hc'];exact fun e=>hc b hb e.1 e.2
 .rcases jA6.1 hb with hb|hb
  .exact h.new b hb h0
  .rw[jAk.1 hb];exact hct
theorem zGr(h:env.Pairwise fun b c=>¬(b.id=c.id/\b.n=c.n)){b:Bnd}(hb:b∈env):fG env b.id b.n=some b.typ:=by
 induction env using eI with
 |nil=>simp at hb
 |snoc l y ih =>
  rw[jCr]at h;unfold fG;rw[List.reverse_append];simp only[List.reverse_cons,List.reverse_nil,jBp,jCj,jC5];rcases jA6.1 hb with hb'|hb'
  .have hne:=h.2.2 b hb' y (by simp);have:(decide (y.id=b.id)&&decide (y.n=b.n))=false:=by
    rw[jCt];by_cases e:y.id=b.id
    .right;rw[decide_eq_false_iff_not];exact fun e'=>hne ⟨e.symm,e'.symm⟩
    .left;simpa using e
   rw[this];exact ih h.1 hb'
  .rw[jAk.1 hb'];simp
def zAt(m:Mk)(k:Nat):Bool:=match m.defs[k]? with
 |some d=>decide ((k:Int)<m.own)&&(decide (d.mod=m.home)||decide (d.mod=(m.mods.headD ⟨Id.zero,⟨#[]⟩,[],[]⟩).id))
 |none=>false
theorem zTM{k:Nat}(h:zAt m k=true):(k:Int)<m.own:=by
 unfold zAt at h;split at h
 .rw[jA7]at h;exact of_decide_eq_true h.1
 .cases h
theorem zFk(m:Mk)(k:Nat)(hk:k<m.defs.length)(hm:0<m.mods.length):my 154 [.ptr 0 0,int k] (mkS m) (bl (zAt m k)) (mkS m):=by
 refine zG func154 rfl qIL (rs:=[.slot 4]) (by kernel_rfl) ?_;unfold qBk;have hd:=j5 hk;have hb31:k*31+31<=m.defs.length*31:=by omega
 have hv:zAt m k=(decide ((k:Int)<m.own)&&(decide (m.defs[k].mod=m.home)||decide (m.defs[k].mod=(m.mods.headD ⟨Id.zero,⟨#[]⟩,[],[]⟩).id))):=by unfold zAt;rw[jA2 hk]
 cases hmm:m.mods with
 |nil=>rw[hmm]at hm;simp at hm
 |cons m0 M =>
  rw[hmm]at hv;simp only[jD0]at hv;simp[mkS,mkB,hk,hd,hb31,zQ,hmm,gC,oH];by_cases h1:(k:Int)<m.own
  .by_cases h2:m.defs[k].mod=m.home
   .simp[h1,h2];exact mv [0,1] 0 (by rfl) (by simp[hmm,gC,oH,hv,h1,h2])
   .have e2:iE m.defs[k].mod.a m.defs[k].mod.b m.defs[k].mod.c m.home.a m.home.b m.home.c=false:=by rw[eO];exact decide_eq_false h2
    simp[h1,e2];exact ke [0,1] 0 (by rfl) (by simp[hmm,gC,oH]) (by simp[hv,h1,h2]<;>congr)
  .simp[h1];exact mv [0,1] 0 (by rfl) (by simp[hmm,gC,oH,hv,h1])
def zCG(m:Mk)(kind:Int)(k:Nat):Bool:=(match m.defs[k]? with
 |some d=>decide (d.kind=kind)
 |none=>false)&&zAt m k
def ofV(m:Mk)(kind:Int)(x:Nat):Int:=match (List.range m.defs.length).find? fun i=>zCG m kind ((x+i) % m.defs.length)with
 |some i=>(((x+i) % m.defs.length:Nat):Int)
 |none=>-1
theorem zOM{n i:Nat}{p:Nat->Bool}(h:i<n)(hp:p i=true)(hn:∀j<i,p j=false):(List.range n).find? p=some i:=by rw[List.find?_range_eq_some];exact⟨hp,by simpa using h,fun j hj=>by simpa using hn j hj⟩
theorem zLF{n:Nat}{p:Nat->Bool}(hn:∀j<n,p j=false):(List.range n).find? p=none:=by
 rw[jD5];intro x hx
 simpa using hn x (by simpa using hx)
theorem zT4(m:Mk)(kind:Int)(x:Nat):ofV m kind x = -1\/∃k:Nat,∃h:k<m.defs.length,ofV m kind x=k/\m.defs[k].kind=kind/\zAt m k=true:=by
 unfold ofV;split
 .rename_i i hi;right;have hp:=jD6 hi;have hlt:0<m.defs.length:=by have:=jC.1 (jD7 hi);omega
  have hk:=Nat.mod_lt (x+i) hlt;refine⟨_,hk,rfl,?_⟩;unfold zCG at hp;rw[jA2 hk]at hp
  simpa using hp
 .left;rfl
theorem zRt(m:Mk)(kind:Int)(x:Nat)(hx:x<=1000000)(hd:0<m.defs.length)(hd':m.defs.length<=100)(hm:0<m.mods.length):my 153 [.ptr 0 0,int kind,int x] (mkS m) (int (ofV m kind x)) (mkS m):=by
 refine zG func153 rfl qIx (rs:=[.slot 6]) (by kernel_rfl) ?_;unfold qAM;simp[mkS,mkB];refine qH (S:=Nat) (fun i=>[(0,.ptr 0 0),(1,int kind),(2,int x),(7,int m.defs.length),(8,int i)]) (fun _=>mkS m) (fun i=>i<=m.defs.length/\∀j<i,zCG m kind ((x+j) % m.defs.length)=false) (fun i=>m.defs.length-i) 0 (by simp)
  (mw [0,1] 0 (by rfl) (by simp[mkS,mkB])) ?_
 rintro i ⟨hi,hn⟩;by_cases h:i<m.defs.length
 .have hk:=Nat.mod_lt (x+i) hd;have w1:=z8 ((x:Int)+i) (by omega);have w2:=yU i (by omega);have e1:Int.tmod ((x:Int)+i) (m.defs.length:Int)=(((x+i) % m.defs.length:Nat):Int):=by rw[tmN (by omega)];simp
  have hnil:m.defs≠[]:=fun e=>by rw[e]at hd;simp at hd
  have hne:¬((m.defs.length:Int)=0):=by omega
  generalize hkk:(x+i) % m.defs.length=k at hk e1;have hdr:=j5 hk;have hdr3:List.drop (k*31+3) (zV m.defs)=(zQ m.defs[k]++zV (m.defs.drop (k+1))).drop 3:=by rw[<-jAy,hdr]
  have hb4:k*31+3+1<=m.defs.length*31:=by omega
  have hg:zCG m kind k=(decide (m.defs[k].kind=kind)&&zAt m k):=by unfold zCG;rw[jA2 hk]
  simp[mkS,mkB,h,w1,e1,hne,hk,hdr3,hb4,zQ,hnil];have hround:zCG m kind k=false->∀j<i+1,zCG m kind ((x+j) % m.defs.length)=false:=fun hg' j hj=>by
   by_cases e:j=i
   .subst e;rw[hkk];exact hg'
   .exact hn j (by omega)
  have hhit:zCG m kind k=true->ofV m kind x=k:=fun hg'=>by unfold ofV;rw[zOM h (by rw[hkk];exact hg') hn];simp only[hkk]
  by_cases h1:m.defs[k].kind=kind
  .simp[h1];refine mr (zFk m k hk hm) [0,1] (by simp[mkS,mkB]) ?_;cases h2:zAt m k
   .simp[mkS,mkB];exact zN (i+1) ⟨h,hround (by rw[hg,h2];simp)⟩ (by omega) (mw [0,1] 0 (by rfl) (by simp[mkS,mkB,w2]))
   .simp[mkS,mkB];exact mv [0,1] 0 (by rfl) (by simp[hhit (by rw[hg,h1,h2];simp)])
  .simp[h1];exact zN (i+1) ⟨h,hround (by rw[hg];simp[h1])⟩ (by omega) (mw [0,1] 0 (by rfl) (by simp[mkS,mkB,w2]))
 .have:i=m.defs.length:=by omega
  subst this;have hr:ofV m kind x = -1:=by unfold ofV;rw[zLF hn]
  simp[mkS,mkB];exact mv [0,1] 0 (by rfl) (by simp[hr])
@[simp]theorem zK8:∀(l:wG) (k:Nat),bY k (zS l)=true
 |[],_=>rfl
 |d::l,k=>by rw[eK];simp[zK8 l k]
@[simp]theorem zVP(l:List Md)(k:Nat):bY k (qC l)=true:=(lZ l).bnd k
@[simp]theorem zVO(l:wS)(k:Nat):bY k (zV l)=true:=(lX l).bnd k
@[simp]theorem qB7(d:Id)(k:Nat):bY k (zX d)=true:=by simp[zX]
def qM(l:wS)(id:Id):Option Dfn:=l.find? fun d=>decide (d.id=id)
theorem xW(d:Dfn)(l:wS)(id:Id):qM (d::l) id=if d.id=id then some d else qM l id:=by unfold qM;rw[jC5];by_cases h:d.id=id<;>simp[h]
def zUs:K:=G [kO 2 0,kMb 3 false] (G [D 4 2 0,J 5 4 3,J 6 1 3,⟨none,.eqs (some 7) false [.i,.i,.i] (kt 5) (kt 6)⟩,M 3 7] kr)
theorem qCd:ky f135 zUs:=m_ (by kernel_rfl)
def zUu:K:=G [kMi 4 0] (Z (G [M 6 0,kN 7 6,kMi 8 0] (K.block 0 (K.loop (G [kB 9 8 7 .lss] (Z (Y 9 ks (K.exit 0)) (Z (K.block 1 (G [M 10 8,M 5 10] (G [M 11 1,M 12 0,M 13 5,kX 14 12 13 31,J 15 14 31,⟨none,.call (some 16) (kt 11) [(kt 15)]⟩] (Y 16 (G [M 17 5,M 4 17] kr) ks)))) (K.ops [kBi 18 8 1 .add,M 8 18]))))))) (G [⟨none,.mov (some 4) (kc (-1))⟩] kr))
theorem qCf:ky f134 zUu:=m_ (by kernel_rfl)
def zUr:K:=G [kO 2 0,kO 3 1,kZ 4 kz0,kMb 5 false] (G [D 7 2 1,L 8 7 1,⟨none,.clo (some 9) 135 [] [(kt 3)]⟩,kC 10 134 [(kt 8),(kt 9)],M 6 10] (Z (G [M 11 6,kBi 12 11 0 .lss] (Y 12 (G [kb 13 kz0 [],S 4 13 31,kMb 5 false] kr) ks)) (G [D 14 2 1,L 15 14 1,M 16 6,kX 17 15 16 31,J 18 17 31,S 4 18 31,kMb 5 true] kr)))
theorem qCc:ky f70 zUr:=m_ (by kernel_rfl)
@[simp]theorem qJR:zA prog 224=true:=by kernel_rfl
def qBj:K:=G [kO 2 0,kO 3 1,kMb 4 false] (Z (G [kMi 5 1] (K.block 0 (K.loop (Z (G [M 8 5,kBi 9 8 24 .leq] (Y 9 ks (K.exit 0))) (Z (K.block 1 (G [D 12 3 0,L 13 12 1] (K.block 2 (Z (G [kQi 15 13 0 false,M 14 15] (Y 14 ks (K.ops [kQi 16 13 1 false,M 14 16]))) (Y 14 (G [D 17 3 1,J 18 17 3,kb 19 [ki,ki,ki] [],⟨none,.eqs (some 20) false [.i,.i,.i] (kt 18) (kt 19)⟩,M 21 20,T 21 true (D 22 3 4),T 21 true (L 23 22 1),T 21 true (kN 24 23),T 21 true (kQi 25 24 0 false),kPf 26 21 25,M 4 26] kr) (G [kQi 28 13 3 false,M 27 28] (Y 27 (G [J 30 2 2,D 31 3 1,J 32 31 3,kC 33 70 [(kt 30),(kt 32)],M 29 33,kE 34 29 0,kE 35 29 1,kZ 6 kz0,S 6 34 31,M 7 35] (G [M 36 7,M 37 36,T 37 true (D 38 6 3),T 37 true (L 39 38 1),T 37 true (kQi 40 39 0 false),T 37 true (M 41 40),T 41 false (D 42 6 3),T 41 false (L 43 42 1),T 41 false (kQi 44 43 1 false),T 37 true (kPt 45 41 44),kPf 46 37 45,M 47 46,T 47 true (D 48 3 4),T 47 true (L 49 48 1),T 47 true (kN 50 49),T 47 true (kQi 51 50 0 false),kPf 52 47 51,M 4 52] kr)) (G [kQi 54 13 2 false,M 53 54] (Y 53 (Z (G [D 55 3 1,J 56 55 3,kb 57 [ki,ki,ki] [],⟨none,.eqs (some 58) true [.i,.i,.i] (kt 56) (kt 57)⟩,M 59 58,T 59 false (D 60 3 4),T 59 false (L 61 60 1),T 59 false (kN 62 61),T 59 false (kQi 63 62 1 true),kPt 64 59 63] (Y 64 (G [kMb 4 false] kr) ks)) (K.ops [D 65 3 4,L 66 65 1,kXi 67 66 5 0,J 68 67 5,S 3 68 5])) (G [kMb 4 false] kr)))))))))) (K.ops [M 10 5,kBi 11 10 1 .add,M 5 11])))))) (G [kMb 4 false] kr))
theorem qIK:ky f178 qBj:=m_ (by kernel_rfl)
theorem zS6(d:Dfn)(id:Id):my 135 [.agg (zQ d),.ptr 0 0] [.box (zX id)] (bl (decide (d.id=id))) [.box (zX id)]:=by refine zG func135 rfl qCd (rs:=[.slot 3]) (by kernel_rfl) ?_;unfold zUs;simp[zQ,zX,zSF];exact mv [0] 0 (by rfl) (by simp)
def zF4:List Dfn->Id->Nat->Int
 |[],_,_=>-1
 |d::l,id,n=>if d.id=id then n else zF4 l id (n+1)
theorem zGl:∀(l:wS) (id:Id) (n:Nat),(qM l id=none/\zF4 l id n = -1)\/∃(i:Nat) (h:i<l.length),zF4 l id n=(n+i:Nat)/\qM l id=some l[i]
 |[],id,n=>.inl ⟨rfl,rfl⟩
 |d::l,id,n=>by
  simp only[xW,zF4];by_cases hd:d.id=id
  .exact .inr ⟨0,by simp,by simp[hd],by simp[hd]⟩
  .simp only[hd,if_false];rcases zGl l id (n+1)with h|⟨i,hi,h1,h2⟩
   .exact .inl h
   .exact .inr ⟨i+1,by simpa using hi,by rw[h1];congr 1;omega,by simpa using h2⟩
theorem zHs(l:wS)(id:Id):my 134 [.sl l.length (zV l),.clo 135 [] [.ptr 0 0]] [.box (zX id)] (int (zF4 l id 0)) [.box (zX id)]:=by
 refine zG func134 rfl qCf (rs:=[.slot 4]) (by kernel_rfl) ?_;unfold zUu;simp;intro hl;refine qH (S:=Nat) (fun i=>[(0,.sl l.length (zV l)),(1,.clo 135 [] [.ptr 0 0]),(6,.sl l.length (zV l)),(7,int l.length),(8,int i)]) (fun s=>[.box (zX id)]) (fun i=>i<=l.length/\zF4 l id 0=zF4 (l.drop i) id i) (fun i=>l.length-i) 0 (by simp)
  (mw [0] 0 (by rfl) (by simp[zX])) ?_
 rintro i ⟨hi,ho⟩;by_cases h:i<l.length
 .have hd:l.drop i=l[i]::l.drop (i+1):=jBb h;simp[h,j5 h];refine mr (zS6 l[i] id) [0] (by simp) ?_;simp;refine jY (fun h'=>?_) (fun h'=>?_)<;>simp at h'
  .simp;exact ke [0] 0 (by rfl) (by simp) (by rw[ho,hd];simp[zF4,h'])
  .simp;exact zN (i+1) ⟨h,by rw[ho,hd];simp[zF4,h']⟩ (by omega) (mw [0] 0 (by rfl) (by simp[zY h hl]))
 .have hi:i=l.length:=by omega
  subst hi;simp;exact ke [0] 0 (by rfl) (by simp) (by rw[ho];simp[zF4])
def gN(p:Prg)(id:Id):A:=.tup [.agg (zQ ((qM p.defs id).getD .zero)),bl (qM p.defs id).isSome]
theorem s9(p:Prg)(id:Id):my 70 [.agg (zI p),.agg (zX id)] [] (gN p id) []:=by
 refine zG func70 rfl qCc (rs:=[.cell 4 31 true,.slot 5]) (by kernel_rfl) ?_;unfold zUr;simp[zI];refine mr (zHs p.defs id) [1] (by simp) ?_;simp;rcases zGl p.defs id 0 with ⟨h1,h2⟩|⟨i,hi,h1,h2⟩
 .simp[h2];exact zC 0 (by simp[gN,h1,zQ,Dfn.zero,Id.zero,Typ.zero,Exp.zero])
 .have hn:¬((i:Int)<0):=by omega
  simp[h1,hn,hi,j5 hi];exact zC 0 (by simp[gN,h2])
def iM:Option Dfn->Bool
 |some d=>decide (d.kind=0\/d.kind=1)
 |none=>false
def yA(p:Prg):Nat->Typ->Bool
 | 0,_=>false
 |n+1,t=>if t.k=2 then (match t.kids with
  |[x]=>decide (t.id=Id.zero)&&yA p n x
  |_=>false)else if t.kids≠[]then false else if t.k=3 then iM (qM p.defs t.id)else decide (t.id=Id.zero)&&decide (t.k=0\/t.k=1)
def validT(p:Prg)(t:Typ):Bool:=yA p 24 t
theorem zFi(p:Prg)(t0:Typ):my 178 [.agg (zI p),.agg (zB t0)] [] (bl (validT p t0)) []:=by
 refine zG func178 rfl qIK (rs:=[.slot 4]) (by kernel_rfl) ?_;unfold qBj;simp[zI];refine qH (S:=Nat×Typ) (fun s=>[(2,.ptr 0 0),(3,.ptr 1 0),(5,int s.1)]) (fun s=>[.box (zI p),.box (zB s.2)]) (fun s=>1<=s.1/\s.1<=25/\validT p t0=yA p (25-s.1) s.2) (fun s=>25-s.1) (1,t0) (by simp[validT])
  (mw [0,1] 0 (by rfl) (by simp[zI])) ?_
 rintro⟨i,t⟩ ⟨hi0,hi,ho⟩;simp only at hi0 hi ho;by_cases h:i<=24
 .have hi24:(i:Int)<=24:=by omega
  obtain⟨n,hn⟩:∃n,25-i=n+1:=⟨24-i,by omega⟩;have hn':25-(i+1)=n:=by omega
  have hw:=yU i (by omega);rw[hn]at ho;cases t with
  |mk k id kids =>
  by_cases h2:k=2
  .subst h2;by_cases hid:id=Id.zero
   .subst hid;rcases kids with _|⟨x,_|⟨y,l⟩⟩
    .simp[zB,zI,hi24];exact zC 0 (by rw[ho];simp[yA])
    .simp[zB,zI,hi24];intro _;refine zN (i+1,x) ⟨by simp,by simp only;omega,?_⟩ (by simp only;omega) (mw [0,1] 0 (by rfl) (by simp[zI,zB,qK,hw]));simp only;rw[ho,hn'];simp[yA]
    .have h1:¬((l.length:Int)+1+1=1):=by omega
     simp[zB,zI,hi24,h1];exact fun _=>zC 0 (by rw[ho];simp[yA])
   .have hv:yA p (n+1) (.mk 2 id kids)=false:=by simp only[yA,Typ.k_mk,Typ.id_mk,Typ.kids_mk,if_true];split<;>simp[hid]
    simp[zB,zI,hi24,hid];exact zC 0 (by rw[ho,hv];simp)
  by_cases h3:k=3
  .subst h3;simp[zB,zI,hi24];refine mu (s9 p id) (by simp[zI,zX,gN]) ?_;cases hf:qM p.defs id with
   |none =>
    have hv:yA p (n+1) (.mk 3 id kids)=false:=by cases kids<;>simp[yA,hf,iM]
    simp[gN,hf,zQ,Dfn.zero,Id.zero,Typ.zero,Exp.zero];exact zC 0 (by rw[ho,hv];simp)
   |some f =>
    by_cases h0:f.kind=0\/f.kind=1
    .have hv:yA p (n+1) (.mk 3 id kids)=decide (kids.length=0):=by cases kids<;>simp[yA,hf,iM,h0]
     rcases h0 with h0|h0
     all_goals
      simp[gN,hf,zQ,h0];exact fun _=>zC 0 (by rw[ho,hv];simp)
    .have hv:yA p (n+1) (.mk 3 id kids)=false:=by cases kids<;>simp[yA,hf,iM,h0]
     have g0:f.kind≠0:=fun e=>h0 (.inl e)
     have g1:f.kind≠1:=fun e=>h0 (.inr e)
     simp[gN,hf,zQ,g0,g1];exact zC 0 (by rw[ho,hv];simp)
  .by_cases h0:k=0\/k=1
   .by_cases hid:id=Id.zero
    .subst hid;have hv:yA p (n+1) (.mk k Id.zero kids)=decide (kids.length=0):=by cases kids<;>simp[yA,h2,h3,h0]
     rcases h0 with rfl|rfl
     all_goals
      simp[zB,zI,hi24];exact fun _=>zC 0 (by rw[ho,hv];simp)
    .have hv:yA p (n+1) (.mk k id kids)=false:=by simp only[yA,Typ.k_mk,Typ.id_mk,Typ.kids_mk,h2,h3,if_false];simp[hid]
     rcases h0 with rfl|rfl
     all_goals
      simp[zB,zI,hi24,hid];exact zC 0 (by rw[ho,hv];simp)
   .have hv:yA p (n+1) (.mk k id kids)=false:=by simp only[yA,Typ.k_mk,Typ.id_mk,Typ.kids_mk,h2,h3,if_false];simp[h0]
    have g0:k≠0:=fun e=>h0 (.inl e)
    have g1:k≠1:=fun e=>h0 (.inr e)
    simp[zB,zI,hi24,g0,g1,h2,h3];exact zC 0 (by rw[ho,hv];simp)
 .have:i=25:=by omega
  subst this;simp;exact zC 0 (by rw[ho];simp[yA])
def qA1:K:=G [kO 2 0,kO 3 1,kMn 4] (Z (K.wk (K.dops [(0,1,J 7 2 2),(2,1,J 9 3 2),(1,7,kC 8 60 [(kt 7)]),(3,7,kC 10 60 [(kt 9)]),(4,302,⟨none,.alr (some 5) 2 [(.map none),(.map none)]⟩),(5,303,⟨none,.alr (some 6) 3 [(.map none),(.map none)]⟩),(6,0,S 5 8 2),(7,0,S 6 10 2)])) (Z (K.dops [(0,1,D 11 5 0),(1,1,L 12 11 1),(2,1,D 13 6 0),(3,1,L 14 13 1),(5,1,D 16 5 1),(6,1,L 17 16 1),(7,1,D 18 6 1),(8,1,L 19 18 1),(4,8,kC 15 62 [(kt 12),(kt 14),(.func 63)]),(9,8,kC 20 64 [(kt 17),(kt 19),(.func 65)]),(10,0,kP 21 32 3 24 15 20),(11,4,kC 22 61 [(kt 21)]),(12,0,M 4 22)]) kr))
def qKJ:Nat->Option wE:=fun|1=>some [(0,1),(2,1),(1,7),(3,7),(4,302),(5,303),(6,0),(7,0)] | 2=>some [(0,1),(1,1),(2,1),(3,1),(5,1),(6,1),(7,1),(8,1),(4,8),(9,8),(10,0),(11,4),(12,0)]|_=>none
theorem qIc:kx f25 qKJ qA1:=mz (by kernel_rfl)
@[simp]theorem qEI{f:Nat}{o:KOp}{env:Env}(h1:6<f)(h2:f<1000):cJ f o env=True:=by
 unfold cJ;split
 .omega
 .omega
 .rw[if_neg (by omega),if_neg (by omega),if_neg (by omega)]
variable{P:Program}{U:St}
@[simp]theorem zZZ{Qd:Value->St->Prop}{f d l:Nat}{zs:wM}{K':wK}{env:Env} :jJ P Qd f K' (.alr (some d) l zs) env U = wpO P cF K' (.alr (some d) l zs) env U:=by simp[jJ,KOp.lite,KOp.keeps]
@[simp]theorem qHC{d l:Nat}{zs:wM}{Qp:Value->wK}{K':wK}{env:Env} :wpO P Qp K' (.alr (some d) l zs) env U = (match U[l]? with
 |some .rsv=>K' (env.put (some d) (.ptr l 0)) (U.set l (.box (zs.map q9)))
 |_=>False):=rfl
theorem zKQ{d:wD}{env:Env}{K:wK}{f:FuncId}{l n:Nat}{e:TypeId}{sz:Nat}{cs:wF}{r:A}(hU:U[l]?=some (.row false e sz n cs))(h:Ret P f [.sl n cs] [] r [])(ha:eJ [] [.sl n cs] [.sl n cs])
 (hq:K (env.put d (ren [] U.length r)) (U.set l (.row true e sz n cs))):uL P U d K f [.row l n] env:=by
 refine⟨_,_,zNB hU (cV h [] (by simp) trivial ha ⟨rfl,rfl⟩),?_⟩
 simpa using hq
def l9(p q:wS):wG:=aP (zDK Dfn.id aU (mV p) (mV q)++zDK Exp.id bS (oL p) (oL q))
theorem zOT{l l':wG}(h:l.Perm l'):aP l=aP l':=(i7 l).unique (i7 l') fun x=>by rw[aQ,aQ,h.mem_iff]
theorem xG(p q:Prg)(h1:(mV p.defs).length<=100000)(h2:(mV q.defs).length<=100000)(h3:(oL p.defs).length<=300000)(h4:(oL q.defs).length<=300000) :
 my 25 [.agg (zI p),.agg (zI q)] [] (.sl (l9 p.defs q.defs).length (zS (l9 p.defs q.defs))) []:=by
 refine zJ func25 rfl qIc (rs:=[.slot 4]) (by kernel_rfl) ?_;unfold qA1;simp;refine⟨_,_,bL 2,?_⟩;simp[zI];refine zM2 (zNb p) (by simp) (by simp[zI]) ?_;simp;refine zM2 (zNb q) (by simp) (by simp[zI]) ?_;simp;refine zQo (zKS 63 (by kernel_rfl) aU zLP (mV p.defs) (mV q.defs) (by omega) (by omega)) [4,6] (by simp) (by simp) (by simp) (fun v τ h=>by obtain⟨l,_,h,_⟩:=h;cases h) fun r τ h=>?_
 obtain⟨l1,hl1,hr,rfl⟩:=h;cases hr;refine⟨by simp;exact y7.append _ [_],?_⟩;simp;refine zQo (zKT 65 (by kernel_rfl) bS zJU (oL p.defs) (oL q.defs) (by omega) (by omega)) [5,7] (by simp) (by simp) (by simp) (fun v τ h=>by obtain⟨l,_,h,_⟩:=h;cases h) fun r τ h=>?_
 obtain⟨l2,hl2,hr,rfl⟩:=h;cases hr;refine⟨by simp;exact y7.append _ [_],?_⟩;simp;have e1:=hl1.length_eq;have e2:=hl2.length_eq;have k1:(zDK Dfn.id aU (mV p.defs) (mV q.defs)).length<=200000:=by have:=jBg (cD1 Dfn.id (mV q.defs) aU) (mV p.defs);have:=jBg (cD2 Dfn.id (mV p.defs)) (mV q.defs);simp only[zDK,jA4,jAa];omega
 have k2:(zDK Exp.id bS (oL p.defs) (oL q.defs)).length<=600000:=by have:=jBg (cD1 Exp.id (oL q.defs) bS) (oL p.defs);have:=jBg (cD2 Exp.id (oL p.defs)) (oL q.defs);simp only[zDK,jA4,jAa];omega
 refine⟨⟨by simp[maxLen];omega,by omega⟩,?_⟩;have hs:=zAj (l1++l2) (by rw[jA4];omega);rw[zOT (hl1.append hl2),jA4,qD]at hs;refine zKQ rfl hs (by simp) ?_;simp;exact zC 0 (by simp[l9])
def zK2:K:=G [kO 6 1,kZ 10 kz1] (Z (G [D 23 6 0,L 24 23 1,kQi 25 24 0 false] (Y 25 (G [M 26 3,kBi 27 26 9 .rem,kBi 28 27 2 .sub,M 11 28] (Z (G [M 29 3,kBi 30 29 29 .rem,kQi 31 30 3 false] (Y 31 (K.ops [M 32 3,kBi 33 32 2 .rem,⟨none,.bin (some 34) .sub (kc 1099511627776) (kt 33)⟩,M 11 34]) ks)) (G [M 35 0,M 36 11,kC 37 89 [(kt 35),(kc 0),(kt 36),(.const kl)],S 10 37 15] kr))) ks)) (Z (G [D 38 6 0,L 39 38 1,kQi 40 39 1 false] (Y 40 (G [M 41 0,M 42 3,kBi 43 42 2 .rem,kC 44 89 [(kt 41),(kc 1),(kt 43),(.const kl)],S 10 44 15] kr) ks)) (Z (G [D 45 6 0,L 46 45 1,kQi 47 46 2 false] (Y 47 (G [kMn 12] (Z (G [kMi 13 0] (K.block 0 (K.loop (Z (G [M 48 13,M 49 3,kBi 50 49 3 .rem,kB 51 48 50 .lss,M 52 51,T 52 true (M 53 4),T 52 true (kBi 54 53 0 .geq),kPf 55 52 54,M 56 55,T 56 true (M 57 0),T 56 true (kU 58 57),T 56 true (D 59 58 5),T 56 true (L 60 59 1),T 56 true (kBi 61 60 0 .gtr),kPf 62 56 61] (Y 62 ks (K.exit 0))) (Z (K.block 1 (K.ops [M 65 12,M 66 0,D 67 6 4,L 68 67 1,kXi 69 68 5 0,J 70 69 5,M 71 2,M 72 4,kBi 73 72 1 .sub,kC 74 37 [(kt 66),(kt 70),(kt 71),(kt 73)],kd 75 40 15 1 kz1 [(0,15,(kt 74))],kP 76 40 15 168 65 75,M 12 76])) (K.ops [M 63 13,kBi 64 63 1 .add,M 13 64])))))) (Z (K.wk (K.ops [M 77 0,M 78 12,kC 79 89 [(kt 77),(kc 11),(kc 0),(kt 78)],kZ 14 kz1,S 14 79 15])) (G [D 80 6 4,L 81 80 1,kXi 82 81 5 0,J 83 82 5,D 84 14 8,S 84 83 5] (G [J 85 14 15,S 10 85 15] kr))))) ks)) (Z (K.wk (K.dops [(0,0,M 87 0),(1,0,kU 88 87),(2,1,D 89 88 0),(3,1,J 90 89 2),(4,1,D 91 6 1),(5,1,
 J 92 91 3),(6,7,kC 93 26 [(kt 90),(kt 92)]),(7,0,M 86 93),(8,0,kE 94 86 0),(9,0,kE 95 86 1),(10,304,⟨none,.alr (some 15) 4 kz0⟩),(11,0,S 15 94 31),(12,0,M 16 95)])) (Z (G [D 96 15 3,L 97 96 1,kQi 98 97 1 false] (Y 98 (G [M 99 3,D 100 15 8,L 101 100 1,kN 102 101,kB 103 99 102 .rem,M 17 103] (Z (G [M 104 4,kBi 105 104 0 .lss] (Y 105 (K.ops [kMi 17 0]) ks)) (G [M 106 0,D 107 15 8,L 108 107 1,M 109 17,kX 110 108 109 11,D 111 110 4,J 112 111 5,M 113 2,M 114 4,kBi 115 114 1 .sub,kC 116 37 [(kt 106),(kt 112),(kt 113),(kt 115)],kZ 18 kz1,S 18 116 15] (G [M 117 0,M 118 17,J 119 18 15,kd 120 40 15 1 kz1 [(0,15,(kt 119))],kC 121 89 [(kt 117),(kc 9),(kt 118),(kt 120)],kZ 19 kz1,S 19 121 15] (G [D 122 15 0,J 123 122 3,D 124 19 5,S 124 123 3] (G [J 125 19 15,S 10 125 15] kr)))))) ks)) (G [kMn 20] (Z (G [kMi 21 0] (K.block 2 (K.loop (Z (G [M 126 21,D 127 15 8,L 128 127 1,kN 129 128,kB 130 126 129 .lss] (Y 130 ks (K.exit 2))) (Z (K.block 3 (K.ops [M 133 20,M 134 0,D 135 15 8,L 136 135 1,M 137 21,kX 138 136 137 11,D 139 138 4,J 140 139 5,M 141 2,M 142 4,kBi 143 142 1 .sub,kC 144 37 [(kt 134),(kt 140),(kt 141),(kt 143)],kd 145 40 15 1 kz1 [(0,15,(kt 144))],kP 146 40 15 168 133 145,M 20 146])) (K.ops [M 131 21,kBi 132 131 1 .add,M 21 132])))))) (Z (K.wk (K.ops [M 147 0,M 148 20,kC 149 89 [(kt 147),(kc 7),(kc 0),(kt 148)],kZ 22 kz1,S 22 149 15])) (G [D 150 15 0,J 151 150 3,D 152 22 5,S 152 151 3] (G [J 153 22 15,S 10 153 15] kr))))))))))
def k_(l:wA):Option wE:=some (l.zipIdx.map fun p=>(p.2,p.1))
def qKM:Nat->Option wE:=fun|17=>k_ [0,0,1,1,1,1,7,0,0,0,304,0,0]|_=>none
theorem zN9:kx f88 qKM zK2:=mz (by kernel_rfl)
abbrev aX:FuncId:=37
def bW(hs:wQ)(own:Int)(f:FuncId)(m:Mk)(args:wF)(env:wJ)(t:Typ)(c:Int):Prop :=
 ∃(e:Exp) (m':Mk),my f args (mkS m) (.agg (zH e)) (mkS m')/\Adv m m' c/\WT hs own env e t/\Seg m.temp m'.temp (tmps e)/\e.num0
def dG(hs:wQ)(R:Nat)(c depth:Int)(Q:Nat->Prop)(len:Nat):Prop :=
 ∀(m:Mk) (r:Nat) (t:Typ) (env:wJ),Cx hs R m->Lim m c->TyOk hs r t->Q r->EnvOk hs R m.temp env->0<env.length->env.length<=len ->
  bW hs m.own aX m [.ptr 0 0,.agg (zB t),.sl env.length (zU env),int depth] env t c
theorem Adv.zero(m:Mk):Adv m m 0:=⟨rfl,rfl,rfl,rfl,rfl,by omega,by omega,by omega,by omega,by omega,by omega,by omega,by omega⟩
theorem nC(e:Exp):∀es:wH,jG (es++[e])=jG es++tmps e
 |[]=>by simp[jG]
 |x::es=>by simp[jG,nC e es]
variable{depth:Int}{Q:Nat->Prop}
theorem zMF{R:Nat}{len:Nat}(hk:dG hs R c depth Q len)(hc:0<=c)(env:wJ)(h1:0<env.length)(h2:env.length<=len) :
 ∀(ts:wT) (m:Mk),Cx hs R m->Lim m (ts.length*c)->(∀t∈ts,∃r,TyOk hs r t/\Q r)->EnvOk hs R m.temp env ->
  ∃(es:wH) (ms:Nat->Mk),es.length=ts.length/\ms 0=m/\(∀j≤ts.length,Adv m (ms j) (j*c))/\Seg m.temp (ms ts.length).temp (jG es) /\
   ∀(j:Nat) (hj:j<es.length) (hj':j<ts.length),my aX [.ptr 0 0,.agg (zB ts[j]),.sl env.length (zU env),int depth] (mkS (ms j)) (.agg (zH es[j])) (mkS (ms (j+1)))/\WT hs m.own env es[j] ts[j]/\es[j].num0:=by
 intro ts;induction ts using eI with
 |nil =>
  intro m hx hl ht he;refine⟨[],fun _=>m,rfl,rfl,fun j hj=>?_,Seg.nil,fun j hj=>by simp at hj⟩;have:j=0:=by simpa using hj
  subst this;exact(Adv.zero m).mono (by simp)
 |snoc ts t ih =>
  intro m hx hl ht he;have e1:((ts++[t]).length:Int)*c=ts.length*c+c:=by rw[jA4,jAn,jD8,Int.add_mul];simp
  rw[e1]at hl;have hz:0<=(ts.length:Int)*c:=Int.mul_nonneg (by omega) hc;obtain⟨es,ms,q1,q2,q3,q4,q5⟩:=ih m hx (hl.mono (by omega)) (fun t' ht'=>ht t' (by simp[ht'])) he;have a1:=q3 ts.length (jA _);obtain⟨r,hr,hQ⟩:=ht t (by simp);obtain⟨e,m',g1,g2,g3,g4,g5⟩:=hk (ms ts.length) r t env (hx.adv a1) (Lim.adv (c:=ts.length*c) (c':=c) hl a1) hr hQ (he.mono a1.temp1) h1 h2;refine⟨es++[e],fun j=>if j<=ts.length then ms j else m',by simp[q1],by simp[q2],fun j hj=>?_,?_,fun j hj hj'=>?_⟩
  .by_cases hle:j<=ts.length
   .simp only[hle,if_true];exact q3 j hle
   .have:j=ts.length+1:=by simp at hj;omega
    subst this;simp only[show ¬(ts.length+1<=ts.length) by omega,if_false];have:=a1.trans g2;rw[show (((ts.length+1:Nat):Int))*c=ts.length*c+c by rw[jD8,Int.add_mul];simp];exact this
  .rw[nC];simp only[jA4,jAn,show ¬(ts.length+1<=ts.length) by omega,if_false];exact q4.append g4 a1.temp1 g2.temp1
  .simp only[jA4,jAn]at hj hj';by_cases hlt:j<ts.length
   .have hjes:j<es.length:=by omega
    rw[jCu hjes,jCu hlt];simp only[show j<=ts.length by omega,if_true,show j+1<=ts.length by omega];exact q5 j hjes hlt
   .have:j=ts.length:=by omega
    subst this;rw[jCk (by omega),jCk (by omega)];simp only[jA,if_true,show ¬(ts.length+1<=ts.length) by omega,if_false,jBw,q1,jDj];rw[a1.own]at g3;exact⟨g1,g3,g5⟩
theorem zQR{R:Nat}{len:Nat}(hk:dG hs R c depth Q len)(hc:0<=c)(env:wJ)(h1:0<env.length)(h2:env.length<=len)(t:Typ)(hr:TyOk hs r t)(hQ:Q r)
 (m:Mk)(hx:Cx hs R m)(he:EnvOk hs R m.temp env):∀(k:Nat),Lim m (k*c) ->
  ∃(es:wH) (ms:Nat->Mk),es.length<=k/\ms 0=m/\(∀j≤es.length,Adv m (ms j) (j*c))/\Seg m.temp (ms es.length).temp (jG es)/\(∀j<es.length,0<(ms j).left)/\(es.length=k\/(ms es.length).left<=0) /\
   ∀(j:Nat) (hj:j<es.length),my aX [.ptr 0 0,.agg (zB t),.sl env.length (zU env),int depth] (mkS (ms j)) (.agg (zH es[j])) (mkS (ms (j+1)))/\WT hs m.own env es[j] t/\es[j].num0:=by
 intro k;induction k with
 |zero =>
  intro hl;refine⟨[],fun _=>m,jA _,rfl,fun j hj=>?_,Seg.nil,fun j hj=>by simp at hj,.inl rfl,fun j hj=>by simp at hj⟩;have:j=0:=by simpa using hj
  subst this;exact(Adv.zero m).mono (by simp)
 |succ k ih =>
  intro hl;have e1:(((k+1:Nat):Int))*c=k*c+c:=by rw[jD8,Int.add_mul];simp
  rw[e1]at hl;obtain⟨es,ms,q0,q2,q3,q4,q6,q7,q5⟩:=ih (hl.mono (by omega));by_cases hdone:es.length=k/\0<(ms es.length).left
  .obtain⟨hek,hleft⟩:=hdone;have a1:=q3 es.length (jA _);rw[hek]at a1;obtain⟨e,m',g1,g2,g3,g4,g5⟩:=hk (ms k) r t env (hx.adv a1) (Lim.adv (c:=k*c) (c':=c) hl a1) hr hQ (he.mono a1.temp1) h1 h2;refine⟨es++[e],fun j=>if j<=k then ms j else m',by simp[hek],by simp[q2],fun j hj=>?_,?_,fun j hj=>?_,.inl (by simp[hek]),fun j hj=>?_⟩
   .simp only[jA4,jAn,hek]at hj;by_cases hle:j<=k
    .simp only[hle,if_true];exact q3 j (by omega)
    .have:j=k+1:=by omega
     subst this;simp only[show ¬(k+1<=k) by omega,if_false];rw[e1];exact a1.trans g2
   .rw[nC];rw[hek]at q4;simp only[jA4,jAn,hek,show ¬(k+1<=k) by omega,if_false];exact q4.append g4 a1.temp1 g2.temp1
   .simp only[jA4,jAn,hek]at hj;simp only[show j<=k by omega,if_true];by_cases e:j=k
    .subst e;rw[hek]at hleft;exact hleft
    .exact q6 j (by omega)
   .simp only[jA4,jAn,hek]at hj;by_cases hlt:j<k
    .have hjes:j<es.length:=by omega
     rw[jCu hjes];simp only[show j<=k by omega,if_true,show j+1<=k by omega];exact q5 j hjes
    .have:j=k:=by omega
     subst this;rw[jCk (by omega)];simp only[jA,if_true,show ¬(j+1<=j) by omega,if_false,jBw,hek,jDj];rw[a1.own]at g3;exact⟨g1,g3,g5⟩
  .refine⟨es,ms,by omega,q2,q3,q4,q6,.inr ?_,q5⟩;rcases q7 with q7|q7
   .by_cases h:0<(ms es.length).left
    .exact(hdone ⟨q7,h⟩).elim
    .omega
   .exact q7
def dfn(p:Prg)(id:Id):Dfn:=(qM p.defs id).getD .zero
def fSt(p:Prg)(t:Typ):St:=[.box (zI p),.box (zB t)]
def zF3(q:Val->Bool):List Val->Nat->Int
 |[],_=>-1
 |x::l,n=>if q x then n else zF3 q l (n+1)
theorem zJc(q:Val->Bool):∀(l:wI) (n:Nat),(l.any q=true/\0<=zF3 q l n)\/(l.any q=false/\zF3 q l n = -1)
 |[],n=>.inr ⟨rfl,rfl⟩
 |x::l,n=>by
  simp only[zF3,List.any_cons];cases hx:q x with
  |true=>exact .inl ⟨by simp,by simp⟩
  |false=>simpa using zJc q l (n+1)
mutual
def cD(p:Prg):Typ->Val->Bool
 |t,.mk k n l=>validT p t&&(if t.k=0 then decide (k=0)&&decide (l.length=0)&&decide (-1099511627776<=n)&&decide (n<=1099511627776)else if t.k=1 then decide (k=1)&&decide (l.length=0)&&(decide (n=0)||decide (n=1))
  else if t.k=2 then decide (k=4)&&decide (n=0)&&lG p (t.kids.headD .zero) l
  else if (dfn p t.id).kind=1 then decide (k=3)&&decide (0<=n)&&decide (n<(dfn p t.id).slots.length)&&decide (l.length=1)&&eE p ((dfn p t.id).slots.map Slt.typ)[n.toNat]? l
  else decide (k=2)&&decide (n=0)&&decide (l.length=(dfn p t.id).slots.length)&&aH p ((dfn p t.id).slots.map Slt.typ) l)
def lG(p:Prg)(t:Typ):List Val->Bool
 |[]=>true
 |v::l=>cD p t v&&lG p t l
def eE(p:Prg):Option Typ->List Val->Bool
 |some t,v::_=>cD p t v
 |_,_=>false
def aH(p:Prg):List Typ->List Val->Bool
 |t::ts,v::l=>cD p t v&&aH p ts l
 |_,_=>true
end
theorem zFW(p:Prg)(t:Typ):∀(l:wI),lG p t l=l.all (cD p t)
 |[]=>by rw[lG];rfl
 |v::l=>by rw[lG,zFW p t l];rfl
theorem gO(p:Prg)(t:Typ)(v:Val):cD p t v=(validT p t&&(if t.k=0 then decide (v.k=0)&&decide (v.kids.length=0)&&decide (-1099511627776<=v.n)&&decide (v.n<=1099511627776)else if t.k=1 then decide (v.k=1)&&decide (v.kids.length=0)&&(decide (v.n=0)||decide (v.n=1))
 else if t.k=2 then decide (v.k=4)&&decide (v.n=0)&&v.kids.all (cD p (t.kids.headD .zero))
 else if (dfn p t.id).kind=1 then decide (v.k=3)&&decide (0<=v.n)&&decide (v.n<(dfn p t.id).slots.length)&&decide (v.kids.length=1)&&eE p ((dfn p t.id).slots.map Slt.typ)[v.n.toNat]? v.kids
 else decide (v.k=2)&&decide (v.n=0)&&decide (v.kids.length=(dfn p t.id).slots.length)&&aH p ((dfn p t.id).slots.map Slt.typ) v.kids)):=by
 cases v with
 |mk k n l=>rw[cD,zFW];rfl
def qBf:K:=G [kO 3 0,kO 4 1,kO 5 2,kMb 6 false] (Z (G [J 11 3 2,J 12 4 5,kC 13 178 [(kt 11),(kt 12)],kR 14 13] (Y 14 (G [kMb 6 false] kr) ks)) (Z (G [D 15 4 0,L 16 15 1] (K.block 0 (G [kQi 18 16 0 false,M 17 18] (Y 17 (G [D 19 5 0,L 20 19 1,kQi 21 20 0 false,M 22 21,T 22 true (D 23 5 2),T 22 true (L 24 23 1),T 22 true (kN 25 24),T 22 true (kQi 26 25 0 false),kPf 27 22 26,M 28 27,T 28 true (D 29 5 1),T 28 true (L 30 29 1),⟨some (28,true),.bin (some 31) .geq (kt 30) (kc (-1099511627776))⟩,kPf 32 28 31,M 33 32,T 33 true (D 34 5 1),T 33 true (L 35 34 1),T 33 true (kBi 36 35 1099511627776 .leq),kPf 37 33 36,M 6 37] kr) (G [kQi 39 16 1 false,M 38 39] (Y 38 (G [D 40 5 0,L 41 40 1,kQi 42 41 1 false,M 43 42,T 43 true (D 44 5 2),T 43 true (L 45 44 1),T 43 true (kN 46 45),T 43 true (kQi 47 46 0 false),kPf 48 43 47,M 49 48,T 49 true (D 50 5 1),T 49 true (L 51 50 1),T 49 true (kQi 52 51 0 false),T 49 true (M 53 52),T 53 false (D 54 5 1),T 53 false (L 55 54 1),T 53 false (kQi 56 55 1 false),T 49 true (kPt 57 53 56),kPf 58 49 57,M 6 58] kr) (G [kQi 60 16 2 false,M 59 60] (Y 59 (G [D 61 5 0,L 62 61 1,kQi 63 62 4 false,M 64 63,T 64 true (D 65 5 1),T 64 true (L 66 65 1),T 64 true (kQi 67 66 0 false),kPf 68 64 67,M 69 68,T 69 true (D 70 5 2),T 69 true (L 71 70 1),⟨some (69,true),.clo (some 72) 193 [] [(kt 3),(kt 4)]⟩,T 69 true (kC 73 191 [(kt 71),(kt 72)]),T 69 true (kR 74 73),kPf 75 69 74,M 6 75] kr) ks)))))))) (G [J 77 3 2,D 78 4 1,J 79 78 3,kC 80 70 [(kt 77),(kt 79)],
 M 76 80,kE 81 76 0,kE 82 76 1,kZ 7 kz0,S 7 81 31,M 8 82] (Z (G [D 83 7 3,L 84 83 1,kQi 85 84 1 false] (Y 85 (Z (K.dops [(0,0,D 86 5 0),(1,0,L 87 86 1),(2,0,kQi 88 87 3 false),(3,0,M 89 88),(4,0,T 89 true (D 90 5 1)),(5,0,T 89 true (L 91 90 1)),(6,0,T 89 true (kBi 92 91 0 .geq)),(7,0,kPf 93 89 92),(8,0,M 94 93),(9,0,T 94 true (D 95 5 1)),(10,0,T 94 true (L 96 95 1)),(11,0,T 94 true (D 97 7 8)),(12,0,T 94 true (L 98 97 1)),(13,0,T 94 true (kN 99 98)),(14,0,T 94 true (kB 100 96 99 .lss)),(15,0,kPf 101 94 100),(16,0,M 102 101),(17,0,T 102 true (D 103 5 2)),(18,0,T 102 true (L 104 103 1)),(19,0,T 102 true (kN 105 104)),(20,0,T 102 true (kQi 106 105 1 false)),(21,0,kPf 107 102 106),(22,0,M 108 107),(23,0,T 108 true (J 109 3 2)),(24,0,T 108 true (D 110 7 8)),(25,0,T 108 true (L 111 110 1)),(26,0,T 108 true (D 112 5 1)),(27,0,T 108 true (L 113 112 1)),(28,0,T 108 true (kX 114 111 113 11)),(29,0,T 108 true (D 115 114 4)),(30,0,T 108 true (J 116 115 5)),(31,0,T 108 true (D 117 5 2)),(32,0,T 108 true (L 118 117 1)),(33,0,T 108 true (kXi 119 118 3 0)),(34,0,T 108 true (J 120 119 3)),(35,0,T 108 true (kC 121 147 [(kt 109),(kt 116),(kt 120)])),(36,0,kPf 122 108 121),(37,0,M 6 122)]) kr) ks)) (Z (G [D 123 5 0,L 124 123 1,kQi 125 124 2 true,M 126 125,T 126 false (D 127 5 1),T 126 false (L 128 127 1),T 126 false (kQi 129 128 0 true),kPt 130 126 129,M 131 130,T 131 false (D 132 5 2),T 131 false (L 133 132 1),T 131 false (kN 134 133),T 131 false (D 135 7 8),T 131 false (L 136 135 1),
 T 131 false (kN 137 136),T 131 false (kQ 138 134 137 true),kPt 139 131 138] (Y 139 (G [kMb 6 false] kr) ks)) (Z (G [D 140 5 2,L 141 140 1,kN 142 141,kMi 143 0] (K.block 1 (K.loop (G [kB 144 143 142 .lss] (Z (Y 144 ks (K.exit 1)) (Z (K.block 2 (G [M 145 143,kX 146 141 143 3,J 147 146 3,kZ 10 [ki,ki,kl],M 9 145,S 10 147 3] (Z (K.dops [(0,0,J 148 3 2),(1,0,D 149 7 8),(2,0,L 150 149 1),(3,0,M 151 9),(4,0,kX 152 150 151 11),(5,0,D 153 152 4),(6,0,J 154 153 5),(7,0,J 155 10 3),(8,0,kC 156 147 [(kt 148),(kt 154),(kt 155)]),(9,0,kR 157 156)]) (Y 157 (G [kMb 6 false] kr) ks)))) (K.ops [kBi 158 143 1 .add,M 143 158]))))))) (G [kMb 6 true] kr)))))))
theorem qIG:ky f147 qBf:=m_ (by kernel_rfl)
def zUt:K:=G [kO 3 0,kMb 4 false] (Z (K.dops [(0,0,J 5 1 2),(1,0,D 6 2 4),(2,0,L 7 6 1),(3,0,kXi 8 7 5 0),(4,0,J 9 8 5),(5,0,J 10 3 3),(6,0,kC 11 147 [(kt 5),(kt 9),(kt 10)]),(7,0,kR 12 11),(8,0,M 4 12)]) kr)
theorem qCe:ky f193 zUt:=m_ (by kernel_rfl)
def qBi:K:=G [kO 3 0,kO 4 1,kO 5 2,kMb 6 false] (G [J 7 5 3,kC 8 146 [(kt 7)],M 9 8,T 9 true (J 10 3 2),T 9 true (J 11 4 5),T 9 true (J 12 5 3),T 9 true (kC 13 147 [(kt 10),(kt 11),(kt 12)]),kPf 14 9 13,M 6 14] kr)
theorem qIJ:ky f77 qBi:=m_ (by kernel_rfl)
theorem zQ6(p:Prg)(t x:Typ)(hx:t.kids=[x])(v:Val)(b:Bool)(h:my 147 [.agg (zI p),.agg (zB x),.agg (z7 v)] [] (bl b) []) :
 my 193 [.agg (z7 v),.ptr 0 0,.ptr 1 0] (fSt p t) (bl (!b)) (fSt p t):=by
 refine zG func193 rfl qCe (rs:=[.slot 4]) (by kernel_rfl) ?_;unfold zUt;simp[fSt,zI,zB,z7,hx];refine qB h (by simp[zI,zB,z7,qK]) (by simp) ?_;simp;exact mv [0,1] 0 (by rfl) (by simp[zI,zB,hx])
theorem zSU(p:Prg)(t:Typ)(q:Val->Bool)(l:wI)(h:∀v∈l,my 193 [.agg (z7 v),.ptr 0 0,.ptr 1 0] (fSt p t) (bl (q v)) (fSt p t)) :
 my 216 [.sl l.length (zT l),.clo 193 [] [.ptr 0 0,.ptr 1 0]] (fSt p t) (int (zF3 q l 0)) (fSt p t):=by
 refine zG func216 rfl qCg (rs:=[.slot 4]) (by kernel_rfl) ?_;unfold zVF;simp[fSt,zI,zB];intro hl;refine qH (S:=Nat) (fun i=>[(0,.sl l.length (zT l)),(1,.clo 193 [] [.ptr 0 0,.ptr 1 0]),(6,.sl l.length (zT l)),(7,int l.length),(8,int i)]) (fun i=>fSt p t) (fun i=>i<=l.length/\zF3 q l 0=zF3 q (l.drop i) i) (fun i=>l.length-i) 0 (by simp)
  (mw [0,1] 0 (by rfl) (by simp[fSt,zI,zB])) ?_
 rintro i ⟨hi,ho⟩;by_cases hil:i<l.length
 .have hd:l.drop i=l[i]::l.drop (i+1):=jBb hil;simp[hil,j6 hil,fSt,zI,zB];refine mr (h l[i] (jA0 hil)) [0,1] (by simp[fSt,zI,zB,z7]) ?_;cases hq:q l[i]with
  |true =>
   simp[fSt,zI,zB];exact ke [0,1] 0 (by rfl) (by simp[zI,zB]) (by rw[ho,hd];simp[zF3,hq])
  |false =>
   simp[fSt,zI,zB];exact zN (i+1) ⟨hil,by rw[ho,hd];simp[zF3,hq]⟩ (by omega) (mw [0,1] 0 (by rfl) (by simp[fSt,zI,zB,zY hil hl]))
 .have:i=l.length:=by omega
  subst this;simp[fSt,zI,zB];exact ke [0,1] 0 (by rfl) (by simp[zI,zB]) (by rw[ho];simp[zF3])
theorem zS2(p:Prg)(t:Typ)(q:Val->Bool)(l:wI)(h:∀v∈l,my 193 [.agg (z7 v),.ptr 0 0,.ptr 1 0] (fSt p t) (bl (q v)) (fSt p t)) :
 my 191 [.sl l.length (zT l),.clo 193 [] [.ptr 0 0,.ptr 1 0]] (fSt p t) (bl (l.any q)) (fSt p t):=by
 refine zG func191 rfl qCb (rs:=[.slot 4]) (by kernel_rfl) ?_;unfold zVE;simp[fSt,zI,zB];refine mr (zSU p t q l h) [0,1] (by simp[fSt,zI,zB]) ?_;rcases zJc q l 0 with ⟨h1,h2⟩|⟨h1,h2⟩
 all_goals
  simp[fSt,zI,zB,h2];exact mv [0,1] 0 (by rfl) (by simp[zI,zB,h1])
abbrev zHz:FuncId:=88
theorem zUS{R:Nat}(hx:Cx hs R m){k:Nat}(hk:k<hs.length)(h1:∀(j:Nat)(hj:j<k),hs[j].id≠hs[k].id):∃h:k<m.defs.length,zI5 m.defs hs[k].id=(m.defs[k],true)/\m.defs[k].hd=hs[k]:=by
 have hl:=hx.dlen;have h:k<m.defs.length:=by omega
 have hg:=hx.get h;refine⟨h,?_,hg.symm⟩;unfold zI5;rw[zFU h (fun d hd=>?_) (by rw[hg];rfl)];rw[List.mem_take_iff_getElem]at hd;obtain⟨j,hj,rfl⟩:=hd;have hjl:j<m.defs.length:=by omega
 have:=h1 j (by omega);rw[hx.get hjl]at this;exact this
theorem zTi{R:Nat}(hl:Lim m 1)(x depth:Int)(hx0:0<=x)(hx1:x<=65536):bW hs m.own zHz m [.ptr 0 0,.agg (zB jI),.sl env.length (zU env),int x,int depth] env jI 1:=by
 have e9:x.tmod 9=x % 9:=tmN hx0;have e29:x.tmod 29=x % 29:=tmN hx0;have e2:x.tmod 2=x % 2:=tmN hx0;have key:∀n,-1099511627776<=n->n<=1099511627776->(∀(K:Prop),K->K)->my zHz [.ptr 0 0,.agg (zB jI),.sl env.length (zU env),int x,int depth] (mkS m) (.agg (zH (.mk ⟨0,0,m.temp⟩ 0 n Id.zero Typ.zero [] []))) (mkS {m with temp:=m.temp+1,left:=m.left-1})->bW hs m.own zHz m [.ptr 0 0,.agg (zB jI),.sl env.length (zU env),int x,int depth] env jI 1:=fun n q1 q2 _ h =>
  ⟨_,_,h,yV m,.int _ _ _ q1 q2,by simp only[tmps,jG,jBp];exact Seg.one _,u6⟩
 have w1:=z8 (x.tmod 9-2) (by omega);have w2:=z8 (1099511627776-x.tmod 2) (by omega);obtain⟨l1,l2,l3,l4,l5,l6,l7,l8⟩:=hl;by_cases h29:x.tmod 29=3
 .refine key (1099511627776-x.tmod 2) (by omega) (by omega) (fun _ h=>h) ?_;refine zJ func88 rfl zN9 (rs:=[.cell 10 15 true]) (by kernel_rfl) ?_;unfold zK2;simp[mkS,mkB,zB,jI,w1,w2,h29];refine mr (y5 m 0 (1099511627776-x.tmod 2) [] l3 (by omega) (by omega) l6) [0,1] (by simp[mkS,mkB]) ?_;simp[mkS,mkB];exact mv [0,1] 0 (by rfl) (by simp)
 .refine key (x.tmod 9-2) (by omega) (by omega) (fun _ h=>h) ?_;refine zJ func88 rfl zN9 (rs:=[.cell 10 15 true]) (by kernel_rfl) ?_;unfold zK2;simp[mkS,mkB,zB,jI,w1,w2,h29];refine mr (y5 m 0 (x.tmod 9-2) [] l3 (by omega) (by omega) l6) [0,1] (by simp[mkS,mkB]) ?_;simp[mkS,mkB];exact mv [0,1] 0 (by rfl) (by simp)
theorem zQX(hl:Lim m 1)(x depth:Int)(hx0:0<=x):bW hs m.own zHz m [.ptr 0 0,.agg (zB jV),.sl env.length (zU env),int x,int depth] env jV 1:=by have e2:x.tmod 2=x % 2:=tmN hx0;obtain⟨l1,l2,l3,l4,l5,l6,l7,l8⟩:=hl;refine⟨.mk ⟨0,0,m.temp⟩ 1 (x.tmod 2) Id.zero Typ.zero [] [],_,?_,yV m,.bool _ _ _ (by omega),by simp only[tmps,jG,jBp];exact Seg.one _,u6⟩;refine zJ func88 rfl zN9 (rs:=[.cell 10 15 true]) (by kernel_rfl) ?_;unfold zK2;simp[mkS,mkB,zB,jV];refine mr (y5 m 1 (x.tmod 2) [] l3 (by omega) (by omega) l6) [0,1] (by simp[mkS,mkB]) ?_;simp[mkS,mkB];exact mv [0,1] 0 (by rfl) (by simp)
theorem zQZ{R:Nat}{len:Nat}(hc:0<=c)(hl:Lim m (2*c+1))(x:Int)(hx0:0<=x)(t:Typ)(hr:TyOk hs r t)(hQ:Q r)
 (hk:dG hs R c (depth-1) Q len)(hx:Cx hs R m)(he:EnvOk hs R m.temp env)(h1:0<env.length)(h2:env.length<=len)(hd1 : -1000<=depth)(hd2:depth<=1000) :
 bW hs m.own zHz m [.ptr 0 0,.agg (zB (jP t)),.sl env.length (zU env),int x,int depth] env (jP t) (2*c+1):=by
 have e3:x.tmod 3=x % 3:=tmN hx0;have wd:=z8 (depth-1) (by omega);obtain⟨K,hK,hK2⟩:∃K:Nat,(K:Int)=(if 0<=depth then x.tmod 3 else 0)/\K<=2:=by
  by_cases h:0<=depth
  .exact⟨(x % 3).toNat,by rw[if_pos h,e3];omega,by omega⟩
  .exact⟨0,by rw[if_neg h];rfl,by omega⟩
 have hKc:(K:Int)*c<=2*c:=jD9 (by omega) hc;obtain⟨es,ms,q0,q2,q3,q4,q6,q7,q5⟩:=zQR hk hc env h1 h2 t hr hQ m hx he K (hl.mono (by omega));have ha:=q3 es.length (jA _);have hec:(es.length:Int)*c<=2*c:=jD9 (by omega) hc;have ha2:=ha.mono hec;have hln:=Lim.adv (c:=2*c) (c':=1) hl ha2;obtain⟨l1,l2,l3,l4,l5,l6,l7,l8⟩:=hln;refine⟨.mk ⟨0,0,(ms es.length).temp⟩ 11 0 Id.zero t es [],{ms es.length with temp:=(ms es.length).temp+1,left:=(ms es.length).left-1},?_,ha2.trans (yV _),.list _ _ _ _ fun j hj=>(q5 j hj).2.1,
  by simp only[tmps];exact q4.append (Seg.one _) ha.temp1 (by omega),gS (zBc rfl fun j hj=>(q5 j hj).2.2)⟩
 refine zJ func88 rfl zN9 (rs:=[.cell 10 15 true]) (by kernel_rfl) ?_;unfold zK2;simp[mkS,mkB,zB,jP];refine qH (S:=Nat) (fun i=>[(0,.ptr 0 0),(2,.sl env.length (zU env)),(3,int x),(4,int depth),(6,.ptr 2 0),(10,.ptr 3 0),(12,.row 4 i),(13,int i)])
  (fun i=>mkS (ms i)++[.box (zB (jP t)),.box (zH Exp.zero),.row false 40 15 i (qS (es.take i))]) (fun i=>i<=es.length) (fun i=>es.length-i) 0 (by simp)
  ((jS (t:=12) (by simp) 40 15).trans (mw [0,1,2,3,4] 0 (by rfl) (by simp[mkS,mkB,zB,jP,q2,zH,Exp.zero,Id.zero,Typ.zero]))) ?_
 intro i hi;have hms:=q3 i hi;by_cases hi2:i<es.length
 .obtain⟨g1,_,_⟩:=q5 i hi2;have c2:0<=depth:=by
   by_cases h:0<=depth
   .exact h
   .rw[if_neg h]at hK;omega
  have c1:(i:Int)<x.tmod 3:=by rw[if_pos c2]at hK;omega
  have c3:=q6 i hi2;have hst:qS (es.take (i+1))=qS (es.take i)++zH es[i]:=aR hi2;have hw:=yU i (by omega);simp[mkS,mkB,zB,jP,c1,c2,c3,wd,qK];refine mr g1 [0,1] (by simp[mkS,mkB,zB]) ?_;simp[mkS,mkB];refine⟨⟨by simp[maxLen];omega,by omega⟩,?_⟩;exact zN (i+1) hi2 (by omega) (mw [0,1,2,3,4] 0 (by rfl) (by simp[mkS,mkB,zB,jP,zH,Exp.zero,Id.zero,Typ.zero,hst,hw]))
 .have hie:i=es.length:=by omega
  subst hie;have hexit:¬((es.length:Int)<x.tmod 3/\0<=depth/\0<(ms es.length).left):=fun hh=>by
   rcases q7 with q7|q7
   .rw[if_pos hh.2.1]at hK;omega
   .omega
  by_cases c1:(es.length:Int)<x.tmod 3
  .by_cases c2:0<=depth
   .have c3:¬0<(ms es.length).left:=fun h=>hexit ⟨c1,c2,h⟩
    simp[mkS,mkB,zB,jP,c1,c2,c3,qK];refine⟨jR [(0,.ptr 0 0),(6,.ptr 2 0),(10,.ptr 3 0),(12,.sl es.length (qS es))],mkS (ms es.length)++[.box (zB (jP t)),.box (zH Exp.zero)],mw [0,1,2,3] 1 (by rfl) (by simp[mkS,mkB,zB,jP,zH,Exp.zero,Id.zero,Typ.zero,qK]),?_⟩;simp[mkS,mkB,zB,jP];refine mr (y5 (ms es.length) 11 0 es l3 (by omega) (by omega) l6) [0,1] (by simp[mkS,mkB]) ?_;simp[mkS,mkB,zB,jP,zH,qK];exact mv [0,1] 0 (by rfl) (by simp[zH])
   .simp[mkS,mkB,zB,jP,c1,c2,qK];refine⟨jR [(0,.ptr 0 0),(6,.ptr 2 0),(10,.ptr 3 0),(12,.sl es.length (qS es))],mkS (ms es.length)++[.box (zB (jP t)),.box (zH Exp.zero)],mw [0,1,2,3] 1 (by rfl) (by simp[mkS,mkB,zB,jP,zH,Exp.zero,Id.zero,Typ.zero,qK]),?_⟩;simp[mkS,mkB,zB,jP];refine mr (y5 (ms es.length) 11 0 es l3 (by omega) (by omega) l6) [0,1] (by simp[mkS,mkB]) ?_;simp[mkS,mkB,zB,jP,zH,qK];exact mv [0,1] 0 (by rfl) (by simp[zH])
  .simp[mkS,mkB,zB,jP,c1,qK];refine⟨jR [(0,.ptr 0 0),(6,.ptr 2 0),(10,.ptr 3 0),(12,.sl es.length (qS es))],mkS (ms es.length)++[.box (zB (jP t)),.box (zH Exp.zero)],mw [0,1,2,3] 1 (by rfl) (by simp[mkS,mkB,zB,jP,zH,Exp.zero,Id.zero,Typ.zero,qK]),?_⟩;simp[mkS,mkB,zB,jP];refine mr (y5 (ms es.length) 11 0 es l3 (by omega) (by omega) l6) [0,1] (by simp[mkS,mkB]) ?_;simp[mkS,mkB,zB,jP,zH,qK];exact mv [0,1] 0 (by rfl) (by simp[zH])
variable{p:Prg}
theorem zMd(h:validT p t=true)(h2:t.k=2):∃x,t.kids=[x]:=by
 cases t with
 |mk k id kids =>
  simp only[Typ.k_mk]at h2;subst h2;simp only[validT,yA,Typ.k_mk,Typ.id_mk,Typ.kids_mk,if_true]at h;split at h
  .exact⟨_,rfl⟩
  .cases h
theorem zNY{ts:wT}:aH p ts []=true:=by cases ts<;>simp[aH]
theorem zQ7{v:Val}(h:validT p t=false):cD p t v=false:=by rw[gO,h];rfl
theorem zDn(p:Prg)(t:Typ)(v:Val):my 147 [.agg (zI p),.agg (zB t),.agg (z7 v)] [] (bl (cD p t v)) []:=by
 refine zG func147 rfl qIG (rs:=[.slot 6]) (by kernel_rfl) ?_;unfold qBf;simp[zI,zB,z7];refine mu (zFi p t) (by simp[zI,zB]) ?_;cases hv:validT p t with
 |false =>
  simp;exact zC 0 (by simp[zQ7 hv])
 |true =>
 by_cases h0:t.k=0
 .have e:cD p t v=(decide (v.k=0)&&decide (v.kids.length=0)&&decide (-1099511627776<=v.n)&&decide (v.n<=1099511627776)):=by rw[gO,hv,if_pos h0,jCv]
  by_cases c1:v.k=0
  .by_cases c2:v.kids.length=0
   .by_cases c3 : -1099511627776<=v.n
    all_goals
     simp[hv,h0,c1,c2,c3];exact zC 0 (by rw[e];simp[c1,c2,c3])
   .simp[hv,h0,c1,c2];exact fun _=>zC 0 (by rw[e];simp[c1,c2])
  .simp[hv,h0,c1];exact zC 0 (by rw[e];simp[c1])
 by_cases h1:t.k=1
 .have e:cD p t v=(decide (v.k=1)&&decide (v.kids.length=0)&&(decide (v.n=0)||decide (v.n=1))):=by rw[gO,hv,if_neg h0,if_pos h1,jCv]
  by_cases c1:v.k=1
  .by_cases c2:v.kids.length=0
   .by_cases c3:v.n=0
    all_goals
     simp[hv,h1,c1,c2,c3];exact zC 0 (by rw[e];simp[c1,c2,c3])
   .simp[hv,h1,c1,c2];exact fun _=>zC 0 (by rw[e];simp[c1,c2])
  .simp[hv,h1,c1];exact zC 0 (by rw[e];simp[c1])
 by_cases h2:t.k=2
 .obtain⟨x,hx⟩:=zMd hv h2;have e:cD p t v=(decide (v.k=4)&&decide (v.n=0)&&v.kids.all (cD p x)):=by rw[gO,hv,if_neg h0,if_neg h1,if_pos h2,jCv,hx];rfl
  by_cases c1:v.k=4
  .by_cases c2:v.n=0
   .simp[hv,h2,c1,c2];refine mr (zS2 p t (fun y=>!cD p x y) v.kids (fun y hy=>zQ6 p t x hx y _ (zDn p x y))) [0,1] (by simp[fSt,zI,zB,h2]) ?_;simp[fSt,zI,zB];exact zC 0 (by rw[e];simp[c1,c2,List.all_eq_not_any_not])
   .simp[hv,h2,c1,c2];exact zC 0 (by rw[e];simp[c1,c2])
  .simp[hv,h2,c1];exact zC 0 (by rw[e];simp[c1])
 have e:=gO p t v;rw[hv,if_neg h0,if_neg h1,if_neg h2,jCv]at e;simp[hv,h0,h1,h2];refine mu (s9 p t.id) (by simp[zI,zX,gN]) ?_;have hD:(qM p.defs t.id).getD .zero=dfn p t.id:=rfl;generalize dfn p t.id=D at hD e;by_cases hk:D.kind=1
 .rw[if_pos hk]at e;by_cases c1:v.k=3
  .by_cases c2:0<=v.n
   .by_cases c3:v.n<D.slots.length
    .by_cases c4:v.kids.length=1
     .obtain⟨x,hx⟩:∃x,v.kids=[x]:=List.length_eq_one_iff.1 c4;obtain⟨i,hi⟩:∃i:Nat,v.n=i:=⟨v.n.toNat,by omega⟩;have hil:i<D.slots.length:=by omega
      simp[gN,hD,zQ,hk,c1,hi,hil,hx,jN hil,aD];refine qB (zDn p D.slots[i].typ x) (by simp[zI,zB,z7]) (by simp) ?_;simp;exact zC 0 (by rw[e];simp[c1,hi,hil,hx,eE])
     .have c4':¬(v.kids.length:Int)=1:=by omega
      simp[gN,hD,zQ,hk,c1,c2,c3,c4']
      first|exact zC 0 (by rw[e];simp[c1,c2,c3,c4])|exact fun _=>zC 0 (by rw[e];simp[c1,c2,c3,c4])|exact fun _ _=>zC 0 (by rw[e];simp[c1,c2,c3,c4])
    .simp[gN,hD,zQ,hk,c1,c2,c3];exact zC 0 (by rw[e];simp[c1,c2,c3])
   .simp[gN,hD,zQ,hk,c1,c2];exact zC 0 (by rw[e];simp[c1,c2])
  .simp[gN,hD,zQ,hk,c1];exact zC 0 (by rw[e];simp[c1])
 rw[if_neg hk]at e;by_cases c1:v.k=2
 .by_cases c2:v.n=0
  .by_cases c3:v.kids.length=D.slots.length
   .simp[gN,hD,zQ,hk,c1,c2,c3];intro hl;refine qH (S:=Nat) (fun i=>[(3,.ptr 0 0),(7,.ptr 3 0),(141,.sl v.kids.length (zT v.kids)),(142,int v.kids.length),(143,int i)])
     (fun i=>[.box (zI p),.box (zB t),.box (z7 v),.box (zQ D)]) (fun i=>i<=v.kids.length/\aH p (D.slots.map Slt.typ) v.kids=aH p ((D.slots.map Slt.typ).drop i) (v.kids.drop i)) (fun i=>v.kids.length-i) 0 (by simp)
     (mw [0,1,2,3] 0 (by rfl) (by simp[zI,zB,z7,zQ,hk,c1,c2,c3])) ?_
    rintro i ⟨hi,ho⟩;by_cases hil:i<v.kids.length
    .have hiD:i<D.slots.length:=by omega
     have d1:v.kids.drop i=v.kids[i]::v.kids.drop (i+1):=jBb hil;have d2:(D.slots.map Slt.typ).drop i=D.slots[i].typ::(D.slots.map Slt.typ).drop (i+1):=by rw[jBb (by simpa using hiD)];simp
     simp[hil,hiD,j6 hil,jN hiD,zI,zQ,aD];refine qB (zDn p D.slots[i].typ v.kids[i]) (by simp[zI,zB,z7]) (by simp) ?_;cases hf:cD p D.slots[i].typ v.kids[i]with
     |true =>
      simp;exact zN (i+1) ⟨hil,by rw[ho,d1,d2];simp[aH,hf]⟩ (by omega) (mw [0,1,2,3] 0 (by rfl) (by simp[zI,zB,z7,zQ,zY hil (c3▸hl)]))
     |false =>
      simp;exact zC 0 (by rw[e,ho,d1,d2];simp[aH,hf])
    .have:i=v.kids.length:=by omega
     subst this;simp;exact zC 0 (by rw[e,ho,jDh (jA v.kids.length),zNY];simp[c1,c2,c3])
   .have c3':¬(v.kids.length:Int)=D.slots.length:=by omega
    simp[gN,hD,zQ,hk,c1,c2,c3']
    first|exact zC 0 (by rw[e];simp[c1,c2,c3])|exact fun _=>zC 0 (by rw[e];simp[c1,c2,c3])|exact fun _ _=>zC 0 (by rw[e];simp[c1,c2,c3])
  .simp[gN,hD,zQ,hk,c1,c2];exact zC 0 (by rw[e];simp[c1,c2])
 .simp[gN,hD,zQ,hk,c1];exact zC 0 (by rw[e];simp[c1])
termination_by qU v
decreasing_by
 .exact dY hy
 .exact dY (by simp[hx])
 .exact dY (jA0 _)
theorem zPg(p:Prg)(t:Typ)(v:Val)(h1:qU v<=256)(h2:fJ v<=24) :
 my 77 [.agg (zI p),.agg (zB t),.agg (z7 v)] [] (bl (cD p t v)) []:=by
 refine zG func77 rfl qIJ (rs:=[.slot 6]) (by kernel_rfl) ?_;unfold qBi;simp[zI,zB,z7];refine mu (zRB v h1 h2) (by simp[z7]) ?_;simp;refine mu (zDn p t v) (by simp[zI,zB,z7]) ?_;simp;exact zC 0 (by simp)
abbrev vz:Val:=.mk 0 0 []
def zBG(a b:Int):Int:=if b=0 then 0 else if a.tmod b≠0/\¬(a<0↔b<0)then a.tdiv b-1 else a.tdiv b
def zHF(a b:Int):Int:=if b=0 then 0 else a-b*zBG a b
def zF7(n a b:Int):Int:=if n=0 then eL (a+b)else if n=1 then eL (a-b)else if n=2 then eL (a*b)else if n=3 then zBG a b else zHF a b
def opV(n:Int):List Val->Val
 |[a]=>if n=9 then fM (decide (a.n=0))else .mk 0 a.kids.length []
 |[a,b]=>if n<=4 then .mk 0 (zF7 n a.n b.n) []else if n=5 then fM (decide (a.n<b.n))else if n=6 then fM (decide (nG a b=0))
  else if n=7 then fM (decide (a.n=1/\b.n=1))else if n=8 then fM (decide (a.n=1\/b.n=1))else .mk 4 0 (a.kids++b.kids)
 |_=>vz
structure XS where
 fuel:Int
 fail:Int
 ds:List Id
 ns:List Id
abbrev Evl:=Exp->List EVar->XS->Val×XS
def jQ(ev:Evl)(env:wP):List Exp->XS->wI×XS
 |[],s=>([],s)
 |e::l,s=>((ev e env s).1::(jQ ev env l (ev e env s).2).1,(jQ ev env l (ev e env s).2).2)
theorem zFE(ev:Evl)(env:wP)(e:Exp):∀(l:wH) (s:XS),jQ ev env (l++[e]) s=((jQ ev env l s).1++[(ev e env (jQ ev env l s).2).1],(ev e env (jQ ev env l s).2).2)
 |[],s=>rfl
 |x::l,s=>by simp only[jBf,jQ,zFE ev env e l]
theorem zA1(ev:Evl)(env:wP):∀(l:wH) (s:XS),(jQ ev env l s).1.length=l.length
 |[],s=>rfl
 |x::l,s=>by simp only[jQ,jAb,zA1 ev env l]
def aN(ev:Evl)(env:wP)(i:Id)(b:Exp):List Val->Val×XS->Val×XS
 |[],r=>r
 |x::l,r=>aN ev env i b l (ev b (env++[⟨i,0,x⟩]++[⟨i,1,r.1⟩]) r.2)
theorem zEb(ev:Evl)(env:wP)(i:Id)(b:Exp)(x:Val):∀(l:wI) (r:Val×XS),aN ev env i b (l++[x]) r=ev b (env++[⟨i,0,x⟩]++[⟨i,1,(aN ev env i b l r).1⟩]) (aN ev env i b l r).2
 |[],r=>rfl
 |y::l,r=>by simp only[jBf,aN,zEb ev env i b x l]
def iK(ss:List Slt)(vs:wI):wP:=List.zipWith (fun s v=>⟨s.id,0,v⟩) ss vs
theorem zAB(ss:List Slt)(vs:wI)(h:vs.length=ss.length):(iK ss vs).length=ss.length:=by simp[iK,h]
theorem zNP{ss:List Slt}{vs:wI}(h:vs.length=ss.length)(hi:i<ss.length):(iK ss vs).take (i+1)=(iK ss vs).take i++[⟨ss[i].id,0,vs[i]⟩]:=by rw[jA8 (by rw[zAB ss vs h];exact hi)];simp[iK]
def dR(ev:Evl)(d:Dfn)(vs:wI)(s:XS):Val×XS:=if s.fail≠0 then (vz,s)else ev d.body (iK d.slots vs) {s with ds:=s.ds++[d.id]}
def jO(ev:Evl)(e:Exp)(env:wP)(s:XS):Val×XS :=
 if (ev (e.kids.headD .zero) env s).2.fail≠0 then (vz,(ev (e.kids.headD .zero) env s).2)
 else if e.k=5 then ev (e.kids.getD (if (ev (e.kids.headD .zero) env s).1.n=1 then 1 else 2) .zero) env (ev (e.kids.headD .zero) env s).2
 else if e.k=6 then ev (e.kids.getD 1 .zero) (env++[⟨e.id,0,(ev (e.kids.headD .zero) env s).1⟩]) (ev (e.kids.headD .zero) env s).2
 else if e.k=8 then ((ev (e.kids.headD .zero) env s).1.kids.getD e.n.toNat vz,(ev (e.kids.headD .zero) env s).2)
 else if e.k=10 then ev (e.kids.getD (1+(ev (e.kids.headD .zero) env s).1.n).toNat .zero) (env++[⟨e.id,(ev (e.kids.headD .zero) env s).1.n,(ev (e.kids.headD .zero) env s).1.kids.headD vz⟩]) (ev (e.kids.headD .zero) env s).2
 else aN ev env e.id (e.kids.getD 2 .zero) (ev (e.kids.headD .zero) env s).1.kids (ev (e.kids.getD 1 .zero) env (ev (e.kids.headD .zero) env s).2)
def zf(c:Bool)(s:XS)(v:Val):Val:=if c=true/\s.fail≠0 then vz else v
def qP(p:Prg)(fl:Nat)(ev:Evl)(e:Exp)(env:wP)(s:XS):Val×XS :=
 if e.k=0 then (.mk 0 e.n [],s)
 else if e.k=1 then (.mk 1 e.n [],s)
 else if e.k=2 then (vT env e.ref e.n,s)
 else if e.k=5\/e.k=6\/e.k=8\/e.k=10\/e.k=12 then jO ev e env s
 else if e.k=3 then dR ev (dfn p e.ref) (jQ ev env e.kids s).1 (jQ ev env e.kids s).2
 else if e.k=4 then (zf true (jQ ev env e.kids s).2 (opV e.n (jQ ev env e.kids s).1),(jQ ev env e.kids s).2)
 else if e.k=7 then (zf (fl==1) (jQ ev env e.kids s).2 (.mk 2 0 (jQ ev env e.kids s).1),(jQ ev env e.kids s).2)
 else if e.k=9 then (zf (fl==1) (jQ ev env e.kids s).2 (.mk 3 e.n (jQ ev env e.kids s).1),(jQ ev env e.kids s).2)
 else (zf (fl==1) (jQ ev env e.kids s).2 (.mk 4 0 (jQ ev env e.kids s).1),(jQ ev env e.kids s).2)
def zN2(v:Val):Prop:=256<vY v\/24<p6 v
instance (v:Val):Decidable (zN2 v):=by unfold zN2;infer_instance
abbrev zI6:Int:=18
abbrev zBH:Int:=4
def oZ(r:Val×XS):XS:=if r.2.fail=0/\zN2 r.1 then {r.2 with fail:=zBH} else r.2
def zQw(fl:Nat)(r:Val×XS):Val×XS:=(zf (fl==2) (oZ r) r.1,oZ r)
def gH(e:Exp)(s:XS):XS:={s with fuel:=s.fuel-1,ns:=s.ns++[e.id]}
def bD(p:Prg)(fl:Nat):Nat->Evl
 | 0,_,_,s=>if s.fail≠0 then (vz,s)else (vz,{s with fail:=zI6})
 |m+1,e,env,s =>
  if s.fail≠0 then (vz,s)else if s.fuel<=0 then (vz,{s with fail:=zI6})
  else zQw fl (qP p fl (bD p fl m) e env (gH e s))
end Go.Proofs.YtolkhapmieigcaaGreatDoor

/- trace.differ: the IDs that only one of two maps has, or whose things differ; in some order -/
import Derived.Test.YtolkhapmieigcaaGreatDoorX11
set_option linter.unusedVariables false
set_option maxHeartbeats 8000000
set_option maxRecDepth 100000
set_option linter.unusedSimpArgs false
open Go.Proofs.Tryz
namespace Go.Proofs.YtolkhapmieigcaaGreatDoor
open Go.Abs
def eD{α:Type}(idf : α->Id)(D:List α)(c : α->Bool)(met:wA):wG:=met.filterMap fun i=>(D[i]?).bind fun x=>if c x then some (idf x)else none
variable{met:wA}{i:Nat}
theorem sF{α:Type}{idf : α->Id}{D:List α}{c : α->Bool}{x : α}(h:D[i]?=some x):eD idf D c (met++[i])=if c x then eD idf D c met++[idf x]else eD idf D c met:=by simp only[eD,List.filterMap_append,List.filterMap_cons,List.filterMap_nil,h,Option.bind_some];cases c x<;>simp
theorem zKq{α β:Type}{f g : α->Option β}:∀{l:List α},(∀x∈l,f x=g x)->l.filterMap f=l.filterMap g
 |[],_=>rfl
 |x::l,h=>by rw[List.filterMap_cons,List.filterMap_cons,h x (jAm ..),zKq fun y hy=>h y (jAk _ hy)]
theorem zNv{α:Type}{idf : α->Id}{c : α->Bool}(D:List α):eD idf D c (List.range D.length)=(D.filter c).map idf:=by
 induction D using fT with
 |nil=>rfl
 |snoc D y ih =>
  have h1:eD idf (D++[y]) c (List.range D.length)=eD idf D c (List.range D.length):=by
   unfold eD;refine zKq fun i hi=>?_
   rw[jAp (jC6.1 hi)]
  rw[jA4,jAn,List.range_succ,sF (x:=y) (by simp),h1,ih,jCw,jBa];cases hc:c y<;>simp[hc]
structure Met(n:Nat)(met:List Nat):Prop where
 nd:met.Nodup
 lt:∀i∈met,i<n
theorem Met.snoc{n:Nat}(h:Met n met)(hi:i<n)(hn:i∉met):Met n (met++[i]):=by
 refine⟨?_,fun j hj=>?_⟩
 .rw[jD4];refine⟨h.nd,by simp,fun a ha b hb=>?_⟩;simp only[jAi]at hb;subst hb;exact fun e=>hn (e▸ha)
 .rcases jA6.1 hj with hj|hj
  .exact h.lt j hj
  .rw[jAi.1 hj];exact hi
theorem Met.le{n:Nat}(h:Met n met):met.length<=n:=by
 have:=h.nd.length_le_of_subset (l₂:=List.range n) fun i hi=>jC6.2 (h.lt i hi)
 simpa using this
theorem Met.perm{n:Nat}(h:Met n met)(ha:∀i,i<n->i∈met):met.Perm (List.range n) :=
 (List.perm_ext_iff_of_nodup h.nd List.nodup_range).2 fun i=>⟨fun hi=>jC6.2 (h.lt i hi),fun hi=>ha i (jC6.1 hi)⟩
theorem Met.sel{α:Type}{idf : α->Id}{c : α->Bool}{D:List α}(h:Met D.length met)(ha:∀i,i<D.length->i∈met):(eD idf D c met).Perm ((D.filter c).map idf):=by rw[<-zNv];exact(h.perm ha).filterMap _
theorem zCd{α:Type}{idf : α->Id}{enc : α->wF}{D:List α}{p:wC×A}(h:(fM idf enc D)[i]?=some p):∃x,D[i]?=some x/\p=(eK (idf x),.agg (enc x)):=by rw[fM,jBi,jAf]at h;obtain⟨x,hx,rfl⟩:=h;exact⟨x,hx,rfl⟩
@[simp]theorem qGw{α:Type}{idf : α->Id}{enc : α->wF}{D:List α}:(fM idf enc D).length=D.length:=by simp[fM]
def cD1{α:Type}(idf : α->Id)(D2:List α)(same : α->α->Bool)(x : α):Bool:=match aH idf D2 (idf x)with
 |some y=>!same x y
 |none=>true
def cD2{α:Type}(idf : α->Id)(D1:List α)(y : α):Bool:=(aH idf D1 (idf y)).isNone
def zFn{α:Type}(idf : α->Id)(same : α->α->Bool)(D1 D2:List α):wG:=(D1.filter (cD1 idf D2 same)).map idf++(D2.filter (cD2 idf D1)).map idf
noncomputable def zWd:K:=zV prog f62 z7 []
theorem qEi:ky f62 zWd:=m_ (by kernel_rfl)
theorem zMv(g:FuncId)(hcal:zA prog g=true)(same:Dfn->Dfn->Bool)(hs:∀x y,my g [.agg (zJ x),.agg (zJ y)] [] (bl (same x y)) [])(D1 D2:wS)(hl1:D1.length<=1000000)(hl2:D2.length<=1000000) :
 aK prog 62 [.map 0,.map 1,.clo g [] []] [.mp true 3 (fM Dfn.id zJ D1),.mp true 3 (fM Dfn.id zJ D2)] fun o τ=>∃l:wG,l.Perm (zFn Dfn.id same D1 D2)/\o=.ret (.row 2 l.length) /\
  τ = [.mp true 3 (fM Dfn.id zJ D1),.mp true 3 (fM Dfn.id zJ D2),.row false 32 3 l.length (zY l)]:=by
 refine zDF func62 rfl qEi (rs:=[.slot 6]) (by kernel_rfl) ?_
 (conv in zWd=>cbv)
 simp;refine qI (S:=wA) (fun met=>[(0,.map 0),(1,.map 1),(2,.clo g [] []),(7,.row 3 (eD Dfn.id D1 (cD1 Dfn.id D2 same) met).length),(16,.ptr 2 0)])
  (fun met=>[.mp true 3 (fM Dfn.id zJ D1),.mp true 3 (fM Dfn.id zJ D2),.it 0 D1.length met,.row false 32 3 (eD Dfn.id D1 (cD1 Dfn.id D2 same) met).length (zY (eD Dfn.id D1 (cD1 Dfn.id D2 same) met))])
  (fun met=>Met D1.length met) (fun met=>D1.length-met.length) [] ⟨by simp,by simp⟩
  ((jS (t:=7) (by simp) 32 3).trans (mw [0,1,2,3] 0 (by rfl) (by simp[eD]))) ?_
 intro met hmet;simp;have hkb:∀d:Id,zBY (eK d)=.agg [.lit (.int .i64 d.a),.lit (.int .i64 d.b),.lit (.int .i64 d.c)]:=fun _=>rfl
 refine⟨fun i ks v hi hp=>?_,fun hall=>?_⟩
 .obtain⟨x,hx,e⟩:=zCd hp;cases e;refine⟨_,_,hp,?_⟩;have hin:i<D1.length:=(jA5.1 hx).1;have hm:=hmet.snoc hin hi;have hle:=hm.le;have hle0:=hmet.le;rw[jA4,jAn]at hle;have hsel:=sF (idf:=Dfn.id) (c:=cD1 Dfn.id D2 same) (met:=met) hx;have hsl:(eD Dfn.id D1 (cD1 Dfn.id D2 same) met).length<=met.length:=jDk _ _;have hf:=hU (i:=x.id) (enc:=zJ) (idf:=Dfn.id) D2;generalize eD Dfn.id D1 (cD1 Dfn.id D2 same) met=L at hsel hsl ⊢;simp only[eK]at hf;cases hh:aH Dfn.id D2 x.id with
  |none =>
   rw[hh]at hf;simp only[jD2]at hf;have hc:cD1 Dfn.id D2 same x=true:=by simp[cD1,hh]
   rw[if_pos hc]at hsel;simp[hkb,zJ,hf];refine⟨⟨by simp[maxLen];omega,by omega⟩,?_⟩;exact zO (met++[i]) hm (by simp;omega) (mw [0,1,2,3] 0 (by rfl) (by simp[hsel,qO]))
  |some y =>
   rw[hh]at hf;simp only[jBz]at hf;simp[hkb,zJ,hf,hcal];refine mu (hs x y) (by simp[zJ]) ?_;cases hxy:same x y with
   |false =>
    have hc:cD1 Dfn.id D2 same x=true:=by simp[cD1,hh,hxy]
    rw[if_pos hc]at hsel;simp;refine⟨⟨by simp[maxLen];omega,by omega⟩,?_⟩;exact zO (met++[i]) hm (by simp;omega) (mw [0,1,2,3] 0 (by rfl) (by simp[hsel,qO]))
   |true =>
    have hc:cD1 Dfn.id D2 same x=false:=by simp[cD1,hh,hxy]
    rw[if_neg (by simp[hc])]at hsel;simp;exact zO (met++[i]) hm (by simp;omega) (mw [0,1,2,3] 0 (by rfl) (by simp[hsel]))
 .have hperm:=hmet.sel (idf:=Dfn.id) (c:=cD1 Dfn.id D2 same) hall;generalize eD Dfn.id D1 (cD1 Dfn.id D2 same) met=L at hperm ⊢;have hL:L.length<=D1.length:=by rw[hperm.length_eq,jAb];exact jBp _ _
  refine qI (S:=wA) (fun met=>[(0,.map 0),(1,.map 1),(7,.row 2 (L++eD Dfn.id D2 (cD2 Dfn.id D1) met).length),(42,.ptr 3 0)])
   (fun met=>[.mp true 3 (fM Dfn.id zJ D1),.mp true 3 (fM Dfn.id zJ D2),.row false 32 3 (L++eD Dfn.id D2 (cD2 Dfn.id D1) met).length (zY (L++eD Dfn.id D2 (cD2 Dfn.id D1) met)),.it 1 D2.length met])
   (fun met=>Met D2.length met) (fun met=>D2.length-met.length) [] ⟨by simp,by simp⟩
   (mw [0,1,3,4] 0 (by rfl) (by simp[eD])) ?_
  clear hmet hall met;intro met hmet;simp;refine⟨fun i ks v hi hp=>?_,fun hall=>?_⟩
  .obtain⟨x,hx,e⟩:=zCd hp;cases e;refine⟨_,_,hp,?_⟩;have hin:i<D2.length:=(jA5.1 hx).1;have hm:=hmet.snoc hin hi;have hle:=hm.le;have hle0:=hmet.le;rw[jA4,jAn]at hle;have hsel:=sF (idf:=Dfn.id) (c:=cD2 Dfn.id D1) (met:=met) hx;have hsl:(eD Dfn.id D2 (cD2 Dfn.id D1) met).length<=met.length:=jDk _ _;have hf:=hU (i:=x.id) (enc:=zJ) (idf:=Dfn.id) D1;generalize eD Dfn.id D2 (cD2 Dfn.id D1) met=M at hsel hsl ⊢;simp only[eK]at hf;cases hh:aH Dfn.id D1 x.id with
   |none =>
    rw[hh]at hf;simp only[jD2]at hf;have hc:cD2 Dfn.id D1 x=true:=by simp[cD2,hh]
    rw[if_pos hc]at hsel;simp[hkb,hf];refine⟨⟨by simp[maxLen];omega,by omega⟩,?_⟩;exact zO (met++[i]) hm (by simp;omega) (mw [0,1,2,3] 0 (by rfl) (by simp[hsel,qO,jBb]))
   |some y =>
    rw[hh]at hf;simp only[jBz]at hf;have hc:cD2 Dfn.id D1 x=false:=by simp[cD2,hh]
    rw[if_neg (by simp[hc])]at hsel;simp[hkb,zJ,hf];exact zO (met++[i]) hm (by simp;omega) (mw [0,1,2,3] 0 (by rfl) (by simp[hsel]))
  .have hperm2:=hmet.sel (idf:=Dfn.id) (c:=cD2 Dfn.id D1) hall;generalize eD Dfn.id D2 (cD2 Dfn.id D1) met=M at hperm2 ⊢;refine⟨L++M,hperm.append hperm2,?_⟩;exact mv [0,1,2] 0 (by rfl) (by simp)
noncomputable def zWe:K:=zV prog f64 z7 []
theorem qEj:ky f64 zWe:=m_ (by kernel_rfl)
theorem zMw(g:FuncId)(hcal:zA prog g=true)(same:Exp->Exp->Bool)(hs:∀x y,my g [.agg (zG x),.agg (zG y)] [] (bl (same x y)) [])(D1 D2:wH)(hl1:D1.length<=1000000)(hl2:D2.length<=1000000) :
 aK prog 64 [.map 0,.map 1,.clo g [] []] [.mp true 3 (fM Exp.id zG D1),.mp true 3 (fM Exp.id zG D2)] fun o τ=>∃l:wG,l.Perm (zFn Exp.id same D1 D2)/\o=.ret (.row 2 l.length) /\
  τ = [.mp true 3 (fM Exp.id zG D1),.mp true 3 (fM Exp.id zG D2),.row false 32 3 l.length (zY l)]:=by
 refine zDF func64 rfl qEj (rs:=[.slot 6]) (by kernel_rfl) ?_
 (conv in zWe=>cbv)
 simp;refine qI (S:=wA) (fun met=>[(0,.map 0),(1,.map 1),(2,.clo g [] []),(7,.row 3 (eD Exp.id D1 (cD1 Exp.id D2 same) met).length),(16,.ptr 2 0)])
  (fun met=>[.mp true 3 (fM Exp.id zG D1),.mp true 3 (fM Exp.id zG D2),.it 0 D1.length met,.row false 32 3 (eD Exp.id D1 (cD1 Exp.id D2 same) met).length (zY (eD Exp.id D1 (cD1 Exp.id D2 same) met))])
  (fun met=>Met D1.length met) (fun met=>D1.length-met.length) [] ⟨by simp,by simp⟩
  ((jS (t:=7) (by simp) 32 3).trans (mw [0,1,2,3] 0 (by rfl) (by simp[eD]))) ?_
 intro met hmet;simp;have hkb:∀d:Id,zBY (eK d)=.agg [.lit (.int .i64 d.a),.lit (.int .i64 d.b),.lit (.int .i64 d.c)]:=fun _=>rfl
 refine⟨fun i ks v hi hp=>?_,fun hall=>?_⟩
 .obtain⟨x,hx,e⟩:=zCd hp;cases e;refine⟨_,_,hp,?_⟩;have hin:i<D1.length:=(jA5.1 hx).1;have hm:=hmet.snoc hin hi;have hle:=hm.le;have hle0:=hmet.le;rw[jA4,jAn]at hle;have hsel:=sF (idf:=Exp.id) (c:=cD1 Exp.id D2 same) (met:=met) hx;have hsl:(eD Exp.id D1 (cD1 Exp.id D2 same) met).length<=met.length:=jDk _ _;have hf:=hU (i:=x.id) (enc:=zG) (idf:=Exp.id) D2;generalize eD Exp.id D1 (cD1 Exp.id D2 same) met=L at hsel hsl ⊢;simp only[eK]at hf;cases hh:aH Exp.id D2 x.id with
  |none =>
   rw[hh]at hf;simp only[jD2]at hf;have hc:cD1 Exp.id D2 same x=true:=by simp[cD1,hh]
   rw[if_pos hc]at hsel;simp[hkb,zG,hf];refine⟨⟨by simp[maxLen];omega,by omega⟩,?_⟩;exact zO (met++[i]) hm (by simp;omega) (mw [0,1,2,3] 0 (by rfl) (by simp[hsel,qO]))
  |some y =>
   rw[hh]at hf;simp only[jBz]at hf;simp[hkb,zG,hf,hcal];refine mu (hs x y) (by simp[zG]) ?_;cases hxy:same x y with
   |false =>
    have hc:cD1 Exp.id D2 same x=true:=by simp[cD1,hh,hxy]
    rw[if_pos hc]at hsel;simp;refine⟨⟨by simp[maxLen];omega,by omega⟩,?_⟩;exact zO (met++[i]) hm (by simp;omega) (mw [0,1,2,3] 0 (by rfl) (by simp[hsel,qO]))
   |true =>
    have hc:cD1 Exp.id D2 same x=false:=by simp[cD1,hh,hxy]
    rw[if_neg (by simp[hc])]at hsel;simp;exact zO (met++[i]) hm (by simp;omega) (mw [0,1,2,3] 0 (by rfl) (by simp[hsel]))
 .have hperm:=hmet.sel (idf:=Exp.id) (c:=cD1 Exp.id D2 same) hall;generalize eD Exp.id D1 (cD1 Exp.id D2 same) met=L at hperm ⊢;have hL:L.length<=D1.length:=by rw[hperm.length_eq,jAb];exact jBp _ _
  refine qI (S:=wA) (fun met=>[(0,.map 0),(1,.map 1),(7,.row 2 (L++eD Exp.id D2 (cD2 Exp.id D1) met).length),(42,.ptr 3 0)])
   (fun met=>[.mp true 3 (fM Exp.id zG D1),.mp true 3 (fM Exp.id zG D2),.row false 32 3 (L++eD Exp.id D2 (cD2 Exp.id D1) met).length (zY (L++eD Exp.id D2 (cD2 Exp.id D1) met)),.it 1 D2.length met])
   (fun met=>Met D2.length met) (fun met=>D2.length-met.length) [] ⟨by simp,by simp⟩
   (mw [0,1,3,4] 0 (by rfl) (by simp[eD])) ?_
  clear hmet hall met;intro met hmet;simp;refine⟨fun i ks v hi hp=>?_,fun hall=>?_⟩
  .obtain⟨x,hx,e⟩:=zCd hp;cases e;refine⟨_,_,hp,?_⟩;have hin:i<D2.length:=(jA5.1 hx).1;have hm:=hmet.snoc hin hi;have hle:=hm.le;have hle0:=hmet.le;rw[jA4,jAn]at hle;have hsel:=sF (idf:=Exp.id) (c:=cD2 Exp.id D1) (met:=met) hx;have hsl:(eD Exp.id D2 (cD2 Exp.id D1) met).length<=met.length:=jDk _ _;have hf:=hU (i:=x.id) (enc:=zG) (idf:=Exp.id) D1;generalize eD Exp.id D2 (cD2 Exp.id D1) met=M at hsel hsl ⊢;simp only[eK]at hf;cases hh:aH Exp.id D1 x.id with
   |none =>
    rw[hh]at hf;simp only[jD2]at hf;have hc:cD2 Exp.id D1 x=true:=by simp[cD2,hh]
    rw[if_pos hc]at hsel;simp[hkb,hf];refine⟨⟨by simp[maxLen];omega,by omega⟩,?_⟩;exact zO (met++[i]) hm (by simp;omega) (mw [0,1,2,3] 0 (by rfl) (by simp[hsel,qO,jBb]))
   |some y =>
    rw[hh]at hf;simp only[jBz]at hf;have hc:cD2 Exp.id D1 x=false:=by simp[cD2,hh]
    rw[if_neg (by simp[hc])]at hsel;simp[hkb,zG,hf];exact zO (met++[i]) hm (by simp;omega) (mw [0,1,2,3] 0 (by rfl) (by simp[hsel]))
  .have hperm2:=hmet.sel (idf:=Exp.id) (c:=cD2 Exp.id D1) hall;generalize eD Exp.id D2 (cD2 Exp.id D1) met=M at hperm2 ⊢;refine⟨L++M,hperm.append hperm2,?_⟩;exact mv [0,1,2] 0 (by rfl) (by simp)
structure Hd where
 id:Id
 kind:Int
 slots:List Slt
 res:Typ
abbrev wQ:=List Hd
def Dfn.hd(d:Dfn):Hd:=⟨d.id,d.kind,d.slots,d.res⟩
abbrev jT:Typ:=.mk 0 Id.zero []
abbrev j9:Typ:=.mk 1 Id.zero []
abbrev jX(t:Typ):Typ:=.mk 2 Id.zero [t]
abbrev cO(d:Id):Typ:=.mk 3 d []
inductive TyOk(hs:List Hd):Nat->Typ->Prop
 |int (r:Nat):TyOk hs r jT
 |bool (r:Nat):TyOk hs r j9
 |list (r:Nat) (t:Typ) (h:TyOk hs r t):TyOk hs (r+1) (jX t)
 |dfn (r k:Nat) (h:k<hs.length) (h1:∀(j:Nat) (hj:j<k),hs[j].id≠hs[k].id) (h2:hs[k].kind=0\/hs[k].kind=1/\0<hs[k].slots.length) (h3:hs[k].slots.length<=6)
  (h4:∀s∈hs[k].slots,TyOk hs r s.typ):TyOk hs (r+1) (cO hs[k].id)
variable{hs:wQ}{r:Nat}{t:Typ}
theorem TyOk.mono{r':Nat}(h:TyOk hs r t)(hr:r<=r'):TyOk hs r' t:=by
 induction h generalizing r' with
 |int r=>exact .int _
 |bool r=>exact .bool _
 |list r t h ih =>
  obtain⟨q,rfl⟩:∃q,r'=q+1:=⟨r'-1,by omega⟩;exact .list _ _ (ih (by omega))
 |dfn r k h h1 h2 h3 h4 ih =>
  obtain⟨q,rfl⟩:∃q,r'=q+1:=⟨r'-1,by omega⟩;exact .dfn _ k h h1 h2 h3 fun s hs'=>ih s hs' (by omega)
def fC(env:wJ)(x:Id)(n:Int):Option Typ:=(env.reverse.find? fun b=>decide (b.id=x)&&decide (b.n=n)).map (·.typ)
inductive WT(hs:List Hd)(own:Int):List Bnd->Exp->Typ->Prop
 |int (env i n) (h1 : -1099511627776<=n) (h2:n<=1099511627776):WT hs own env (.mk i 0 n Id.zero Typ.zero [] []) jT
 |bool (env i n) (h:n=0\/n=1):WT hs own env (.mk i 1 n Id.zero Typ.zero [] []) j9
 |var (env i n x t) (h:fC env x n=some t):WT hs own env (.mk i 2 n x Typ.zero [] []) t
 |call (env i) (k:Nat) (h:k<hs.length) (ks) (ho:(k:Int)<own) (hk:hs[k].kind=2) (hl:ks.length=hs[k].slots.length) (hw:∀(j:Nat) (hj:j<ks.length),WT hs own env ks[j] (hs[k].slots[j]'(hl▸hj)).typ) :
  WT hs own env (.mk i 3 0 hs[k].id Typ.zero ks []) hs[k].res
 |arith (env i n a b) (h1:0<=n) (h2:n<=4) (ha:WT hs own env a jT) (hb:WT hs own env b jT):WT hs own env (.mk i 4 n Id.zero Typ.zero [a,b] []) jT
 |less (env i a b) (ha:WT hs own env a jT) (hb:WT hs own env b jT):WT hs own env (.mk i 4 5 Id.zero Typ.zero [a,b] []) j9
 |same (env i a b u) (ha:WT hs own env a u) (hb:WT hs own env b u):WT hs own env (.mk i 4 6 Id.zero Typ.zero [a,b] []) j9
 |andor (env i n a b) (h:n=7\/n=8) (ha:WT hs own env a j9) (hb:WT hs own env b j9):WT hs own env (.mk i 4 n Id.zero Typ.zero [a,b] []) j9
 |not (env i a) (ha:WT hs own env a j9):WT hs own env (.mk i 4 9 Id.zero Typ.zero [a] []) j9
 |join (env i a b t) (ha:WT hs own env a (jX t)) (hb:WT hs own env b (jX t)):WT hs own env (.mk i 4 10 Id.zero Typ.zero [a,b] []) (jX t)
 |len (env i a t) (ha:WT hs own env a (jX t)):WT hs own env (.mk i 4 11 Id.zero Typ.zero [a] []) jT
 |ite (env i a b c t) (ha:WT hs own env a j9) (hb:WT hs own env b t) (hc:WT hs own env c t):WT hs own env (.mk i 5 0 Id.zero Typ.zero [a,b,c] []) t
 |lets (env i a b u t ns) (hn:ns.length<=10) (ha:WT hs own env a u) (hb:WT hs own (env++[⟨i,0,u⟩]) b t):WT hs own env (.mk i 6 0 Id.zero Typ.zero [a,b] ns) t
 |record (env i) (k:Nat) (h:k<hs.length) (ks) (hk:hs[k].kind=0) (hl:ks.length=hs[k].slots.length) (hw:∀(j:Nat) (hj:j<ks.length),WT hs own env ks[j] (hs[k].slots[j]'(hl▸hj)).typ) :
  WT hs own env (.mk i 7 0 hs[k].id Typ.zero ks []) (cO hs[k].id)
 |field (env i) (k:Nat) (h:k<hs.length) (j:Nat) (hj:j<hs[k].slots.length) (a) (hk:hs[k].kind=0) (ha:WT hs own env a (cO hs[k].id)):WT hs own env (.mk i 8 j hs[k].id Typ.zero [a] []) hs[k].slots[j].typ
 |case (env i) (k:Nat) (h:k<hs.length) (j:Nat) (hj:j<hs[k].slots.length) (a) (hk:hs[k].kind=1) (ha:WT hs own env a hs[k].slots[j].typ):WT hs own env (.mk i 9 j hs[k].id Typ.zero [a] []) (cO hs[k].id)
 |mtch (env i) (k:Nat) (h:k<hs.length) (a ks t ns) (hn:ns.length<=10) (hk:hs[k].kind=1) (hl:ks.length=hs[k].slots.length) (ha:WT hs own env a (cO hs[k].id))
  (hw:∀(j:Nat) (hj:j<ks.length),WT hs own (env++[⟨i,j,(hs[k].slots[j]'(hl▸hj)).typ⟩]) ks[j] t):WT hs own env (.mk i 10 0 hs[k].id Typ.zero (a::ks) ns) t
 |list (env i t ks) (hw:∀(j:Nat) (hj:j<ks.length),WT hs own env ks[j] t):WT hs own env (.mk i 11 0 Id.zero t ks []) (jX t)
 |fold (env i l s b u t ns) (hn:ns.length<=10) (hl:WT hs own env l (jX u)) (hs':WT hs own env s t) (hb:WT hs own (env++[⟨i,0,u⟩]++[⟨i,1,t⟩]) b t):WT hs own env (.mk i 12 0 Id.zero Typ.zero [l,s,b] ns) t
mutual
def tmps:Exp->wC
 | .mk i _ _ _ _ ks _=>jJ ks++[i.c]
def jJ:List Exp->wC
 |[]=>[]
 |e::l=>tmps e++jJ l
end
mutual
def Exp.num0:Exp->Prop
 | .mk i _ _ _ _ ks _=>(i.a=0/\i.b=0)/\zKX ks
def zKX:List Exp->Prop
 |[]=>True
 |e::l=>e.num0/\zKX l
end
theorem zDm:∀l:wH,zKX l↔∀e∈l,e.num0
 |[]=>by simp[zKX]
 |e::l=>by simp[zKX,zDm l]
variable{ns:List ByteArray}
theorem i4{c k n:Int}{r:Id}{ks:wH}(h:∀e∈ks,e.num0):(Exp.mk ⟨0,0,c⟩ k n r t ks ns).num0:=by simp only[Exp.num0,zDm,true_and];exact h
theorem zAi{c k n:Int}{r:Id}:(Exp.mk ⟨0,0,c⟩ k n r t [] ns).num0:=i4 (by simp)
theorem zCk{es:wH}{n:Nat}(hn:es.length=n)(h:∀(j:Nat)(_:j<es.length),es[j].num0):∀e∈es,e.num0:=fun e he=>by obtain⟨j,hj,rfl⟩:=jAe he;exact h j hj
structure Seg(lo hi:Int)(l:List Int):Prop where
 nd:l.Nodup
 rng:∀x∈l,lo<=x/\x<hi
variable{c a b:Int}{l:wC}
theorem Seg.append{l':wC}(h:Seg a b l)(h':Seg b c l')(hab:a<=b)(hbc:b<=c):Seg a c (l++l'):=by
 refine⟨jD4.2 ⟨h.nd,h'.nd,fun x hx y hy e=>?_⟩,fun x hx=>?_⟩
 .have h1:=h.rng x hx;have h2:=h'.rng y hy;omega
 .rcases jA6.1 hx with hx|hx
  .have:=h.rng x hx;omega
  .have:=h'.rng x hx;omega
theorem Seg.perm{l':wC}(h:Seg a b l)(hp:l.Perm l'):Seg a b l':=⟨hp.nodup_iff.1 h.nd,fun x hx=>h.rng x (hp.mem_iff.2 hx)⟩
theorem Seg.one(a:Int):Seg a (a+1) [a]:=⟨by simp,fun x hx=>by simp at hx;omega⟩
theorem Seg.nil:Seg a b []:=⟨by simp,fun x hx=>by simp at hx⟩
theorem Seg.mono{a' b':Int}(h:Seg a b l)(h1:a'<=a)(h2:b<=b'):Seg a' b' l:=⟨h.nd,fun x hx=>by have:=h.rng x hx;omega⟩
structure Adv(m m':Mk)(c:Int):Prop where
 mods:m'.mods=m.mods
 defs:m'.defs=m.defs
 l:m'.l=m.l
 own:m'.own=m.own
 home:m'.home=m.home
 at1:m.at_<=m'.at_
 at2:m'.at_<=m.at_+c
 temp1:m.temp<=m'.temp
 temp2:m'.temp<=m.temp+c
 left1:m.left-c<=m'.left
 left2:m'.left<=m.left
 name1:m.name<=m'.name
 name2:m'.name<=m.name+c
variable{m m1:Mk}{c':Int}
theorem Adv.trans{m2:Mk}(h:Adv m m1 c)(k:Adv m1 m2 c'):Adv m m2 (c+c'):=by obtain⟨h1,h2,h3,h4,h5,h6,h7,h8,h9,h10,h11,h12,h13⟩:=h;obtain⟨k1,k2,k3,k4,k5,k6,k7,k8,k9,k10,k11,k12,k13⟩:=k;exact⟨k1.trans h1,k2.trans h2,k3.trans h3,k4.trans h4,k5.trans h5,by omega,by omega,by omega,by omega,by omega,by omega,by omega,by omega⟩
theorem Adv.mono(h:Adv m m1 c)(hc:c<=c'):Adv m m1 c':=by obtain⟨h1,h2,h3,h4,h5,h6,h7,h8,h9,h10,h11,h12,h13⟩:=h;exact⟨h1,h2,h3,h4,h5,by omega,by omega,by omega,by omega,by omega,by omega,by omega,by omega⟩
structure Lim(m:Mk)(c:Int):Prop where
 at1:0<=m.at_
 at2:m.at_+c<=1000000000000000
 temp1:0<=m.temp
 temp2:m.temp+c<=1000000000000000
 left1 : -1000000000000000<=m.left-c
 left2:m.left<=1000000000000000
 name1:0<=m.name
 name2:m.name+c<=1000000000000000
theorem Lim.adv(h:Lim m (c+c'))(k:Adv m m1 c):Lim m1 c':=by obtain⟨h1,h2,h3,h4,h5,h6,h7,h8⟩:=h;obtain⟨k1,k2,k3,k4,k5,k6,k7,k8,k9,k10,k11,k12,k13⟩:=k;exact⟨by omega,by omega,by omega,by omega,by omega,by omega,by omega,by omega⟩
theorem Lim.mono(h:Lim m c)(hc:c'<=c):Lim m c':=by obtain⟨h1,h2,h3,h4,h5,h6,h7,h8⟩:=h;exact⟨by omega,by omega,by omega,by omega,by omega,by omega,by omega,by omega⟩
theorem aD(m:Mk):Adv m {m with temp:=m.temp+1,left:=m.left-1} 1:=⟨rfl,rfl,rfl,rfl,rfl,by simp,by simp;omega,by simp;omega,by simp,by simp,by simp;omega,by simp,by simp;omega⟩
theorem zNJ(m:Mk):Adv m {m with at_:=m.at_+1} 1:=⟨rfl,rfl,rfl,rfl,rfl,by simp;omega,by simp,by simp,by simp;omega,by simp;omega,by simp,by simp,by simp;omega⟩
theorem zB4(m:Mk):Adv m {m with name:=m.name+1} 1:=⟨rfl,rfl,rfl,rfl,rfl,by simp,by simp;omega,by simp,by simp;omega,by simp;omega,by simp,by simp;omega,by simp⟩
structure Cx(hs:List Hd)(R:Nat)(m:Mk):Prop where
 heads:m.defs.map Dfn.hd=hs
 len:hs.length<=100
 len0:0<hs.length
 mods:0<m.mods.length
 nums:∀x∈m.l,w64 x=x
 own:m.own<=1000
 typs:∀(k:Nat) (h:k<hs.length),hs[k].kind=0\/hs[k].kind=1->TyOk hs R (cO hs[k].id)
 slots:∀(k:Nat) (h:k<hs.length),hs[k].slots.length<=6/\∀s∈hs[k].slots,TyOk hs R s.typ
theorem Cx.adv{R:Nat}{m':Mk}(h:Cx hs R m)(k:Adv m m' c):Cx hs R m':=by obtain⟨h1,h2,h3,h4,h5,h6,h7,h8⟩:=h;exact⟨by rw[k.defs];exact h1,h2,h3,by rw[k.mods];exact h4,by rw[k.l];exact h5,by rw[k.own];exact h6,h7,h8⟩
theorem Cx.dlen{R:Nat}(h:Cx hs R m):m.defs.length=hs.length:=by rw[<-h.heads,jAb]
theorem Cx.get{R:Nat}(h:Cx hs R m){k:Nat}(hk:k<m.defs.length):hs[k]'(h.dlen▸hk)=m.defs[k].hd:=by obtain⟨rfl,_⟩:=h;simp
structure EnvOk(hs:List Hd)(R:Nat)(temp:Int)(env:List Bnd):Prop where
 typs:∀b∈env,TyOk hs R b.typ
 nd:env.Pairwise fun b c=>¬(b.id=c.id/\b.n=c.n)
 new:∀b∈env,b.id.b=0->b.id.c<temp
variable{temp:Int}{env:wJ}
theorem EnvOk.mono{R:Nat}{temp':Int}(h:EnvOk hs R temp env)(ht:temp<=temp'):EnvOk hs R temp' env:=⟨h.typs,h.nd,fun b hb h0=>by have:=h.new b hb h0;omega⟩
theorem EnvOk.snoc{R:Nat}(h:EnvOk hs R temp env)(c n:Int)(t:Typ)(ht:TyOk hs R t)(hc:∀b∈env,b.id=⟨0,0,c⟩->b.n≠n)(hct:c<temp):EnvOk hs R temp (env++[⟨⟨0,0,c⟩,n,t⟩]):=by
 refine⟨fun b hb=>?_,?_,fun b hb h0=>?_⟩
 .rcases jA6.1 hb with hb|hb
  .exact h.typs b hb
  .rw[jAi.1 hb];exact ht
 .rw[jCu];refine⟨h.nd,by simp,fun b hb c' hc'=>?_⟩;rw[jAi.1 hc'];exact fun e=>hc b hb e.1 e.2
 .rcases jA6.1 hb with hb|hb
  .exact h.new b hb h0
  .rw[jAi.1 hb];exact hct
theorem zHN(h:env.Pairwise fun b c=>¬(b.id=c.id/\b.n=c.n)){b:Bnd}(hb:b∈env):fC env b.id b.n=some b.typ:=by
 induction env using fT with
 |nil=>simp at hb
 |snoc l y ih =>
  rw[jCu]at h;unfold fC;rw[List.reverse_append];simp only[List.reverse_cons,List.reverse_nil,jBk,jCn,jC4];rcases jA6.1 hb with hb'|hb'
  .have hne:=h.2.2 b hb' y (by simp);have:(decide (y.id=b.id)&&decide (y.n=b.n))=false:=by
    rw[jCx];by_cases e:y.id=b.id
    .right;rw[decide_eq_false_iff_not];exact fun e'=>hne ⟨e.symm,e'.symm⟩
    .left;simpa using e
   rw[this];exact ih h.1 hb'
  .rw[jAi.1 hb'];simp
def zBy(m:Mk)(k:Nat):Bool:=match m.defs[k]? with
 |some d=>decide ((k:Int)<m.own)&&(decide (d.mod=m.home)||decide (d.mod=(m.mods.headD ⟨Id.zero,⟨#[]⟩,[],[]⟩).id))
 |none=>false
theorem zVR{k:Nat}(h:zBy m k=true):(k:Int)<m.own:=by
 unfold zBy at h;split at h
 .rw[jA8]at h;exact of_decide_eq_true h.1
 .cases h
theorem zGD(m:Mk)(k:Nat)(hk:k<m.defs.length)(hm:0<m.mods.length):my 154 [.ptr 0 0,int k] (mkS m) (bl (zBy m k)) (mkS m):=by
 refine mq [] [.slot 4] func154 (by kernel_rfl) ?_
 (conv in kq _ _=>cbv)
 have hd:=yA hk;have hb31:k*31+31<=m.defs.length*31:=by omega
 have hv:zBy m k=(decide ((k:Int)<m.own)&&(decide (m.defs[k].mod=m.home)||decide (m.defs[k].mod=(m.mods.headD ⟨Id.zero,⟨#[]⟩,[],[]⟩).id))):=by unfold zBy;rw[jA2 hk]
 cases hmm:m.mods with
 |nil=>rw[hmm]at hm;simp at hm
 |cons m0 M =>
  rw[hmm]at hv;simp only[jD5]at hv;simp[mkS,mkB,hk,hd,hb31,zJ,hmm,iF,rB];by_cases h1:(k:Int)<m.own
  .by_cases h2:m.defs[k].mod=m.home
   .simp[h1,h2];exact mv [0,1] 0 (by rfl) (by simp[hmm,iF,rB,hv,h1,h2])
   .have e2:iJ m.defs[k].mod.a m.defs[k].mod.b m.defs[k].mod.c m.home.a m.home.b m.home.c=false:=by rw[eC];exact decide_eq_false h2
    simp[h1,e2];exact ke [0,1] 0 (by rfl) (by simp[hmm,iF,rB]) (by simp[hv,h1,h2]<;>congr)
  .simp[h1];exact mv [0,1] 0 (by rfl) (by simp[hmm,iF,rB,hv,h1])
def zEb(m:Mk)(kind:Int)(k:Nat):Bool:=(match m.defs[k]? with
 |some d=>decide (d.kind=kind)
 |none=>false)&&zBy m k
def ofV(m:Mk)(kind:Int)(x:Nat):Int:=match (List.range m.defs.length).find? fun i=>zEb m kind ((x+i) % m.defs.length)with
 |some i=>(((x+i) % m.defs.length:Nat):Int)
 |none=>-1
theorem zQs{n i:Nat}{p:Nat->Bool}(h:i<n)(hp:p i=true)(hn:∀j<i,p j=false):(List.range n).find? p=some i:=by rw[List.find?_range_eq_some];exact⟨hp,by simpa using h,fun j hj=>by simpa using hn j hj⟩
theorem zNh{n:Nat}{p:Nat->Bool}(hn:∀j<n,p j=false):(List.range n).find? p=none:=by
 rw[jD3];intro x hx
 simpa using hn x (by simpa using hx)
theorem zV5(m:Mk)(kind:Int)(x:Nat):ofV m kind x = -1\/∃k:Nat,∃h:k<m.defs.length,ofV m kind x=k/\m.defs[k].kind=kind/\zBy m k=true:=by
 unfold ofV;split
 .rename_i i hi;right;have hp:=jD6 hi;have hlt:0<m.defs.length:=by have:=jC6.1 (jCy hi);omega
  have hk:=Nat.mod_lt (x+i) hlt;refine⟨_,hk,rfl,?_⟩;unfold zEb at hp;rw[jA2 hk]at hp
  simpa using hp
 .left;rfl
theorem zTb(m:Mk)(kind:Int)(x:Nat)(hx:x<=1000000)(hd:0<m.defs.length)(hd':m.defs.length<=100)(hm:0<m.mods.length):my 153 [.ptr 0 0,int kind,int x] (mkS m) (int (ofV m kind x)) (mkS m):=by
 refine mq [] [.slot 6] func153 (by kernel_rfl) ?_
 (conv in kq _ _=>cbv)
 simp[mkS,mkB];refine qI (S:=Nat) (fun i=>[(0,.ptr 0 0),(1,int kind),(2,int x),(7,int m.defs.length),(8,int i)]) (fun _=>mkS m) (fun i=>i<=m.defs.length/\∀j<i,zEb m kind ((x+j) % m.defs.length)=false) (fun i=>m.defs.length-i) 0 (by simp)
  (mw [0,1] 0 (by rfl) (by simp[mkS,mkB])) ?_
 rintro i ⟨hi,hn⟩;by_cases h:i<m.defs.length
 .have hk:=Nat.mod_lt (x+i) hd;have w1:=qF ((x:Int)+i) (by omega);have w2:=yK i (by omega);have e1:Int.tmod ((x:Int)+i) (m.defs.length:Int)=(((x+i) % m.defs.length:Nat):Int):=by rw[tmN (by omega)];simp
  have hnil:m.defs≠[]:=fun e=>by rw[e]at hd;simp at hd
  have hne:¬((m.defs.length:Int)=0):=by omega
  generalize hkk:(x+i) % m.defs.length=k at hk e1;have hdr:=yA hk;have hdr3:List.drop (k*31+3) (zQ m.defs)=(zJ m.defs[k]++zQ (m.defs.drop (k+1))).drop 3:=by rw[<-jAu,hdr]
  have hb4:k*31+3+1<=m.defs.length*31:=by omega
  have hg:zEb m kind k=(decide (m.defs[k].kind=kind)&&zBy m k):=by unfold zEb;rw[jA2 hk]
  simp[mkS,mkB,h,w1,e1,hne,hk,hdr3,hb4,zJ,hnil];have hround:zEb m kind k=false->∀j<i+1,zEb m kind ((x+j) % m.defs.length)=false:=fun hg' j hj=>by
   by_cases e:j=i
   .subst e;rw[hkk];exact hg'
   .exact hn j (by omega)
  have hhit:zEb m kind k=true->ofV m kind x=k:=fun hg'=>by unfold ofV;rw[zQs h (by rw[hkk];exact hg') hn];simp only[hkk]
  by_cases h1:m.defs[k].kind=kind
  .simp[h1];refine mr (zGD m k hk hm) [0,1] (by simp[mkS,mkB]) ?_;cases h2:zBy m k
   .simp[mkS,mkB];exact zO (i+1) ⟨h,hround (by rw[hg,h2];simp)⟩ (by omega) (mw [0,1] 0 (by rfl) (by simp[mkS,mkB,w2]))
   .simp[mkS,mkB];exact mv [0,1] 0 (by rfl) (by simp[hhit (by rw[hg,h1,h2];simp)])
  .simp[h1];exact zO (i+1) ⟨h,hround (by rw[hg];simp[h1])⟩ (by omega) (mw [0,1] 0 (by rfl) (by simp[mkS,mkB,w2]))
 .have:i=m.defs.length:=by omega
  subst this;have hr:ofV m kind x = -1:=by unfold ofV;rw[zNh hn]
  simp[mkS,mkB];exact mv [0,1] 0 (by rfl) (by simp[hr])
@[simp]theorem zLY:∀(l:wG) (k:Nat),cY k (zY l)=true
 |[],_=>rfl
 |d::l,k=>by rw[fW];simp[zLY l k]
@[simp]theorem zYd(l:List Md)(k:Nat):cY k (qA l)=true:=(nI l).bnd k
@[simp]theorem zYc(l:wS)(k:Nat):cY k (zQ l)=true:=(nG l).bnd k
@[simp]theorem qDX(d:Id)(k:Nat):cY k (zS d)=true:=by simp[zS]
def qG(l:wS)(id:Id):Option Dfn:=l.find? fun d=>decide (d.id=id)
theorem zAX(d:Dfn)(l:wS)(id:Id):qG (d::l) id=if d.id=id then some d else qG l id:=by unfold qG;rw[jC4];by_cases h:d.id=id<;>simp[h]
theorem zMt(l:wS)(id:Id):zAt l id=((qG l id).getD .zero,(qG l id).isSome):=by unfold zAt qG;cases l.find? fun d=>decide (d.id=id)<;>rfl
@[simp]theorem qMV:zA prog 224=true:=by kernel_rfl
theorem zU0(d:Dfn)(id:Id):my 135 [.agg (zJ d),.ptr 0 0] [.box (zS id)] (bl (decide (d.id=id))) [.box (zS id)]:=by
 refine mq [] [.slot 3] func135 (by kernel_rfl) ?_
 (conv in kq _ _=>cbv)
 simp[zJ,zS,zUC];exact mv [0] 0 (by rfl) (by simp)
def zGZ:List Dfn->Id->Nat->Int
 |[],_,_=>-1
 |d::l,id,n=>if d.id=id then n else zGZ l id (n+1)
theorem zHH:∀(l:wS) (id:Id) (n:Nat),(qG l id=none/\zGZ l id n = -1)\/∃(i:Nat) (h:i<l.length),zGZ l id n=(n+i:Nat)/\qG l id=some l[i]
 |[],id,n=>.inl ⟨rfl,rfl⟩
 |d::l,id,n=>by
  simp only[zAX,zGZ];by_cases hd:d.id=id
  .exact .inr ⟨0,by simp,by simp[hd],by simp[hd]⟩
  .simp only[hd,if_false];rcases zHH l id (n+1)with h|⟨i,hi,h1,h2⟩
   .exact .inl h
   .exact .inr ⟨i+1,by simpa using hi,by rw[h1];congr 1;omega,by simpa using h2⟩
theorem zIV(l:wS)(id:Id):my 134 [.sl l.length (zQ l),.clo 135 [] [.ptr 0 0]] [.box (zS id)] (int (zGZ l id 0)) [.box (zS id)]:=by
 refine mq [] [.slot 4] func134 (by kernel_rfl) ?_
 (conv in kq _ _=>cbv)
 simp;intro hl;refine qI (S:=Nat) (fun i=>[(0,.sl l.length (zQ l)),(1,.clo 135 [] [.ptr 0 0]),(6,.sl l.length (zQ l)),(7,int l.length),(8,int i)]) (fun s=>[.box (zS id)]) (fun i=>i<=l.length/\zGZ l id 0=zGZ (l.drop i) id i) (fun i=>l.length-i) 0 (by simp)
  (mw [0] 0 (by rfl) (by simp[zS])) ?_
 rintro i ⟨hi,ho⟩;by_cases h:i<l.length
 .have hd:l.drop i=l[i]::l.drop (i+1):=jB6 h;simp[h,yA h];refine mr (zU0 l[i] id) [0] (by simp) ?_;simp;refine jI (fun h'=>?_) (fun h'=>?_)<;>simp at h'
  .simp;exact ke [0] 0 (by rfl) (by simp) (by rw[ho,hd];simp[zGZ,h'])
  .simp;exact zO (i+1) ⟨h,by rw[ho,hd];simp[zGZ,h']⟩ (by omega) (mw [0] 0 (by rfl) (by simp[zZ h hl]))
 .have hi:i=l.length:=by omega
  subst hi;simp;exact ke [0] 0 (by rfl) (by simp) (by rw[ho];simp[zGZ])
def dI(p:Prg)(id:Id):A:=.tup [.agg (zJ ((qG p.defs id).getD .zero)),bl (qG p.defs id).isSome]
theorem lO(p:Prg)(id:Id):my 70 [.agg (zI p),.agg (zS id)] [] (dI p id) []:=by
 refine mq [] [.cell 4 31 true,.slot 5] func70 (by kernel_rfl) ?_
 (conv in kq _ _=>cbv)
 simp[zI];refine mr (zIV p.defs id) [1] (by simp) ?_;simp;rcases zHH p.defs id 0 with ⟨h1,h2⟩|⟨i,hi,h1,h2⟩
 .simp[h2];exact zB 0 (by simp[dI,h1,zJ,Dfn.zero,Id.zero,Typ.zero,Exp.zero])
 .have hn:¬((i:Int)<0):=by omega
  simp[h1,hn,hi,yA hi];exact zB 0 (by simp[dI,h2])
theorem sC(p:Prg)(hL:p.defs.length<=1000000)(id:Id):my 26 [.agg (zI p),.agg (zS id)] [] (dI p id) []:=by have h:=zVB p.mods p.defs id hL;rw[zMt]at h;exact h
def mX:Option Dfn->Bool
 |some d=>decide (d.kind=0\/d.kind=1)
 |none=>false
def y5(p:Prg):Nat->Typ->Bool
 | 0,_=>false
 |n+1,t=>if t.k=2 then (match t.kids with
  |[x]=>decide (t.id=Id.zero)&&y5 p n x
  |_=>false)else if t.kids≠[]then false else if t.k=3 then mX (qG p.defs t.id)else decide (t.id=Id.zero)&&decide (t.k=0\/t.k=1)
def cI(p:Prg)(t:Typ):Bool:=y5 p 24 t
theorem zGB(p:Prg)(t0:Typ):my 178 [.agg (zI p),.agg (zF t0)] [] (bl (cI p t0)) []:=by
 refine mq [] [.slot 4] func178 (by kernel_rfl) ?_
 (conv in kq _ _=>cbv)
 simp[zI];refine qI (S:=Nat×Typ) (fun s=>[(2,.ptr 0 0),(3,.ptr 1 0),(5,int s.1)]) (fun s=>[.box (zI p),.box (zF s.2)]) (fun s=>1<=s.1/\s.1<=25/\cI p t0=y5 p (25-s.1) s.2) (fun s=>25-s.1) (1,t0) (by simp[cI])
  (mw [0,1] 0 (by rfl) (by simp[zI])) ?_
 rintro⟨i,t⟩ ⟨hi0,hi,ho⟩;simp only at hi0 hi ho;by_cases h:i<=24
 .have hi24:(i:Int)<=24:=by omega
  obtain⟨n,hn⟩:∃n,25-i=n+1:=⟨24-i,by omega⟩;have hn':25-(i+1)=n:=by omega
  have hw:=yK i (by omega);rw[hn]at ho;cases t with
  |mk k id kids =>
  by_cases h2:k=2
  .subst h2;by_cases hid:id=Id.zero
   .subst hid;rcases kids with _|⟨x,_|⟨y,l⟩⟩
    .simp[zF,zI,hi24];exact zB 0 (by rw[ho];simp[y5])
    .simp[zF,zI,hi24];intro _;refine zO (i+1,x) ⟨by simp,by simp only;omega,?_⟩ (by simp only;omega) (mw [0,1] 0 (by rfl) (by simp[zI,zF,qX,hw]));simp only;rw[ho,hn'];simp[y5]
    .have h1:¬((l.length:Int)+1+1=1):=by omega
     simp[zF,zI,hi24,h1];exact fun _=>zB 0 (by rw[ho];simp[y5])
   .have hv:y5 p (n+1) (.mk 2 id kids)=false:=by simp only[y5,Typ.k_mk,Typ.id_mk,Typ.kids_mk,if_true];split<;>simp[hid]
    simp[zF,zI,hi24,hid];exact zB 0 (by rw[ho,hv];simp)
  by_cases h3:k=3
  .subst h3;simp[zF,zI,hi24];refine mu (lO p id) (by simp[zI,zS,dI]) ?_;cases hf:qG p.defs id with
   |none =>
    have hv:y5 p (n+1) (.mk 3 id kids)=false:=by cases kids<;>simp[y5,hf,mX]
    simp[dI,hf,zJ,Dfn.zero,Id.zero,Typ.zero,Exp.zero];exact zB 0 (by rw[ho,hv];simp)
   |some f =>
    by_cases h0:f.kind=0\/f.kind=1
    .have hv:y5 p (n+1) (.mk 3 id kids)=decide (kids.length=0):=by cases kids<;>simp[y5,hf,mX,h0]
     rcases h0 with h0|h0
     all_goals
      simp[dI,hf,zJ,h0];exact fun _=>zB 0 (by rw[ho,hv];simp)
    .have hv:y5 p (n+1) (.mk 3 id kids)=false:=by cases kids<;>simp[y5,hf,mX,h0]
     have g0:f.kind≠0:=fun e=>h0 (.inl e)
     have g1:f.kind≠1:=fun e=>h0 (.inr e)
     simp[dI,hf,zJ,g0,g1];exact zB 0 (by rw[ho,hv];simp)
  .by_cases h0:k=0\/k=1
   .by_cases hid:id=Id.zero
    .subst hid;have hv:y5 p (n+1) (.mk k Id.zero kids)=decide (kids.length=0):=by cases kids<;>simp[y5,h2,h3,h0]
     rcases h0 with rfl|rfl
     all_goals
      simp[zF,zI,hi24];exact fun _=>zB 0 (by rw[ho,hv];simp)
    .have hv:y5 p (n+1) (.mk k id kids)=false:=by simp only[y5,Typ.k_mk,Typ.id_mk,Typ.kids_mk,h2,h3,if_false];simp[hid]
     rcases h0 with rfl|rfl
     all_goals
      simp[zF,zI,hi24,hid];exact zB 0 (by rw[ho,hv];simp)
   .have hv:y5 p (n+1) (.mk k id kids)=false:=by simp only[y5,Typ.k_mk,Typ.id_mk,Typ.kids_mk,h2,h3,if_false];simp[h0]
    have g0:k≠0:=fun e=>h0 (.inl e)
    have g1:k≠1:=fun e=>h0 (.inr e)
    simp[zF,zI,hi24,g0,g1,h2,h3];exact zB 0 (by rw[ho,hv];simp)
 .have:i=25:=by omega
  subst this;simp;exact zB 0 (by rw[ho];simp[y5])
def qFB:Nat->Option wE:=fun|1=>some [(0,1),(2,1),(1,7),(3,7),(4,302),(5,303),(6,0),(7,0)] | 2=>some [(0,1),(1,1),(2,1),(3,1),(5,1),(6,1),(7,1),(8,1),(4,8),(9,8),(10,0),(11,4),(12,0)]|_=>none
@[simp]theorem qH8{f:Nat}{o:KOp}{env:Env}(h1:6<f)(h2:f<1000):dD f o env=True:=by
 unfold dD;split
 .omega
 .omega
 .rw[if_neg (by omega),if_neg (by omega),if_neg (by omega)]
variable{P:Program}{U:St}
@[simp]theorem qCs{Qd:Value->St->Prop}{f d l:Nat}{zs:wM}{K':wK}{env:Env} :jZ P Qd f K' (.alr (some d) l zs) env U = wpO P c8 K' (.alr (some d) l zs) env U:=by simp[jZ,KOp.lite,KOp.keeps]
@[simp]theorem qK7{d l:Nat}{zs:wM}{Qp:Value->wK}{K':wK}{env:Env} :wpO P Qp K' (.alr (some d) l zs) env U = (match U[l]? with
 |some .rsv=>K' (env.put (some d) (.ptr l 0)) (U.set l (.box (zs.map jP)))
 |_=>False):=rfl
theorem zMs{d:wD}{env:Env}{K:wK}{f:FuncId}{l n:Nat}{e:TypeId}{sz:Nat}{cs:wF}{r:A}(hU:U[l]?=some (.row false e sz n cs))(h:Ret P f [.sl n cs] [] r [])(ha:dT [] [.sl n cs] [.sl n cs])
 (hq:K (env.put d (ren [] U.length r)) (U.set l (.row true e sz n cs))):xQ P U d K f [.row l n] env:=by
 refine⟨_,_,zPi hU (cZ h [] (by simp) trivial ha ⟨rfl,rfl⟩),?_⟩
 simpa using hq
def nJ(p q:wS):wG:=aT (zFn Dfn.id yQ (oP p) (oP q)++zFn Exp.id cH (rG p) (rG q))
theorem zQz{l l':wG}(h:l.Perm l'):aT l=aT l':=(pW l).unique (pW l') fun x=>by rw[yX,yX,h.mem_iff]
theorem zFg(p q:Prg)(h1:(oP p.defs).length<=100000)(h2:(oP q.defs).length<=100000)(h3:(rG p.defs).length<=300000)(h4:(rG q.defs).length<=300000) :
 my 25 [.agg (zI p),.agg (zI q)] [] (.sl (nJ p.defs q.defs).length (zY (nJ p.defs q.defs))) []:=by
 refine ml qFB [7] [] [] [.slot 4] func25 (by kernel_rfl) ?_
 (conv in kH _ _ _=>cbv)
 simp;refine⟨_,_,b9 2,?_⟩;simp[zI];refine zNX (zOA p) (by simp) (by simp[zI]) ?_;simp;refine zNX (zOA q) (by simp) (by simp[zI]) ?_;simp;refine zRQ (zMv 63 (by kernel_rfl) yQ zNt (oP p.defs) (oP q.defs) (by omega) (by omega)) [4,6] (by simp) (by simp) (by simp) (fun v τ h=>by obtain⟨l,_,h,_⟩:=h;cases h) fun r τ h=>?_
 obtain⟨l1,hl1,hr,rfl⟩:=h;cases hr;refine⟨by simp;exact aR.append _ [_],?_⟩;simp;refine zRQ (zMw 65 (by kernel_rfl) cH zLv (rG p.defs) (rG q.defs) (by omega) (by omega)) [5,7] (by simp) (by simp) (by simp) (fun v τ h=>by obtain⟨l,_,h,_⟩:=h;cases h) fun r τ h=>?_
 obtain⟨l2,hl2,hr,rfl⟩:=h;cases hr;refine⟨by simp;exact aR.append _ [_],?_⟩;simp;have e1:=hl1.length_eq;have e2:=hl2.length_eq;have k1:(zFn Dfn.id yQ (oP p.defs) (oP q.defs)).length<=200000:=by have:=jBp (cD1 Dfn.id (oP q.defs) yQ) (oP p.defs);have:=jBp (cD2 Dfn.id (oP p.defs)) (oP q.defs);simp only[zFn,jA4,jAb];omega
 have k2:(zFn Exp.id cH (rG p.defs) (rG q.defs)).length<=600000:=by have:=jBp (cD1 Exp.id (rG q.defs) cH) (rG p.defs);have:=jBp (cD2 Exp.id (rG p.defs)) (rG q.defs);simp only[zFn,jA4,jAb];omega
 refine⟨⟨by simp[maxLen];omega,by omega⟩,?_⟩;have hs:=zBo (l1++l2) (by rw[jA4];omega);rw[zQz (hl1.append hl2),jA4,qO]at hs;refine zMs rfl hs (by simp) ?_;simp;exact zB 0 (by simp[nJ])
def k_(l:wA):Option wE:=some (l.zipIdx.map fun p=>(p.2,p.1))
def qFH:Nat->Option wE:=fun|17=>k_ [0,0,1,1,1,1,7,0,0,0,304,0,0]|_=>none
noncomputable def zLR:{k:K//K.chg [87,77,147] [] (zV prog f88 qFH [])=k}:=⟨_,by conv=>lhs;cbv⟩
theorem zPg:kx f88 qFH zLR.1:=mz (by kernel_rfl)
abbrev bG:FuncId:=37
def cP(hs:wQ)(own:Int)(f:FuncId)(m:Mk)(args:wF)(env:wJ)(t:Typ)(c:Int):Prop :=
 ∃(e:Exp) (m':Mk),my f args (mkS m) (.agg (zG e)) (mkS m')/\Adv m m' c/\WT hs own env e t/\Seg m.temp m'.temp (tmps e)/\e.num0
def eN(hs:wQ)(R:Nat)(c depth:Int)(Q:Nat->Prop)(len:Nat):Prop :=
 ∀(m:Mk) (r:Nat) (t:Typ) (env:wJ),Cx hs R m->Lim m c->TyOk hs r t->Q r->EnvOk hs R m.temp env->0<env.length->env.length<=len ->
  cP hs m.own bG m [.ptr 0 0,.agg (zF t),.sl env.length (z6 env),int depth] env t c
theorem Adv.zero(m:Mk):Adv m m 0:=⟨rfl,rfl,rfl,rfl,rfl,by omega,by omega,by omega,by omega,by omega,by omega,by omega,by omega⟩
theorem oY(e:Exp):∀es:wH,jJ (es++[e])=jJ es++tmps e
 |[]=>by simp[jJ]
 |x::es=>by simp[jJ,oY e es]
variable{depth:Int}{Q:Nat->Prop}
theorem zOp{R:Nat}{len:Nat}(hk:eN hs R c depth Q len)(hc:0<=c)(env:wJ)(h1:0<env.length)(h2:env.length<=len) :
 ∀(ts:wT) (m:Mk),Cx hs R m->Lim m (ts.length*c)->(∀t∈ts,∃r,TyOk hs r t/\Q r)->EnvOk hs R m.temp env ->
  ∃(es:wH) (ms:Nat->Mk),es.length=ts.length/\ms 0=m/\(∀j≤ts.length,Adv m (ms j) (j*c))/\Seg m.temp (ms ts.length).temp (jJ es) /\
   ∀(j:Nat) (hj:j<es.length) (hj':j<ts.length),my bG [.ptr 0 0,.agg (zF ts[j]),.sl env.length (z6 env),int depth] (mkS (ms j)) (.agg (zG es[j])) (mkS (ms (j+1)))/\WT hs m.own env es[j] ts[j]/\es[j].num0:=by
 intro ts;induction ts using fT with
 |nil =>
  intro m hx hl ht he;refine⟨[],fun _=>m,rfl,rfl,fun j hj=>?_,Seg.nil,fun j hj=>by simp at hj⟩;have:j=0:=by simpa using hj
  subst this;exact(Adv.zero m).mono (by simp)
 |snoc ts t ih =>
  intro m hx hl ht he;have e1:((ts++[t]).length:Int)*c=ts.length*c+c:=by rw[jA4,jAn,jDd,Int.add_mul];simp
  rw[e1]at hl;have hz:0<=(ts.length:Int)*c:=Int.mul_nonneg (by omega) hc;obtain⟨es,ms,q1,q2,q3,q4,q5⟩:=ih m hx (hl.mono (by omega)) (fun t' ht'=>ht t' (by simp[ht'])) he;have a1:=q3 ts.length (jA _);obtain⟨r,hr,hQ⟩:=ht t (by simp);obtain⟨e,m',g1,g2,g3,g4,g5⟩:=hk (ms ts.length) r t env (hx.adv a1) (Lim.adv (c:=ts.length*c) (c':=c) hl a1) hr hQ (he.mono a1.temp1) h1 h2;refine⟨es++[e],fun j=>if j<=ts.length then ms j else m',by simp[q1],by simp[q2],fun j hj=>?_,?_,fun j hj hj'=>?_⟩
  .by_cases hle:j<=ts.length
   .simp only[hle,if_true];exact q3 j hle
   .have:j=ts.length+1:=by simp at hj;omega
    subst this;simp only[show ¬(ts.length+1<=ts.length) by omega,if_false];have:=a1.trans g2;rw[show (((ts.length+1:Nat):Int))*c=ts.length*c+c by rw[jDd,Int.add_mul];simp];exact this
  .rw[oY];simp only[jA4,jAn,show ¬(ts.length+1<=ts.length) by omega,if_false];exact q4.append g4 a1.temp1 g2.temp1
  .simp only[jA4,jAn]at hj hj';by_cases hlt:j<ts.length
   .have hjes:j<es.length:=by omega
    rw[jCz hjes,jCz hlt];simp only[show j<=ts.length by omega,if_true,show j+1<=ts.length by omega];exact q5 j hjes hlt
   .have:j=ts.length:=by omega
    subst this;rw[jCo (by omega),jCo (by omega)];simp only[jA,if_true,show ¬(ts.length+1<=ts.length) by omega,if_false,jBn,q1,jD7];rw[a1.own]at g3;exact⟨g1,g3,g5⟩
theorem zSA{R:Nat}{len:Nat}(hk:eN hs R c depth Q len)(hc:0<=c)(env:wJ)(h1:0<env.length)(h2:env.length<=len)(t:Typ)(hr:TyOk hs r t)(hQ:Q r)
 (m:Mk)(hx:Cx hs R m)(he:EnvOk hs R m.temp env):∀(k:Nat),Lim m (k*c) ->
  ∃(es:wH) (ms:Nat->Mk),es.length<=k/\ms 0=m/\(∀j≤es.length,Adv m (ms j) (j*c))/\Seg m.temp (ms es.length).temp (jJ es)/\(∀j<es.length,0<(ms j).left)/\(es.length=k\/(ms es.length).left<=0) /\
   ∀(j:Nat) (hj:j<es.length),my bG [.ptr 0 0,.agg (zF t),.sl env.length (z6 env),int depth] (mkS (ms j)) (.agg (zG es[j])) (mkS (ms (j+1)))/\WT hs m.own env es[j] t/\es[j].num0:=by
 intro k;induction k with
 |zero =>
  intro hl;refine⟨[],fun _=>m,jA _,rfl,fun j hj=>?_,Seg.nil,fun j hj=>by simp at hj,.inl rfl,fun j hj=>by simp at hj⟩;have:j=0:=by simpa using hj
  subst this;exact(Adv.zero m).mono (by simp)
 |succ k ih =>
  intro hl;have e1:(((k+1:Nat):Int))*c=k*c+c:=by rw[jDd,Int.add_mul];simp
  rw[e1]at hl;obtain⟨es,ms,q0,q2,q3,q4,q6,q7,q5⟩:=ih (hl.mono (by omega));by_cases hdone:es.length=k/\0<(ms es.length).left
  .obtain⟨hek,hleft⟩:=hdone;have a1:=q3 es.length (jA _);rw[hek]at a1;obtain⟨e,m',g1,g2,g3,g4,g5⟩:=hk (ms k) r t env (hx.adv a1) (Lim.adv (c:=k*c) (c':=c) hl a1) hr hQ (he.mono a1.temp1) h1 h2;refine⟨es++[e],fun j=>if j<=k then ms j else m',by simp[hek],by simp[q2],fun j hj=>?_,?_,fun j hj=>?_,.inl (by simp[hek]),fun j hj=>?_⟩
   .simp only[jA4,jAn,hek]at hj;by_cases hle:j<=k
    .simp only[hle,if_true];exact q3 j (by omega)
    .have:j=k+1:=by omega
     subst this;simp only[show ¬(k+1<=k) by omega,if_false];rw[e1];exact a1.trans g2
   .rw[oY];rw[hek]at q4;simp only[jA4,jAn,hek,show ¬(k+1<=k) by omega,if_false];exact q4.append g4 a1.temp1 g2.temp1
   .simp only[jA4,jAn,hek]at hj;simp only[show j<=k by omega,if_true];by_cases e:j=k
    .subst e;rw[hek]at hleft;exact hleft
    .exact q6 j (by omega)
   .simp only[jA4,jAn,hek]at hj;by_cases hlt:j<k
    .have hjes:j<es.length:=by omega
     rw[jCz hjes];simp only[show j<=k by omega,if_true,show j+1<=k by omega];exact q5 j hjes
    .have:j=k:=by omega
     subst this;rw[jCo (by omega)];simp only[jA,if_true,show ¬(j+1<=j) by omega,if_false,jBn,hek,jD7];rw[a1.own]at g3;exact⟨g1,g3,g5⟩
  .refine⟨es,ms,by omega,q2,q3,q4,q6,.inr ?_,q5⟩;rcases q7 with q7|q7
   .by_cases h:0<(ms es.length).left
    .exact(hdone ⟨q7,h⟩).elim
    .omega
   .exact q7
def dfn(p:Prg)(id:Id):Dfn:=(qG p.defs id).getD .zero
def fSt(p:Prg)(t:Typ):St:=[.box (zI p),.box (zF t)]
def zGY(q:Val->Bool):List Val->Nat->Int
 |[],_=>-1
 |x::l,n=>if q x then n else zGY q l (n+1)
theorem zK6(q:Val->Bool):∀(l:wI) (n:Nat),(l.any q=true/\0<=zGY q l n)\/(l.any q=false/\zGY q l n = -1)
 |[],n=>.inr ⟨rfl,rfl⟩
 |x::l,n=>by
  simp only[zGY,List.any_cons];cases hx:q x with
  |true=>exact .inl ⟨by simp,by simp⟩
  |false=>simpa using zK6 q l (n+1)
mutual
def cE(p:Prg):Typ->Val->Bool
 |t,.mk k n l=>cI p t&&(if t.k=0 then decide (k=0)&&decide (l.length=0)&&decide (-1099511627776<=n)&&decide (n<=1099511627776)else if t.k=1 then decide (k=1)&&decide (l.length=0)&&(decide (n=0)||decide (n=1))
  else if t.k=2 then decide (k=4)&&decide (n=0)&&mQ p (t.kids.headD .zero) l
  else if (dfn p t.id).kind=1 then decide (k=3)&&decide (0<=n)&&decide (n<(dfn p t.id).slots.length)&&decide (l.length=1)&&fQ p ((dfn p t.id).slots.map Slt.typ)[n.toNat]? l
  else decide (k=2)&&decide (n=0)&&decide (l.length=(dfn p t.id).slots.length)&&aM p ((dfn p t.id).slots.map Slt.typ) l)
def mQ(p:Prg)(t:Typ):List Val->Bool
 |[]=>true
 |v::l=>cE p t v&&mQ p t l
def fQ(p:Prg):Option Typ->List Val->Bool
 |some t,v::_=>cE p t v
 |_,_=>false
def aM(p:Prg):List Typ->List Val->Bool
 |t::ts,v::l=>cE p t v&&aM p ts l
 |_,_=>true
end
theorem zH3(p:Prg)(t:Typ):∀(l:wI),mQ p t l=l.all (cE p t)
 |[]=>by rw[mQ];rfl
 |v::l=>by rw[mQ,zH3 p t l];rfl
theorem iT(p:Prg)(t:Typ)(v:Val):cE p t v=(cI p t&&(if t.k=0 then decide (v.k=0)&&decide (v.kids.length=0)&&decide (-1099511627776<=v.n)&&decide (v.n<=1099511627776)else if t.k=1 then decide (v.k=1)&&decide (v.kids.length=0)&&(decide (v.n=0)||decide (v.n=1))
 else if t.k=2 then decide (v.k=4)&&decide (v.n=0)&&v.kids.all (cE p (t.kids.headD .zero))
 else if (dfn p t.id).kind=1 then decide (v.k=3)&&decide (0<=v.n)&&decide (v.n<(dfn p t.id).slots.length)&&decide (v.kids.length=1)&&fQ p ((dfn p t.id).slots.map Slt.typ)[v.n.toNat]? v.kids
 else decide (v.k=2)&&decide (v.n=0)&&decide (v.kids.length=(dfn p t.id).slots.length)&&aM p ((dfn p t.id).slots.map Slt.typ) v.kids)):=by
 cases v with
 |mk k n l=>rw[cE,zH3];rfl
theorem zSs(p:Prg)(t x:Typ)(hx:t.kids=[x])(v:Val)(b:Bool)(h:my 147 [.agg (zI p),.agg (zF x),.agg (zN v)] [] (bl b) []) :
 my 193 [.agg (zN v),.ptr 0 0,.ptr 1 0] (fSt p t) (bl (!b)) (fSt p t):=by
 refine mq [] [.slot 4] func193 (by kernel_rfl) ?_
 (conv in kq _ _=>cbv)
 simp[fSt,zI,zF,zN,hx];refine qC h (by simp[zI,zF,zN,qX]) (by simp) ?_;simp;exact mv [0,1] 0 (by rfl) (by simp[zI,zF,hx])
theorem zUT(p:Prg)(t:Typ)(q:Val->Bool)(l:wI)(h:∀v∈l,my 193 [.agg (zN v),.ptr 0 0,.ptr 1 0] (fSt p t) (bl (q v)) (fSt p t)) :
 my 216 [.sl l.length (zT l),.clo 193 [] [.ptr 0 0,.ptr 1 0]] (fSt p t) (int (zGY q l 0)) (fSt p t):=by
 refine mq [] [.slot 4] func216 (by kernel_rfl) ?_
 (conv in kq _ _=>cbv)
 simp[fSt,zI,zF];intro hl;refine qI (S:=Nat) (fun i=>[(0,.sl l.length (zT l)),(1,.clo 193 [] [.ptr 0 0,.ptr 1 0]),(6,.sl l.length (zT l)),(7,int l.length),(8,int i)]) (fun i=>fSt p t) (fun i=>i<=l.length/\zGY q l 0=zGY q (l.drop i) i) (fun i=>l.length-i) 0 (by simp)
  (mw [0,1] 0 (by rfl) (by simp[fSt,zI,zF])) ?_
 rintro i ⟨hi,ho⟩;by_cases hil:i<l.length
 .have hd:l.drop i=l[i]::l.drop (i+1):=jB6 hil;simp[hil,jE hil,fSt,zI,zF];refine mr (h l[i] (jA0 hil)) [0,1] (by simp[fSt,zI,zF,zN]) ?_;cases hq:q l[i]with
  |true =>
   simp[fSt,zI,zF];exact ke [0,1] 0 (by rfl) (by simp[zI,zF]) (by rw[ho,hd];simp[zGY,hq])
  |false =>
   simp[fSt,zI,zF];exact zO (i+1) ⟨hil,by rw[ho,hd];simp[zGY,hq]⟩ (by omega) (mw [0,1] 0 (by rfl) (by simp[fSt,zI,zF,zZ hil hl]))
 .have:i=l.length:=by omega
  subst this;simp[fSt,zI,zF];exact ke [0,1] 0 (by rfl) (by simp[zI,zF]) (by rw[ho];simp[zGY])
theorem zUw(p:Prg)(t:Typ)(q:Val->Bool)(l:wI)(h:∀v∈l,my 193 [.agg (zN v),.ptr 0 0,.ptr 1 0] (fSt p t) (bl (q v)) (fSt p t)) :
 my 191 [.sl l.length (zT l),.clo 193 [] [.ptr 0 0,.ptr 1 0]] (fSt p t) (bl (l.any q)) (fSt p t):=by
 refine mq [] [.slot 4] func191 (by kernel_rfl) ?_
 (conv in kq _ _=>cbv)
 simp[fSt,zI,zF];refine mr (zUT p t q l h) [0,1] (by simp[fSt,zI,zF]) ?_;rcases zK6 q l 0 with ⟨h1,h2⟩|⟨h1,h2⟩
 all_goals
  simp[fSt,zI,zF,h2];exact mv [0,1] 0 (by rfl) (by simp[zI,zF,h1])
abbrev zJb:FuncId:=88
theorem zWZ{R:Nat}(hx:Cx hs R m){k:Nat}(hk:k<hs.length)(h1:∀(j:Nat)(hj:j<k),hs[j].id≠hs[k].id):∃h:k<m.defs.length,zAt m.defs hs[k].id=(m.defs[k],true)/\m.defs[k].hd=hs[k]:=by
 have hl:=hx.dlen;have h:k<m.defs.length:=by omega
 have hg:=hx.get h;refine⟨h,?_,hg.symm⟩;unfold zAt;rw[zCX h (fun d hd=>?_) (by rw[hg];rfl)];rw[List.mem_take_iff_getElem]at hd;obtain⟨j,hj,rfl⟩:=hd;have hjl:j<m.defs.length:=by omega
 have:=h1 j (by omega);rw[hx.get hjl]at this;exact this
theorem zVj{R:Nat}(hl:Lim m 1)(x depth:Int)(hx0:0<=x)(hx1:x<=65536):cP hs m.own zJb m [.ptr 0 0,.agg (zF jT),.sl env.length (z6 env),int x,int depth] env jT 1:=by
 have e9:x.tmod 9=x % 9:=tmN hx0;have e29:x.tmod 29=x % 29:=tmN hx0;have e2:x.tmod 2=x % 2:=tmN hx0;have key:∀n,-1099511627776<=n->n<=1099511627776->(∀(K:Prop),K->K)->my zJb [.ptr 0 0,.agg (zF jT),.sl env.length (z6 env),int x,int depth] (mkS m) (.agg (zG (.mk ⟨0,0,m.temp⟩ 0 n Id.zero Typ.zero [] []))) (mkS {m with temp:=m.temp+1,left:=m.left-1})->cP hs m.own zJb m [.ptr 0 0,.agg (zF jT),.sl env.length (z6 env),int x,int depth] env jT 1:=fun n q1 q2 _ h =>
  ⟨_,_,h,aD m,.int _ _ _ q1 q2,by simp only[tmps,jJ,jBk];exact Seg.one _,zAi⟩
 have w1:=qF (x.tmod 9-2) (by omega);have w2:=qF (1099511627776-x.tmod 2) (by omega);obtain⟨l1,l2,l3,l4,l5,l6,l7,l8⟩:=hl;by_cases h29:x.tmod 29=3
 .refine key (1099511627776-x.tmod 2) (by omega) (by omega) (fun _ h=>h) ?_;refine zK func88 rfl zPg (rs:=[.cell 10 15 true]) (by kernel_rfl) ?_
  simp only[zLR]
  simp[mkS,mkB,zF,jT,w1,w2,h29];refine mr (aO m 0 (1099511627776-x.tmod 2) [] l3 (by omega) (by omega) l6) [0,1] (by simp[mkS,mkB]) ?_;simp[mkS,mkB];exact mv [0,1] 0 (by rfl) (by simp)
 .refine key (x.tmod 9-2) (by omega) (by omega) (fun _ h=>h) ?_;refine zK func88 rfl zPg (rs:=[.cell 10 15 true]) (by kernel_rfl) ?_
  simp only[zLR]
  simp[mkS,mkB,zF,jT,w1,w2,h29];refine mr (aO m 0 (x.tmod 9-2) [] l3 (by omega) (by omega) l6) [0,1] (by simp[mkS,mkB]) ?_;simp[mkS,mkB];exact mv [0,1] 0 (by rfl) (by simp)
theorem zSF(hl:Lim m 1)(x depth:Int)(hx0:0<=x):cP hs m.own zJb m [.ptr 0 0,.agg (zF j9),.sl env.length (z6 env),int x,int depth] env j9 1:=by
 have e2:x.tmod 2=x % 2:=tmN hx0;obtain⟨l1,l2,l3,l4,l5,l6,l7,l8⟩:=hl;refine⟨.mk ⟨0,0,m.temp⟩ 1 (x.tmod 2) Id.zero Typ.zero [] [],_,?_,aD m,.bool _ _ _ (by omega),by simp only[tmps,jJ,jBk];exact Seg.one _,zAi⟩;refine zK func88 rfl zPg (rs:=[.cell 10 15 true]) (by kernel_rfl) ?_
 simp only[zLR]
 simp[mkS,mkB,zF,j9];refine mr (aO m 1 (x.tmod 2) [] l3 (by omega) (by omega) l6) [0,1] (by simp[mkS,mkB]) ?_;simp[mkS,mkB];exact mv [0,1] 0 (by rfl) (by simp)
theorem zSH{R:Nat}{len:Nat}(hc:0<=c)(hl:Lim m (2*c+1))(x:Int)(hx0:0<=x)(t:Typ)(hr:TyOk hs r t)(hQ:Q r)
 (hk:eN hs R c (depth-1) Q len)(hx:Cx hs R m)(he:EnvOk hs R m.temp env)(h1:0<env.length)(h2:env.length<=len)(hd1 : -1000<=depth)(hd2:depth<=1000) :
 cP hs m.own zJb m [.ptr 0 0,.agg (zF (jX t)),.sl env.length (z6 env),int x,int depth] env (jX t) (2*c+1):=by
 have e3:x.tmod 3=x % 3:=tmN hx0;have wd:=qF (depth-1) (by omega);obtain⟨K,hK,hK2⟩:∃K:Nat,(K:Int)=(if 0<=depth then x.tmod 3 else 0)/\K<=2:=by
  by_cases h:0<=depth
  .exact⟨(x % 3).toNat,by rw[if_pos h,e3];omega,by omega⟩
  .exact⟨0,by rw[if_neg h];rfl,by omega⟩
 have hKc:(K:Int)*c<=2*c:=jDe (by omega) hc;obtain⟨es,ms,q0,q2,q3,q4,q6,q7,q5⟩:=zSA hk hc env h1 h2 t hr hQ m hx he K (hl.mono (by omega));have ha:=q3 es.length (jA _);have hec:(es.length:Int)*c<=2*c:=jDe (by omega) hc;have ha2:=ha.mono hec;have hln:=Lim.adv (c:=2*c) (c':=1) hl ha2;obtain⟨l1,l2,l3,l4,l5,l6,l7,l8⟩:=hln;refine⟨.mk ⟨0,0,(ms es.length).temp⟩ 11 0 Id.zero t es [],{ms es.length with temp:=(ms es.length).temp+1,left:=(ms es.length).left-1},?_,ha2.trans (aD _),.list _ _ _ _ fun j hj=>(q5 j hj).2.1,
  by simp only[tmps];exact q4.append (Seg.one _) ha.temp1 (by omega),i4 (zCk rfl fun j hj=>(q5 j hj).2.2)⟩
 refine zK func88 rfl zPg (rs:=[.cell 10 15 true]) (by kernel_rfl) ?_
 simp only[zLR]
 simp[mkS,mkB,zF,jX];refine qI (S:=Nat) (fun i=>[(0,.ptr 0 0),(2,.sl env.length (z6 env)),(3,int x),(4,int depth),(6,.ptr 2 0),(10,.ptr 3 0),(12,.row 4 i),(13,int i)])
  (fun i=>mkS (ms i)++[.box (zF (jX t)),.box (zG Exp.zero),.row false 40 15 i (qM (es.take i))]) (fun i=>i<=es.length) (fun i=>es.length-i) 0 (by simp)
  ((jS (t:=12) (by simp) 40 15).trans (mw [0,1,2,3,4] 0 (by rfl) (by simp[mkS,mkB,zF,jX,q2,zG,Exp.zero,Id.zero,Typ.zero]))) ?_
 intro i hi;have hms:=q3 i hi;by_cases hi2:i<es.length
 .obtain⟨g1,_,_⟩:=q5 i hi2;have c2:0<=depth:=by
   by_cases h:0<=depth
   .exact h
   .rw[if_neg h]at hK;omega
  have c1:(i:Int)<x.tmod 3:=by rw[if_pos c2]at hK;omega
  have c3:=q6 i hi2;have hst:qM (es.take (i+1))=qM (es.take i)++zG es[i]:=bD hi2;have hw:=yK i (by omega);simp[mkS,mkB,zF,jX,c1,c2,c3,wd,qX];refine mr g1 [0,1] (by simp[mkS,mkB,zF]) ?_;simp[mkS,mkB];refine⟨⟨by simp[maxLen];omega,by omega⟩,?_⟩;exact zO (i+1) hi2 (by omega) (mw [0,1,2,3,4] 0 (by rfl) (by simp[mkS,mkB,zF,jX,zG,Exp.zero,Id.zero,Typ.zero,hst,hw]))
 .have hie:i=es.length:=by omega
  subst hie;have hexit:¬((es.length:Int)<x.tmod 3/\0<=depth/\0<(ms es.length).left):=fun hh=>by
   rcases q7 with q7|q7
   .rw[if_pos hh.2.1]at hK;omega
   .omega
  by_cases c1:(es.length:Int)<x.tmod 3
  .by_cases c2:0<=depth
   .have c3:¬0<(ms es.length).left:=fun h=>hexit ⟨c1,c2,h⟩
    simp[mkS,mkB,zF,jX,c1,c2,c3,qX];refine⟨jO [(0,.ptr 0 0),(6,.ptr 2 0),(10,.ptr 3 0),(12,.sl es.length (qM es))],mkS (ms es.length)++[.box (zF (jX t)),.box (zG Exp.zero)],mw [0,1,2,3] 1 (by rfl) (by simp[mkS,mkB,zF,jX,zG,Exp.zero,Id.zero,Typ.zero,qX]),?_⟩;simp[mkS,mkB,zF,jX];refine mr (aO (ms es.length) 11 0 es l3 (by omega) (by omega) l6) [0,1] (by simp[mkS,mkB]) ?_;simp[mkS,mkB,zF,jX,zG,qX];exact mv [0,1] 0 (by rfl) (by simp[zG])
   .simp[mkS,mkB,zF,jX,c1,c2,qX];refine⟨jO [(0,.ptr 0 0),(6,.ptr 2 0),(10,.ptr 3 0),(12,.sl es.length (qM es))],mkS (ms es.length)++[.box (zF (jX t)),.box (zG Exp.zero)],mw [0,1,2,3] 1 (by rfl) (by simp[mkS,mkB,zF,jX,zG,Exp.zero,Id.zero,Typ.zero,qX]),?_⟩;simp[mkS,mkB,zF,jX];refine mr (aO (ms es.length) 11 0 es l3 (by omega) (by omega) l6) [0,1] (by simp[mkS,mkB]) ?_;simp[mkS,mkB,zF,jX,zG,qX];exact mv [0,1] 0 (by rfl) (by simp[zG])
  .simp[mkS,mkB,zF,jX,c1,qX];refine⟨jO [(0,.ptr 0 0),(6,.ptr 2 0),(10,.ptr 3 0),(12,.sl es.length (qM es))],mkS (ms es.length)++[.box (zF (jX t)),.box (zG Exp.zero)],mw [0,1,2,3] 1 (by rfl) (by simp[mkS,mkB,zF,jX,zG,Exp.zero,Id.zero,Typ.zero,qX]),?_⟩;simp[mkS,mkB,zF,jX];refine mr (aO (ms es.length) 11 0 es l3 (by omega) (by omega) l6) [0,1] (by simp[mkS,mkB]) ?_;simp[mkS,mkB,zF,jX,zG,qX];exact mv [0,1] 0 (by rfl) (by simp[zG])
variable{p:Prg}
theorem zN6(h:cI p t=true)(h2:t.k=2):∃x,t.kids=[x]:=by
 cases t with
 |mk k id kids =>
  simp only[Typ.k_mk]at h2;subst h2;simp only[cI,y5,Typ.k_mk,Typ.id_mk,Typ.kids_mk,if_true]at h;split at h
  .exact⟨_,rfl⟩
  .cases h
theorem zP4{ts:wT}:aM p ts []=true:=by cases ts<;>simp[aM]
theorem zSt{v:Val}(h:cI p t=false):cE p t v=false:=by rw[iT,h];rfl
theorem zE7(p:Prg)(t:Typ)(v:Val):my 147 [.agg (zI p),.agg (zF t),.agg (zN v)] [] (bl (cE p t v)) []:=by
 refine mq [] [.slot 6] func147 (by kernel_rfl) ?_
 (conv in kq _ _=>cbv)
 simp[zI,zF,zN];refine mu (zGB p t) (by simp[zI,zF]) ?_;cases hv:cI p t with
 |false =>
  simp;exact zB 0 (by simp[zSt hv])
 |true =>
 by_cases h0:t.k=0
 .have e:cE p t v=(decide (v.k=0)&&decide (v.kids.length=0)&&decide (-1099511627776<=v.n)&&decide (v.n<=1099511627776)):=by rw[iT,hv,if_pos h0,jCp]
  by_cases c1:v.k=0
  .by_cases c2:v.kids.length=0
   .by_cases c3 : -1099511627776<=v.n
    all_goals
     simp[hv,h0,c1,c2,c3];exact zB 0 (by rw[e];simp[c1,c2,c3])
   .simp[hv,h0,c1,c2];exact fun _=>zB 0 (by rw[e];simp[c1,c2])
  .simp[hv,h0,c1];exact zB 0 (by rw[e];simp[c1])
 by_cases h1:t.k=1
 .have e:cE p t v=(decide (v.k=1)&&decide (v.kids.length=0)&&(decide (v.n=0)||decide (v.n=1))):=by rw[iT,hv,if_neg h0,if_pos h1,jCp]
  by_cases c1:v.k=1
  .by_cases c2:v.kids.length=0
   .by_cases c3:v.n=0
    all_goals
     simp[hv,h1,c1,c2,c3];exact zB 0 (by rw[e];simp[c1,c2,c3])
   .simp[hv,h1,c1,c2];exact fun _=>zB 0 (by rw[e];simp[c1,c2])
  .simp[hv,h1,c1];exact zB 0 (by rw[e];simp[c1])
 by_cases h2:t.k=2
 .obtain⟨x,hx⟩:=zN6 hv h2;have e:cE p t v=(decide (v.k=4)&&decide (v.n=0)&&v.kids.all (cE p x)):=by rw[iT,hv,if_neg h0,if_neg h1,if_pos h2,jCp,hx];rfl
  by_cases c1:v.k=4
  .by_cases c2:v.n=0
   .simp[hv,h2,c1,c2];refine mr (zUw p t (fun y=>!cE p x y) v.kids (fun y hy=>zSs p t x hx y _ (zE7 p x y))) [0,1] (by simp[fSt,zI,zF,h2]) ?_;simp[fSt,zI,zF];exact zB 0 (by rw[e];simp[c1,c2,List.all_eq_not_any_not])
   .simp[hv,h2,c1,c2];exact zB 0 (by rw[e];simp[c1,c2])
  .simp[hv,h2,c1];exact zB 0 (by rw[e];simp[c1])
 have e:=iT p t v;rw[hv,if_neg h0,if_neg h1,if_neg h2,jCp]at e;simp[hv,h0,h1,h2];refine mu (lO p t.id) (by simp[zI,zS,dI]) ?_;have hD:(qG p.defs t.id).getD .zero=dfn p t.id:=rfl;generalize dfn p t.id=D at hD e;by_cases hk:D.kind=1
 .rw[if_pos hk]at e;by_cases c1:v.k=3
  .by_cases c2:0<=v.n
   .by_cases c3:v.n<D.slots.length
    .by_cases c4:v.kids.length=1
     .obtain⟨x,hx⟩:∃x,v.kids=[x]:=List.length_eq_one_iff.1 c4;obtain⟨i,hi⟩:∃i:Nat,v.n=i:=⟨v.n.toNat,by omega⟩;have hil:i<D.slots.length:=by omega
      simp[dI,hD,zJ,hk,c1,hi,hil,hx,qW hil,aF];refine qC (zE7 p D.slots[i].typ x) (by simp[zI,zF,zN]) (by simp) ?_;simp;exact zB 0 (by rw[e];simp[c1,hi,hil,hx,fQ])
     .have c4':¬(v.kids.length:Int)=1:=by omega
      simp[dI,hD,zJ,hk,c1,c2,c3,c4']
      first|exact zB 0 (by rw[e];simp[c1,c2,c3,c4])|exact fun _=>zB 0 (by rw[e];simp[c1,c2,c3,c4])|exact fun _ _=>zB 0 (by rw[e];simp[c1,c2,c3,c4])
    .simp[dI,hD,zJ,hk,c1,c2,c3];exact zB 0 (by rw[e];simp[c1,c2,c3])
   .simp[dI,hD,zJ,hk,c1,c2];exact zB 0 (by rw[e];simp[c1,c2])
  .simp[dI,hD,zJ,hk,c1];exact zB 0 (by rw[e];simp[c1])
 rw[if_neg hk]at e;by_cases c1:v.k=2
 .by_cases c2:v.n=0
  .by_cases c3:v.kids.length=D.slots.length
   .simp[dI,hD,zJ,hk,c1,c2,c3];intro hl;refine qI (S:=Nat) (fun i=>[(3,.ptr 0 0),(7,.ptr 3 0),(141,.sl v.kids.length (zT v.kids)),(142,int v.kids.length),(143,int i)])
     (fun i=>[.box (zI p),.box (zF t),.box (zN v),.box (zJ D)]) (fun i=>i<=v.kids.length/\aM p (D.slots.map Slt.typ) v.kids=aM p ((D.slots.map Slt.typ).drop i) (v.kids.drop i)) (fun i=>v.kids.length-i) 0 (by simp)
     (mw [0,1,2,3] 0 (by rfl) (by simp[zI,zF,zN,zJ,hk,c1,c2,c3])) ?_
    rintro i ⟨hi,ho⟩;by_cases hil:i<v.kids.length
    .have hiD:i<D.slots.length:=by omega
     have d1:v.kids.drop i=v.kids[i]::v.kids.drop (i+1):=jB6 hil;have d2:(D.slots.map Slt.typ).drop i=D.slots[i].typ::(D.slots.map Slt.typ).drop (i+1):=by rw[jB6 (by simpa using hiD)];simp
     simp[hil,hiD,jE hil,qW hiD,zI,zJ,aF];refine qC (zE7 p D.slots[i].typ v.kids[i]) (by simp[zI,zF,zN]) (by simp) ?_;cases hf:cE p D.slots[i].typ v.kids[i]with
     |true =>
      simp;exact zO (i+1) ⟨hil,by rw[ho,d1,d2];simp[aM,hf]⟩ (by omega) (mw [0,1,2,3] 0 (by rfl) (by simp[zI,zF,zN,zJ,zZ hil (c3▸hl)]))
     |false =>
      simp;exact zB 0 (by rw[e,ho,d1,d2];simp[aM,hf])
    .have:i=v.kids.length:=by omega
     subst this;simp;exact zB 0 (by rw[e,ho,jD1 (jA v.kids.length),zP4];simp[c1,c2,c3])
   .have c3':¬(v.kids.length:Int)=D.slots.length:=by omega
    simp[dI,hD,zJ,hk,c1,c2,c3']
    first|exact zB 0 (by rw[e];simp[c1,c2,c3])|exact fun _=>zB 0 (by rw[e];simp[c1,c2,c3])|exact fun _ _=>zB 0 (by rw[e];simp[c1,c2,c3])
  .simp[dI,hD,zJ,hk,c1,c2];exact zB 0 (by rw[e];simp[c1,c2])
 .simp[dI,hD,zJ,hk,c1];exact zB 0 (by rw[e];simp[c1])
termination_by qY v
decreasing_by
 .exact cV hy
 .exact cV (by simp[hx])
 .exact cV (jA0 _)
theorem zIv(p:Prg)(t:Typ)(v:Val)(h1:qY v<=256)(h2:eW v<=24) :
 my 77 [.agg (zI p),.agg (zF t),.agg (zN v)] [] (bl (cE p t v)) []:=by
 refine mq [] [.slot 6] func77 (by kernel_rfl) ?_
 (conv in kq _ _=>cbv)
 simp[zI,zF,zN];refine mu (zT2 v h1 h2) (by simp[zN]) ?_;simp;refine mu (zE7 p t v) (by simp[zI,zF,zN]) ?_;simp;exact zB 0 (by simp)
abbrev vz:Val:=.mk 0 0 []
def zCS(a b:Int):Int:=if b=0 then 0 else if a.tmod b≠0/\¬(a<0↔b<0)then a.tdiv b-1 else a.tdiv b
def zJv(a b:Int):Int:=if b=0 then 0 else a-b*zCS a b
def zHc(n a b:Int):Int:=if n=0 then bJ (a+b)else if n=1 then bJ (a-b)else if n=2 then bJ (a*b)else if n=3 then zCS a b else zJv a b
def opV(n:Int):List Val->Val
 |[a]=>if n=9 then gA (decide (a.n=0))else .mk 0 a.kids.length []
 |[a,b]=>if n<=4 then .mk 0 (zHc n a.n b.n) []else if n=5 then gA (decide (a.n<b.n))else if n=6 then gA (decide (mO a b=0))
  else if n=7 then gA (decide (a.n=1/\b.n=1))else if n=8 then gA (decide (a.n=1\/b.n=1))else .mk 4 0 (a.kids++b.kids)
 |_=>vz
structure XS where
 fuel:Int
 fail:Int
 ds:List Id
 ns:List Id
abbrev Evl:=Exp->List EVar->XS->Val×XS
def qQ(ev:Evl)(env:wP):List Exp->XS->wI×XS
 |[],s=>([],s)
 |e::l,s=>((ev e env s).1::(qQ ev env l (ev e env s).2).1,(qQ ev env l (ev e env s).2).2)
theorem xT(ev:Evl)(env:wP)(e:Exp):∀(l:wH) (s:XS),qQ ev env (l++[e]) s=((qQ ev env l s).1++[(ev e env (qQ ev env l s).2).1],(ev e env (qQ ev env l s).2).2)
 |[],s=>rfl
 |x::l,s=>by simp only[jBe,qQ,xT ev env e l]
theorem gR(ev:Evl)(env:wP):∀(l:wH) (s:XS),(qQ ev env l s).1.length=l.length
 |[],s=>rfl
 |x::l,s=>by simp only[qQ,jAc,gR ev env l]
def j5(ev:Evl)(env:wP)(i:Id)(b:Exp):List Val->Val×XS->Val×XS
 |[],r=>r
 |x::l,r=>j5 ev env i b l (ev b (env++[⟨i,0,x⟩]++[⟨i,1,r.1⟩]) r.2)
theorem tC(ev:Evl)(env:wP)(i:Id)(b:Exp)(x:Val):∀(l:wI) (r:Val×XS),j5 ev env i b (l++[x]) r=ev b (env++[⟨i,0,x⟩]++[⟨i,1,(j5 ev env i b l r).1⟩]) (j5 ev env i b l r).2
 |[],r=>rfl
 |y::l,r=>by simp only[jBe,j5,tC ev env i b x l]
def fK(ss:List Slt)(vs:wI):wP:=List.zipWith (fun s v=>⟨s.id,0,v⟩) ss vs
theorem vJ(ss:List Slt)(vs:wI)(h:vs.length=ss.length):(fK ss vs).length=ss.length:=by simp[fK,h]
theorem zCU{ss:List Slt}{vs:wI}(h:vs.length=ss.length)(hi:i<ss.length):(fK ss vs).take (i+1)=(fK ss vs).take i++[⟨ss[i].id,0,vs[i]⟩]:=by rw[jA7 (by rw[vJ ss vs h];exact hi)];simp[fK]
def bU(ev:Evl)(d:Dfn)(vs:wI)(s:XS):Val×XS:=if s.fail≠0 then (vz,s)else ev d.body (fK d.slots vs) {s with ds:=s.ds++[d.id]}
def jK(ev:Evl)(e:Exp)(env:wP)(s:XS):Val×XS :=
 if (ev (e.kids.headD .zero) env s).2.fail≠0 then (vz,(ev (e.kids.headD .zero) env s).2)
 else if e.k=5 then ev (e.kids.getD (if (ev (e.kids.headD .zero) env s).1.n=1 then 1 else 2) .zero) env (ev (e.kids.headD .zero) env s).2
 else if e.k=6 then ev (e.kids.getD 1 .zero) (env++[⟨e.id,0,(ev (e.kids.headD .zero) env s).1⟩]) (ev (e.kids.headD .zero) env s).2
 else if e.k=8 then ((ev (e.kids.headD .zero) env s).1.kids.getD e.n.toNat vz,(ev (e.kids.headD .zero) env s).2)
 else if e.k=10 then ev (e.kids.getD (1+(ev (e.kids.headD .zero) env s).1.n).toNat .zero) (env++[⟨e.id,(ev (e.kids.headD .zero) env s).1.n,(ev (e.kids.headD .zero) env s).1.kids.headD vz⟩]) (ev (e.kids.headD .zero) env s).2
 else j5 ev env e.id (e.kids.getD 2 .zero) (ev (e.kids.headD .zero) env s).1.kids (ev (e.kids.getD 1 .zero) env (ev (e.kids.headD .zero) env s).2)
def zf(c:Bool)(s:XS)(v:Val):Val:=if c=true/\s.fail≠0 then vz else v
def qH(p:Prg)(fl:Nat)(ev:Evl)(e:Exp)(env:wP)(s:XS):Val×XS :=
 if e.k=0 then (.mk 0 e.n [],s)
 else if e.k=1 then (.mk 1 e.n [],s)
 else if e.k=2 then (rT env e.ref e.n,s)
 else if e.k=5\/e.k=6\/e.k=8\/e.k=10\/e.k=12 then jK ev e env s
 else if e.k=3 then bU ev (dfn p e.ref) (qQ ev env e.kids s).1 (qQ ev env e.kids s).2
 else if e.k=4 then (zf true (qQ ev env e.kids s).2 (opV e.n (qQ ev env e.kids s).1),(qQ ev env e.kids s).2)
 else if e.k=7 then (zf (fl==1) (qQ ev env e.kids s).2 (.mk 2 0 (qQ ev env e.kids s).1),(qQ ev env e.kids s).2)
 else if e.k=9 then (zf (fl==1) (qQ ev env e.kids s).2 (.mk 3 e.n (qQ ev env e.kids s).1),(qQ ev env e.kids s).2)
 else (zf (fl==1) (qQ ev env e.kids s).2 (.mk 4 0 (qQ ev env e.kids s).1),(qQ ev env e.kids s).2)
def zLX(v:Val):Prop:=256<uO v\/24<mW v
instance (v:Val):Decidable (zLX v):=by unfold zLX;infer_instance
abbrev zFr:Int:=18
abbrev vG:Int:=4
def lP(r:Val×XS):XS:=if r.2.fail=0/\zLX r.1 then {r.2 with fail:=vG} else r.2
def zKg(fl:Nat)(r:Val×XS):Val×XS:=(zf (fl==2) (lP r) r.1,lP r)
def fE(e:Exp)(s:XS):XS:={s with fuel:=s.fuel-1,ns:=s.ns++[e.id]}
def bC(p:Prg)(fl:Nat):Nat->Evl
 | 0,_,_,s=>if s.fail≠0 then (vz,s)else (vz,{s with fail:=zFr})
 |m+1,e,env,s =>
  if s.fail≠0 then (vz,s)else if s.fuel<=0 then (vz,{s with fail:=zFr})
  else zKg fl (qH p fl (bC p fl m) e env (fE e s))
theorem zGg{τ:St}(hk:dF U τ){j:Nat}{o:AObj}(h : U[j]?=some o)(hn:o≠AObj.rsv):j7 τ [j] [o] = τ:=by
 have h1:=hk j o h hn;have hlt:j < τ.length:=by
  by_cases hl:j < τ.length
  .exact hl
  .rw[jBf (by omega)]at h1;cases h1
 rw[jA2 hlt]at h1;simp only[j7];injection h1 with h1
 rw[<-h1,jAt];exact List.set_getElem_self hlt
theorem cP.mono{own:Int}{f:FuncId}{args:wF}(h:cP hs own f m args env t c)(hc:c<=c'):cP hs own f m args env t c':=by obtain⟨e,m',h1,h2,h3,h4,h5⟩:=h;exact⟨e,m',h1,h2.mono hc,h3,h4,h5⟩
theorem zSB{R:Nat}{len:Nat}(hk:eN hs R c depth Q len)(hc:0<=c)(envs:Nat->wJ)(t:Typ)(hr:TyOk hs r t)(hQ:Q r)
 (m:Mk)(hx:Cx hs R m)(he:∀j,EnvOk hs R m.temp (envs j))(h1:∀j,0<(envs j).length)(h2:∀j,(envs j).length<=len):∀(k:Nat),Lim m (k*(c+1)) ->
  ∃(es:wH) (ns:List ByteArray) (ms:Nat->Mk),es.length=k/\ns.length=k/\ms 0=m/\(∀j≤k,Adv m (ms j) (j*(c+1)))/\Seg m.temp (ms k).temp (jJ es) /\
   ∀(j:Nat) (hj:j<es.length) (hj':j<ns.length),∃mm:Mk,my bG [.ptr 0 0,.agg (zF t),.sl (envs j).length (z6 (envs j)),int depth] (mkS (ms j)) (.agg (zG es[j])) (mkS mm) /\
    my 90 [.ptr 0 0] (mkS mm) (.lit (.string ns[j])) (mkS (ms (j+1)))/\WT hs m.own (envs j) es[j] t/\es[j].num0:=by
 intro k;induction k with
 |zero =>
  intro hl;refine⟨[],[],fun _=>m,rfl,rfl,rfl,fun j hj=>?_,Seg.nil,fun j hj=>by simp at hj⟩;have:j=0:=by simpa using hj
  subst this;exact(Adv.zero m).mono (by simp)
 |succ k ih =>
  intro hl;have e1:(((k+1:Nat):Int))*(c+1)=k*(c+1)+(c+1):=by rw[jDd,Int.add_mul];simp
  rw[e1]at hl;obtain⟨es,ns,ms,q0,q1,q2,q3,q4,q5⟩:=ih (hl.mono (by omega));have a1:=q3 k (jA _);have hl1:=Lim.adv (c:=k*(c+1)) (c':=c+1) hl a1;obtain⟨e,mm,g1,g2,g3,g4,g5⟩:=hk (ms k) r t (envs k) (hx.adv a1) (hl1.mono (by omega)) hr hQ ((he k).mono a1.temp1) (h1 k) (h2 k);have hl2:=Lim.adv (c:=c) (c':=1) hl1 g2;obtain⟨s,hs⟩:=zEB mm hl2.name1 (by have:=hl2.name2;omega);have a2:=g2.trans (zB4 mm);refine⟨es++[e],ns++[s],fun j=>if j<=k then ms j else {mm with name:=mm.name+1},by simp[q0],by simp[q1],by simp[q2],fun j hj=>?_,?_,fun j hj hj'=>?_⟩
  .by_cases hle:j<=k
   .simp only[hle,if_true];exact q3 j hle
   .have:j=k+1:=by omega
    subst this;simp only[show ¬(k+1<=k) by omega,if_false];rw[e1];exact a1.trans a2
  .rw[oY];simp only[show ¬(k+1<=k) by omega,if_false];exact q4.append g4 a1.temp1 g2.temp1
  .simp only[jA4,jAn,q0]at hj;by_cases hlt:j<k
   .have hjes:j<es.length:=by omega
    have hjns:j<ns.length:=by omega
    rw[jCz hjes,jCz hjns];simp only[show j<=k by omega,if_true,show j+1<=k by omega];exact q5 j hjes hjns
   .have:j=k:=by omega
    subst this;rw[jCo (by omega),jCo (by omega)];simp only[jA,if_true,show ¬(j+1<=j) by omega,if_false,jBn,q0,q1,jD7];rw[a1.own]at g3;exact⟨mm,g1,hs,g3,g5⟩
theorem zSG{R:Nat}{len:Nat}(hc:0<=c)(hl:Lim m (c+1))(x:Int)(hx0:0<=x)(hx1:x<=65536)(k:Nat)(h:k<hs.length)(h1:∀(j:Nat)(hj:j<k),hs[j].id≠hs[k].id)
 (h2:hs[k].kind=1)(h3:0<hs[k].slots.length)(h3':hs[k].slots.length<=6)(h4:∀s∈hs[k].slots,TyOk hs r s.typ)(hQ:Q r)
 (hk:eN hs R c (depth-1) Q len)(hx:Cx hs R m)(he:EnvOk hs R m.temp env)(h5:0<env.length)(h6:env.length<=len)(hd1 : -1000<=depth)(hd2:depth<=1000) :
 cP hs m.own zJb m [.ptr 0 0,.agg (zF (cO hs[k].id)),.sl env.length (z6 env),int x,int depth] env (cO hs[k].id) (c+1):=by
 obtain⟨hm,hdv,hhd⟩:=zWZ hx h h1;generalize hD:m.defs[k]=D at hdv hhd;have eid:D.id=hs[k].id:=by rw[<-hhd];rfl
 have eslots:D.slots=hs[k].slots:=by rw[<-hhd];rfl
 have ekind:D.kind=1:=by rw[<-h2,<-hhd];rfl
 have hdl:=hx.dlen;have hd100:=hx.len;have wd:=qF (depth-1) (by omega);obtain⟨j,hj,hj1⟩:∃j:Nat,j<D.slots.length/\(j:Int)=if depth<0 then 0 else x.tmod D.slots.length:=by
  rw[eslots];by_cases hd:depth<0
  .exact⟨0,h3,by rw[if_pos hd];rfl⟩
  .refine⟨(x % hs[k].slots.length).toNat,?_,?_⟩
   .have:=jDf x (b:=(hs[k].slots.length:Int)) (by omega);have:=jD8 x (b:=(hs[k].slots.length:Int)) (by omega);omega
   .rw[if_neg hd,tmN hx0];have:=jD8 x (b:=(hs[k].slots.length:Int)) (by omega);omega
 have hjs:j<hs[k].slots.length:=by rw[<-eslots];exact hj
 have hty:D.slots[j].typ=hs[k].slots[j].typ:=by simp only[eslots]
 obtain⟨e,m',g1,g2,g3,g4,g5⟩:=hk m r D.slots[j].typ env hx (hl.mono (by omega)) (by rw[hty];exact h4 _ (jA0 hjs)) hQ he h5 h6;have hln:=Lim.adv (c:=c) (c':=1) hl g2;obtain⟨l1,l2,l3,l4,l5,l6,l7,l8⟩:=hln;refine⟨.mk ⟨0,0,m'.temp⟩ 9 j hs[k].id Typ.zero [e] [],{m' with temp:=m'.temp+1,left:=m'.left-1},?_,g2.trans (aD _),.case _ _ k h j hjs e h2 (hty▸g3),by simp only[tmps,jJ,jAt];exact g4.append (Seg.one _) g2.temp1 (by omega),i4 (by simpa using g5)⟩;refine zK func88 rfl zPg (rs:=[.cell 10 15 true]) (by kernel_rfl) ?_
 simp only[zLR]
 simp[mkS,mkB,zF];refine⟨_,_,b9 1,?_⟩;simp[mkS,mkB,zF,List.replicate];refine zNY (zLg m.mods m.defs hs[k].id (by omega)) [1] (by decide) (by simp[zHf]) (by simp[zHf]) (by simp[zS]) (fun τ hτ=>by
  have:=zGg hτ (j:=1) (o:=.row false 42 31 m.defs.length (zQ m.defs)) (by simp) (by simp)
  simpa[zHf]using this) ?_
 rw[hdv];have hnil:D.slots≠[]:=fun e=>by rw[e]at hj;simp at hj
 have hdS:List.drop (j*11+4) (qP D.slots)=(aF D.slots[j]++qP (D.slots.drop (j+1))).drop 4:=by rw[<-jAu,qW hj]
 have hbS:j*11+4+5<=D.slots.length*11:=by omega
 by_cases hd:depth<0
 .have hj0:j=0:=by rw[if_pos hd]at hj1;omega
  subst hj0;simp only[Nat.zero_mul,jB1]at hdS hbS;simp[mkS,mkB,zJ,ekind,hnil,hd,hj,hdS,hbS,aF,wd];intro _;refine mr g1 [0,1] (by simp[mkS,mkB,zF]) ?_;simp[mkS,mkB];refine mr (aO m' 9 0 [e] l3 (by omega) (by omega) l6) [0,1] (by simp[mkS,mkB,zL]) ?_;simp[mkS,mkB,zG];exact mv [0,1] 0 (by rfl) (by simp[zG,zL,eid])
 .rw[if_neg hd]at hj1;simp[mkS,mkB,zJ,ekind,hnil,hd,<-hj1,hj,hdS,hbS,aF,wd];intro _;refine mr g1 [0,1] (by simp[mkS,mkB,zF]) ?_;simp[mkS,mkB];refine mr (aO m' 9 j [e] l3 (by omega) (by omega) l6) [0,1] (by simp[mkS,mkB,zL]) ?_;simp[mkS,mkB,zG];exact mv [0,1] 0 (by rfl) (by simp[zG,zL,eid])
theorem zVk{R:Nat}{len:Nat}(hc:0<=c)(hl:Lim m (6*c+1))(x:Int)(k:Nat)(h:k<hs.length)(h1:∀(j:Nat)(hj:j<k),hs[j].id≠hs[k].id)
 (h2:hs[k].kind=0)(h3':hs[k].slots.length<=6)(h4:∀s∈hs[k].slots,TyOk hs r s.typ)(hQ:Q r)
 (hk:eN hs R c (depth-1) Q len)(hx:Cx hs R m)(he:EnvOk hs R m.temp env)(h5:0<env.length)(h6:env.length<=len)(hd1 : -1000<=depth)(hd2:depth<=1000) :
 cP hs m.own zJb m [.ptr 0 0,.agg (zF (cO hs[k].id)),.sl env.length (z6 env),int x,int depth] env (cO hs[k].id) (6*c+1):=by
 obtain⟨hm,hdv,hhd⟩:=zWZ hx h h1;generalize hD:m.defs[k]=D at hdv hhd;have eid:D.id=hs[k].id:=by rw[<-hhd];rfl
 have eslots:D.slots=hs[k].slots:=by rw[<-hhd];rfl
 have ekind:D.kind=0:=by rw[<-h2,<-hhd];rfl
 have hdl:=hx.dlen;have hd100:=hx.len;have wd:=qF (depth-1) (by omega);have hS6:D.slots.length<=6:=by rw[eslots];exact h3'
 have hsc:((D.slots.length:Int))*c<=6*c:=jDe (by omega) hc;obtain⟨es,ms,q1,q2,q3,q4,q5⟩:=zOp hk hc env h5 h6 (D.slots.map (·.typ)) m hx (hl.mono (by rw[jAb];omega)) (fun t ht=>by obtain⟨s,hs',rfl⟩:=jA9.1 ht;exact⟨r,h4 s (eslots▸hs'),hQ⟩) he
 rw[jAb]at q1 q3 q4;have ha:=(q3 D.slots.length (jA _)).mono hsc;obtain⟨l1,l2,l3,l4,l5,l6,l7,l8⟩:=Lim.adv (c:=6*c) (c':=1) hl ha;refine⟨.mk ⟨0,0,(ms es.length).temp⟩ 7 0 hs[k].id Typ.zero es [],{ms es.length with temp:=(ms es.length).temp+1,left:=(ms es.length).left-1},?_,q1▸ha.trans (aD _),.record _ _ k h es h2 (by rw[<-eslots,q1]) fun j hj=>?_,
  by simp only[tmps];rw[q1];exact q4.append (Seg.one _) ha.temp1 (by omega),i4 (zCk rfl fun j hj=>(q5 j hj (by rw[jAb];omega)).2.2)⟩
 .rw[<-eid]at hdv ⊢;refine zK func88 rfl zPg (rs:=[.cell 10 15 true]) (by kernel_rfl) ?_
  simp only[zLR]
  simp[mkS,mkB,zF];refine⟨_,_,b9 1,?_⟩;simp[mkS,mkB,zF,List.replicate];refine zNY (zLg m.mods m.defs D.id (by omega)) [1] (by decide) (by simp[zHf]) (by simp[zHf]) (by simp[zS]) (fun τ hτ=>by
   have:=zGg hτ (j:=1) (o:=.row false 42 31 m.defs.length (zQ m.defs)) (by simp) (by simp)
   simpa[zHf]using this) ?_
  rw[hdv];simp[mkS,mkB,zJ,ekind];refine qI (S:=Nat) (fun i=>[(0,.ptr 0 0),(2,.sl env.length (z6 env)),(4,int depth),(6,.ptr 2 0),(10,.ptr 3 0),(15,.ptr 4 0),(20,.row 5 i),(21,int i)])
   (fun i=>mkS (ms i)++[.box (zF (cO D.id)),.box (zG Exp.zero),.box (zJ D),.row false 40 15 i (qM (es.take i))]) (fun i=>i<=es.length) (fun i=>es.length-i) 0 (by simp)
   ((jS (t:=20) (by simp) 40 15).trans (mw [0,1,2,3,4,5] 0 (by rfl) (by simp[mkS,mkB,zF,cO,q2,zG,Exp.zero,Id.zero,Typ.zero,zJ,ekind]))) ?_
  intro i hi;have hms:=q3 i (by omega);by_cases hi2:i<es.length
  .have hid:i<D.slots.length:=by omega
   obtain⟨g1,_,_⟩:=q5 i hi2 (by rw[jAb];omega);rw[jB]at g1;have hst:qM (es.take (i+1))=qM (es.take i)++zG es[i]:=bD hi2;have hw:=yK i (by omega);have hdS:List.drop (i*11+4) (qP D.slots)=(aF D.slots[i]++qP (D.slots.drop (i+1))).drop 4:=by rw[<-jAu,qW hid]
   have hbS:i*11+4+5<=D.slots.length*11:=by omega
   simp[mkS,mkB,zJ,hid,hdS,hbS,aF,wd];intro _;refine mr g1 [0,1] (by simp[mkS,mkB,zF]) ?_;simp[mkS,mkB];refine⟨⟨by simp[maxLen];omega,by omega⟩,?_⟩;exact zO (i+1) hi2 (by omega) (mw [0,1,2,3,4,5] 0 (by rfl) (by simp[mkS,mkB,zF,cO,zG,Exp.zero,Id.zero,Typ.zero,hst,zJ,hw]))
  .have hie:i=es.length:=by omega
   subst hie;have hid:¬es.length<D.slots.length:=by omega
   rw[<-q1]at l3 l4 l5 l6;simp[mkS,mkB,zJ,hid];intro _;refine⟨jO [(0,.ptr 0 0),(10,.ptr 3 0),(15,.ptr 4 0),(20,.sl es.length (qM es))],mkS (ms es.length)++[.box (zF (cO D.id)),.box (zG Exp.zero),.box (zJ D)],mw [0,1,2,3,4] 1 (by rfl) (by simp[mkS,mkB,zF,cO,zG,Exp.zero,Id.zero,Typ.zero,zJ]),?_⟩;simp[mkS,mkB];refine mr (aO (ms es.length) 7 0 es l3 (by omega) (by omega) l6) [0,1] (by simp[mkS,mkB]) ?_;simp[mkS,mkB,zG,zJ];exact mv [0,1] 0 (by rfl) (by simp[zG])
 .have:=(q5 j hj (by rw[jAb];omega)).2.1;rw[jB]at this
  simpa only[eslots]using this
theorem zSI{R:Nat}{len:Nat}(hc:0<=c)(hl:Lim m (6*c+1))(x:Int)(hx0:0<=x)(hx1:x<=65536)(t:Typ)(hr:TyOk hs r t)(hQ:∀r'<r,Q r')
 (hk:eN hs R c (depth-1) Q len)(hx:Cx hs R m)(he:EnvOk hs R m.temp env)(h5:0<env.length)(h6:env.length<=len)(hd1 : -1000<=depth)(hd2:depth<=1000) :
 cP hs m.own zJb m [.ptr 0 0,.agg (zF t),.sl env.length (z6 env),int x,int depth] env t (6*c+1):=by
 cases hr with
 |int r=>exact(zVj (R:=R) (hl.mono (by omega)) x depth hx0 hx1).mono (by omega)
 |bool r=>exact(zSF (hl.mono (by omega)) x depth hx0).mono (by omega)
 |list r t h=>exact(zSH hc (hl.mono (by omega)) x hx0 t h (hQ r (by omega)) hk hx he h5 h6 hd1 hd2).mono (by omega)
 |dfn r k h h1 h2 h3 h4 =>
  rcases h2 with h2|⟨h2,h2'⟩
  .exact zVk hc hl x k h h1 h2 h3 h4 (hQ r (by omega)) hk hx he h5 h6 hd1 hd2
  .exact(zSG hc (hl.mono (by omega)) x hx0 hx1 k h h1 h2 h2' h3 h4 (hQ r (by omega)) hk hx he h5 h6 hd1 hd2).mono (by omega)
end Go.Proofs.YtolkhapmieigcaaGreatDoor

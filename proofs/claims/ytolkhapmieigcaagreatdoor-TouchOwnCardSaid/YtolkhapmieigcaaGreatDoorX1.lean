/- What the program's tables hold from the start: the functions of eval.numbers. -/
import Derived.Test.YtolkhapmieigcaaGreatDoorProg
import Derived.Deep.Quiet
import Derived.Laws.AppendOwn
import Derived.Laws.OwnMore
import Derived.Laws.Sem
import Derived.Laws.World
import Derived.Laws.Cells
import Derived.Laws.Entries
import Derived.Laws.BytesArg
import Derived.Laws.MakeOwn
import Derived.Test.YtolkhapmieigcaaGreatDoorRows
import Derived.ProofKit
import Derived.LaidMore
import Derived.LaidOnce
import Derived.LaidHandle
import Derived.FnData
import Derived.OpenShut
set_option linter.unusedVariables false
set_option maxHeartbeats 8000000
set_option maxRecDepth 100000
set_option linter.unusedSimpArgs false
set_option linter.defProp false
namespace Go
abbrev wM:=List Value
end Go
namespace Go
abbrev wE:=List (Nat×Nat)
end Go
namespace Go
abbrev wD:=Option Nat
end Go
namespace Go
abbrev wC:=List Int
end Go
namespace Go
abbrev wA:=List Nat
end Go
namespace Go
def jA:=@Nat.le_refl
def jA0:=@List.getElem_mem
def jA1:=@List.mem_cons
def jA2:=@List.getElem?_eq_getElem
def jA3:=@Option.some.injEq
def jA4:=@List.length_append
def jA5:=@List.getElem?_eq_some_iff
def jA6:=@List.mem_append
def jA7:=@List.take_succ_eq_append_getElem
def jA8:=@Bool.and_eq_true
def jA9:=@List.mem_map
def jAa:=@Option.bind_eq_some_iff
def jAb:=@List.length_map
def jAc:=@List.length_cons
def jAd:=@List.map_cons
def jAe:=@List.getElem_of_mem
def jAf:=@Option.map_eq_some_iff
def jAg:=@Bool.false_eq_true
def jAh:=@List.getElem?_set_ne
def jAi:=@List.mem_singleton
def jAj:=@Option.bind_eq_bind
def jAk:=@List.mem_cons_of_mem
def jAl:=@List.take_of_length_le
def jAm:=@List.mem_cons_self
def jAn:=@List.length_singleton
def jAo:=@List.getElem?_set_self
def jAp:=@List.getElem?_append_left
def jAq:=@List.append_assoc
def jAr:=@List.not_mem_nil
def jAs:=@List.take_length
def jAt:=@List.append_nil
def jAu:=@List.drop_drop
def jAv:=@List.length_take
def jAw:=@List.foldl_cons
def jAx:=@Nat.min_eq_left
def jAy:=@Option.some.inj
def jAz:=@Nat.le_trans
def jB:=@List.getElem_map
def jB0:=@Nat.zero_le
def jB1:=@Nat.zero_add
def jB2:=@Nat.lt_or_ge
def jB3:=@List.all_eq_true
def jB4:=@List.length_nil
def jB5:=@Array.length_toList
def jB6:=@List.drop_eq_getElem_cons
def jB7:=@Nat.add_mul
def jB8:=@List.getElem?_cons_zero
def jB9:=@List.getElem?_append_right
def jBa:=@List.map_append
def jBb:=@Nat.add_assoc
def jBc:=@Bool.or_eq_true
def jBd:=@List.cons.injEq
def jBe:=@List.cons_append
def jBf:=@List.getElem?_eq_none
def jBg:=@List.getElem?_take
def jBh:=@Prod.mk.injEq
def jBi:=@List.getElem?_map
def jBj:=@List.getElem?_cons_succ
def jBk:=@List.nil_append
def jBl:=@Nat.mul_le_mul_right
def jBm:=@List.map_nil
def jBn:=@Nat.sub_self
def jBo:=@List.flatMap_cons
def jBp:=@List.length_filter_le
def jBq:=@Nat.succ_mul
def jBr:=@List.mem_append_left
def jBs:=@List.mem_of_getElem?
def jBt:=@Option.getD_some
def jBu:=@List.mem_of_mem_take
def jBv:=@List.foldl_append
def jBw:=@List.take_append_drop
def jBx:=@List.eq_nil_of_length_eq_zero
def jBy:=@List.map_map
def jBz:=@Option.map_some
def jC:=@List.pairwise_map
def jC0:=@List.pairwise_iff_getElem
def jC1:=@List.mem_of_mem_drop
def jC2:=@List.pairwise_cons
def jC3:=@Bool.not_eq_true'
def jC4:=@List.find?_cons
def jC5:=@List.getD_eq_getElem?_getD
def jC6:=@List.mem_range
def jC7:=@List.size_toArray
def jC8:=@List.exists_cons_of_length_pos
def jC9:=@Array.ext'
def jCa:=@List.map_congr_left
def jCb:=@Nat.lt_of_lt_of_le
def jCc:=@Bool.not_eq_true
def jCd:=@List.flatMap_append
def jCe:=@List.take_append_of_le_length
def jCf:=@Nat.le_succ
def jCg:=@Int.le_refl
def jCh:=@Option.isNone_iff_eq_none
def jCi:=@List.ext_getElem?
def jCj:=@Nat.add_zero
def jCk:=@List.length_drop
def jCl:=@Nat.add_comm
def jCm:=@List.flatten_append
def jCn:=@List.singleton_append
def jCo:=@List.getElem_append_right
def jCp:=@Bool.true_and
def jCq:=@Int.toNat_natCast
def jCr:=@List.take_succ_cons
def jCs:=@Bool.false_or
def jCt:=@List.getElem?_drop
def jCu:=@List.pairwise_append
def jCv:=@List.getElem?_of_mem
def jCw:=@List.filter_append
def jCx:=@Bool.and_eq_false_iff
def jCy:=@List.mem_of_find?_eq_some
def jCz:=@List.getElem_append_left
def jD:=@List.length_set
def jD0:=@Array.getElem?_toList
def jD1:=@List.drop_eq_nil_of_le
def jD2:=@Option.map_none
def jD3:=@List.find?_eq_none
def jD4:=@List.nodup_append
def jD5:=@List.headD_cons
def jD6:=@List.find?_some
def jD7:=@List.getElem_cons_zero
def jD8:=@Int.emod_nonneg
def jD9:=@List.nodup_cons
def jDa:=@List.drop_left'
def jDb:=@List.map_singleton
def jDc:=@Array.getElem?_eq_some_iff
def jDd:=@Int.natCast_add
def jDe:=@Int.mul_le_mul_of_nonneg_right
def jDf:=@Int.emod_lt_of_pos
def jDg:=@List.mem_filterMap
def jDh:=@List.mem_replicate
def jDi:=@List.mapM_cons
def jDj:=@Array.toArray_toList
def jDk:=@List.length_filterMap_le
def jDl:=@List.Perm.append_left
def jDm:=@List.perm_append_comm
def jDn:=@List.getElem_set_self
def jDo:=@Int.tmod_nonneg
def jDp:=@List.getElem?_set
def jDq:=@Array.toList_setIfInBounds
def jDr:=@Option.pure_def
def jDs:=@List.mem_flatten
def jDt:=@Array.getElem?_append_left
def jDu:=@List.nodup_iff_pairwise_ne
def jDv:=@List.getElem_cons_succ
def jDw:=@Array.getD_eq_getD_getElem?
end Go
namespace Go.Abs
def zOq:List (Nat×wM):=[(0,[.func (.func 255) #[] #[],.func (.func 256) #[] #[],.func (.func 257) #[] #[],.func (.func 258) #[] #[],.func (.func 259) #[] #[]])]
end Go.Abs
namespace Go.Abs
inductive A where
 |any
 |nil
 |lit (v:Value)
 |agg (cs:List A)
 |tup (cs:List A)
 |sl (n:Nat) (cs:List A)
 |fsl (n:Nat) (cs:List A)
 |ptr (l off:Nat)
 |rptr (cs:List A)
 |row (l n:Nat)
 |rwp (l n off:Nat)
 |map (l:Nat)
 |win (l n o k c:Nat)
 |clo (f:FuncId) (first cap:List A)
 deriving Inhabited
abbrev wF:=List A
def zOr(b o:Nat):Option Value:=match zOq.lookup b with
 |some vs=>vs[o]?
 |none=>none
abbrev Mem:={f:Nat->Nat->Option Value // ∀b o v,zOr b o=some v->f b o=some v}
instance:CoeFun Mem fun _=>Nat->Nat->Option Value:=⟨fun H=>H.1⟩
def zJl:Value->A
 | .func (.func f) ⟨[]⟩ ⟨[]⟩=>.clo f [] []
 |v=>.lit v
structure LI where
 block:Option Nat
 cap:Nat
 len:Nat
 isRow:Bool
abbrev wO:=List LI
def At(H:Mem)(b o:Nat)(us:wM):Prop:=∀i u,us[i]?=some u->H b (o+i)=some u
def one(v:Value):Prop:=v.oneCell'=true
mutual
def Rel(H:Mem)(L:wO):A->Value->Prop
 | .any,_=>True
 | .nil,v=>v=.slice none 0 0
 | .lit u,v=>v=u
 | .agg cs,v=>∃vs:wM,v=.agg vs.toArray/\qE H L cs vs/\∀u∈vs,one u
 | .tup cs,v=>∃vs:wM,v=.tuple vs.toArray/\qE H L cs vs
 | .sl n cs,v=>∃a cap,v=.slice a n cap/\n<=cap/\cap<=maxLen/\((n=0/\cs=[]) \/
  ∃b o,∃us:wM,a=some ⟨b,o,none⟩/\qE H L cs us/\(∀u∈us,one u)/\At H b o us)
 | .fsl n cs,v=>∃a,v=.slice a n n/\n<=maxLen/\((n=0/\cs=[]) \/
  ∃b o,∃us:wM,a=some ⟨b,o,none⟩/\qE H L cs us/\(∀u∈us,one u)/\At H b o us)
 | .ptr l off,v=>∃li b,L[l]?=some li/\li.block=some b/\li.isRow=false/\v=.pointer (some ⟨b,off,none⟩)
 | .rptr cs,v=>∃b o,∃us:wM,v=.pointer (some ⟨b,o,none⟩)/\qE H L cs us/\(∀u∈us,one u)/\At H b o us
 | .row l n,v=>one v/\∃li,L[l]?=some li/\li.isRow=true/\n<=li.len /\
  (n=li.len->v=match li.block with|none=>.slice none 0 0|some b=>.slice (some ⟨b,0,none⟩) n li.cap)
 | .rwp l n off,v=>one v/\∃li,L[l]?=some li/\li.isRow=true/\n<=li.len/\(n=li.len->∃b,li.block=some b/\v=.pointer (some ⟨b,off,none⟩))
 | .map l,v=>∃li b,L[l]?=some li/\li.block=some b/\li.isRow=false/\v=.map (some b)
 | .win l n o k c,v=>one v/\∃li,L[l]?=some li/\li.isRow=true/\n<=li.len /\
  (n=li.len->k<=n/\∃ad cap,v=.slice ad k cap/\k<=cap/\cap<=maxLen/\(cap=0\/∃b,li.block=some b/\ad=some ⟨b,o,none⟩/\o+cap*c<=li.cap*c))
 | .clo f first cap,v=>∃fs cs:wM,v=.func (.func f) fs.toArray cs.toArray/\qE H L first fs/\qE H L cap cs
def qE(H:Mem)(L:wO):List A->List Value->Prop
 |[],vs=>vs=[]
 |c::cs,vs=>∃u us,vs=u::us/\Rel H L c u/\qE H L cs us
end
theorem zOS{k cap o c:Nat}{li:LI}{ad:Option Addr}(h:k<=cap)(g:cap=0\/∃b,li.block=some b/\ad=some ⟨b,o,none⟩/\o+cap*c<=li.cap*c):k=0\/∃b,li.block=some b/\ad=some ⟨b,o,none⟩ :=
 g.imp (fun h0=>by omega) fun⟨b,g1,g2,_⟩=>⟨b,g1,g2⟩
def HLe(H H':Mem):Prop:=∀b o v,H b o=some v->H' b o=some v
def LLe(L L':wO):Prop:=∀(i:Nat) (l:LI),L[i]?=some l->∃l':LI,L'[i]?=some l'/\(l'=l\/(l.isRow=true/\l'.isRow=true/\l.len<l'.len)\/(l.block=none/\l.isRow=false/\l'.isRow=false))
theorem HLe.refl(H:Mem):HLe H H:=fun _ _ _ h=>h
variable{H H':Mem}
theorem HLe.trans{H'':Mem}(h:HLe H H')(k:HLe H' H''):HLe H H'':=fun b o v e=>k b o v (h b o v e)
theorem LLe.refl(L:wO):LLe L L:=fun _ l h=>⟨l,h,.inl rfl⟩
variable{L L':wO}
theorem LLe.trans{L'':wO}(h:LLe L L')(k:LLe L' L''):LLe L L'':=by
 intro i l e;obtain⟨l',e',hl⟩:=h i l e;obtain⟨l'',e'',hl'⟩:=k i l' e';refine⟨l'',e'',?_⟩;rcases hl with rfl|⟨a,b,c⟩|⟨a,b,c⟩
 .exact hl'
 .rcases hl' with rfl|⟨a',b',c'⟩|⟨a',b',c'⟩
  .exact .inr (.inl ⟨a,b,c⟩)
  .exact .inr (.inl ⟨a,b',by omega⟩)
  .rw[b]at b';cases b'
 .rcases hl' with rfl|⟨a',b',c'⟩|⟨a',b',c'⟩
  .exact .inr (.inr ⟨a,b,c⟩)
  .rw[c]at a';cases a'
  .exact .inr (.inr ⟨a,b,c'⟩)
theorem LLe.append(L M:wO):LLe L (L++M):=fun i l h=>⟨l,by rw[jAp (jA5.1 h).1];exact h,.inl rfl⟩
theorem At.mono{b o us}(h:At H b o us)(hh:HLe H H'):At H' b o us:=fun i u e=>hh _ _ _ (h i u e)
mutual
theorem Rel.mono{H H':Mem}{L L':wO}(hh:HLe H H')(hl:LLe L L'):∀(a:A) {v:Value},Rel H L a v->Rel H' L' a v
 | .any,_,_=>by simp[Rel]
 | .nil,_,h=>by simpa[Rel]using h
 | .lit _,_,h=>by simpa[Rel]using h
 | .agg cs,v,h=>by simp only[Rel]at h⊢;obtain⟨vs,rfl,h1,h2⟩:=h;exact⟨vs,rfl,qE.mono hh hl cs h1,h2⟩
 | .tup cs,v,h=>by simp only[Rel]at h⊢;obtain⟨vs,rfl,h1⟩:=h;exact⟨vs,rfl,qE.mono hh hl cs h1⟩
 | .sl n cs,v,h=>by
  simp only[Rel]at h⊢;obtain⟨a,cap,rfl,h1,h2,h3⟩:=h;refine⟨a,cap,rfl,h1,h2,?_⟩;rcases h3 with h3|⟨b,o,us,rfl,h4,h5,h6⟩
  .exact .inl h3
  .exact .inr ⟨b,o,us,rfl,qE.mono hh hl cs h4,h5,h6.mono hh⟩
 | .fsl n cs,v,h=>by
  simp only[Rel]at h⊢;obtain⟨a,rfl,h1,h3⟩:=h;refine⟨a,rfl,h1,?_⟩;rcases h3 with h3|⟨b,o,us,rfl,h4,h5,h6⟩
  .exact .inl h3
  .exact .inr ⟨b,o,us,rfl,qE.mono hh hl cs h4,h5,h6.mono hh⟩
 | .ptr l off,v,h=>by
  simp only[Rel]at h⊢;obtain⟨li,b,e,h1,h2,h3⟩:=h;obtain⟨l',e',hl'⟩:=hl _ _ e;rcases hl' with rfl|⟨a,_⟩|⟨a,_⟩
  .exact⟨_,b,e',h1,h2,h3⟩
  .rw[h2]at a;cases a
  .rw[h1]at a;cases a
 | .rptr cs,v,h=>by simp only[Rel]at h⊢;obtain⟨b,o,us,rfl,h4,h5,h6⟩:=h;exact⟨b,o,us,rfl,qE.mono hh hl cs h4,h5,h6.mono hh⟩
 | .row l n,v,h=>by
  simp only[Rel]at h⊢;obtain⟨h0,li,e,h1,h2,h3⟩:=h;obtain⟨l',e',hl'⟩:=hl _ _ e;rcases hl' with rfl|⟨a,b,c⟩|⟨_,a,_⟩
  .exact⟨h0,_,e',h1,h2,h3⟩
  .exact⟨h0,l',e',b,by omega,fun he=>by omega⟩
  .rw[h1]at a;cases a
 | .rwp l n off,v,h=>by
  simp only[Rel]at h⊢;obtain⟨h0,li,e,h1,h2,h3⟩:=h;obtain⟨l',e',hl'⟩:=hl _ _ e;rcases hl' with rfl|⟨a,b,c⟩|⟨_,a,_⟩
  .exact⟨h0,_,e',h1,h2,h3⟩
  .exact⟨h0,l',e',b,by omega,fun he=>by omega⟩
  .rw[h1]at a;cases a
 | .win l n o k c,v,h=>by
  simp only[Rel]at h⊢;obtain⟨h0,li,e,h1,h2,h3⟩:=h;obtain⟨l',e',hl'⟩:=hl _ _ e;rcases hl' with rfl|⟨a,b,c⟩|⟨_,a,_⟩
  .exact⟨h0,_,e',h1,h2,h3⟩
  .exact⟨h0,l',e',b,by omega,fun he=>by omega⟩
  .rw[h1]at a;cases a
 | .map l,v,h=>by
  simp only[Rel]at h⊢;obtain⟨li,b,e,h1,h2,h3⟩:=h;obtain⟨l',e',hl'⟩:=hl _ _ e;rcases hl' with rfl|⟨a,_⟩|⟨a,_⟩
  .exact⟨_,b,e',h1,h2,h3⟩
  .rw[h2]at a;cases a
  .rw[h1]at a;cases a
 | .clo f first cap,v,h=>by simp only[Rel]at h⊢;obtain⟨fs,cs,rfl,h1,h2⟩:=h;exact⟨fs,cs,rfl,qE.mono hh hl first h1,qE.mono hh hl cap h2⟩
theorem qE.mono{H H':Mem}{L L':wO}(hh:HLe H H')(hl:LLe L L'):∀(cs:wF) {vs:wM},qE H L cs vs->qE H' L' cs vs
 |[],vs,h=>by simpa[qE]using h
 |c::cs,vs,h=>by simp only[qE]at h⊢;obtain⟨u,us,rfl,h1,h2⟩:=h;exact⟨u,us,rfl,Rel.mono hh hl c h1,qE.mono hh hl cs h2⟩
end
section
variable{H:Mem}{L:wO}
theorem jR:qE H L [] []:=by simp[qE]
variable{vs:wM}
theorem qN{c:A}{cs:wF}{v:Value}(h:Rel H L c v)(hs:qE H L cs vs):qE H L (c::cs) (v::vs):=by simp only[qE];exact⟨v,vs,rfl,h,hs⟩
theorem z8{c:A}{cs:wF}(h:qE H L (c::cs) vs):∃u us,vs=u::us/\Rel H L c u/\qE H L cs us:=by
 simpa only[qE]using h
theorem jL(h:qE H L [] vs):vs=[]:=by simpa only[qE]using h
theorem qE.length:∀{cs:wF} {vs:wM},qE H L cs vs->vs.length=cs.length
 |[],vs,h=>by simp[jL h]
 |c::cs,vs,h=>by obtain⟨u,us,rfl,_,h2⟩:=z8 h;simp[qE.length h2]
theorem qE.get:∀{cs:wF} {vs:wM},qE H L cs vs->∀{i:Nat} {c:A},cs[i]?=some c->∃v,vs[i]?=some v/\Rel H L c v
 |[],_,_,i,c,hc=>by simp at hc
 |c::cs,vs,h,i,d,hd=>by
  obtain⟨u,us,rfl,h1,h2⟩:=z8 h;cases i with
  |zero=>simp only[jB8,jA3]at hd;subst hd;exact⟨u,by simp,h1⟩
  |succ i=>simp only[jBj]at hd ⊢;exact qE.get h2 hd
theorem qE.append:∀{cs:wF} {vs:wM} {ds:wF} {us:wM},qE H L cs vs->qE H L ds us->qE H L (cs++ds) (vs++us)
 |[],vs,ds,us,h,h'=>by rw[jL h];exact h'
 |c::cs,vs,ds,us,h,h'=>by obtain⟨u,ws,rfl,h1,h2⟩:=z8 h;exact qN h1 (qE.append h2 h')
theorem qE.take:∀{cs:wF} {vs:wM} (n:Nat),qE H L cs vs->qE H L (cs.take n) (vs.take n)
 |_,_,0,_=>by simp[qE]
 |[],vs,n+1,h=>by rw[jL h];simp[qE]
 |c::cs,vs,n+1,h=>by obtain⟨u,ws,rfl,h1,h2⟩:=z8 h;exact qN h1 (qE.take n h2)
theorem qE.drop:∀{cs:wF} {vs:wM} (n:Nat),qE H L cs vs->qE H L (cs.drop n) (vs.drop n)
 |_,_,0,h=>by simpa using h
 |[],vs,n+1,h=>by rw[jL h];simp[qE]
 |c::cs,vs,n+1,h=>by
  obtain⟨u,ws,rfl,h1,h2⟩:=z8 h
  simpa using qE.drop n h2
theorem qE.set:∀{cs:wF} {vs:wM},qE H L cs vs->∀(i:Nat) {c:A} {v:Value},Rel H L c v->qE H L (cs.set i c) (vs.set i v)
 |[],vs,h,i,c,v,hc=>by rw[jL h];simp[qE]
 |c::cs,vs,h,i,d,v,hd=>by
  obtain⟨u,ws,rfl,h1,h2⟩:=z8 h;cases i with
  |zero=>exact qN hd h2
  |succ i=>exact qN h1 (qE.set h2 i hd)
theorem qE.split:∀{cs ds:wF} {vs:wM},qE H L (cs++ds) vs->∃us ws,vs=us++ws/\qE H L cs us/\qE H L ds ws
 |[],ds,vs,h=>⟨[],vs,rfl,jR,h⟩
 |c::cs,ds,vs,h=>by obtain⟨u,us,rfl,h1,h2⟩:=z8 h;obtain⟨us',ws,rfl,h3,h4⟩:=qE.split h2;exact⟨u::us',ws,rfl,qN h1 h3,h4⟩
end
theorem At.take{b o us}(n:Nat)(h:At H b o us):At H b o (us.take n):=fun i u e=>by
 rw[jBg]at e;split at e
 .exact h i u e
 .cases e
theorem At.drop{b o us}(n:Nat)(h:At H b o us):At H b (o+n) (us.drop n):=fun i u e=>by
 rw[jCt]at e;have:=h _ _ e
 rwa[<-jBb]at this
inductive AObj where
 |dead
 |box (cs:List A)
 |row (fz:Bool) (e:TypeId) (sz n:Nat) (cs:List A)
 |lp (b:Nat) (r:Loop) (N:Nat) (es:List (Nat×A))
 |mp (fresh:Bool) (nk:Nat) (es:List (List Int×A))
 |rsv
 |it (m n:Nat) (met:List Nat)
 deriving Inhabited
def iW(n:Int):Value:=.int .i64 n
def iN:List Int->Value
 |[n]=>iW n
 |ks=>.agg (ks.map iW).toArray
theorem zBZ{ks:wC}(h:ks.length≠1):iN ks=.agg (ks.map iW).toArray:=by
 match ks,h with
 |[],_=>rfl
 |_::_::_,_=>rfl
def aV(H:Mem)(L:wO):List (wC×A)->List MapEntry->Prop
 |[],l=>l=[]
 |p::es,l=>∃e l',l=e::l'/\e.key=iN p.1/\Rel H L p.2 e.val/\aV H L es l'
theorem aV.mono{H H':Mem}{L L':wO}(hh:HLe H H')(hl:LLe L L'):∀{es:List (wC×A)} {l:List MapEntry},aV H L es l->aV H' L' es l
 |[],_,h=>h
 |_::_,_,⟨e,l',h1,h2,h3,h4⟩=>⟨e,l',h1,h2,Rel.mono hh hl _ h3,aV.mono hh hl h4⟩
theorem aV.map{H H':Mem}{L L':wO}(f:A->A):∀{es:List (wC×A)} {l:List MapEntry},(∀p∈es,∀v,Rel H L p.2 v->Rel H' L' (f p.2) v)->aV H L es l->aV H' L' (es.map fun p=>(p.1,f p.2)) l
 |[],_,_,h=>h
 |_::_,_,hf,⟨e,l',h1,h2,h3,h4⟩=>⟨e,l',h1,h2,hf _ (jAm ..) _ h3,aV.map f (fun p hp=>hf p (jAk _ hp)) h4⟩
theorem aV.length{H:Mem}{L:wO}:∀{es:List (wC×A)} {l:List MapEntry},aV H L es l->l.length=es.length
 |[],_,h=>by rw[show _=[] from h];rfl
 |_::_,_,⟨_,l',h1,_,_,h4⟩=>by rw[h1,jAc,jAc,aV.length h4]
theorem aV.get{H:Mem}{L:wO}:∀{es:List (wC×A)} {l:List MapEntry},aV H L es l->∀{i:Nat} {p:wC×A},es[i]?=some p->∃e,l[i]?=some e/\e.key=iN p.1/\Rel H L p.2 e.val
 |[],_,_,i,p,hp=>by simp at hp
 |_::_,_,⟨e,l',h1,h2,h3,h4⟩,0,p,hp=>by simp at hp;subst hp;exact⟨e,by rw[h1];rfl,h2,h3⟩
 |_::_,_,⟨e,l',h1,h2,h3,h4⟩,i+1,p,hp=>by obtain⟨e',g1,g2⟩:=aV.get h4 (i:=i) (p:=p) (by simpa using hp);exact⟨e',by rw[h1];simpa using g1,g2⟩
theorem zFE{nk:Nat}{f:A->A}{es:List (wC×A)}(h:∀p∈es,p.1.length=nk):∀p∈es.map fun p=>(p.1,f p.2),p.1.length=nk:=fun p hp=>by obtain⟨q,hq,rfl⟩:=jA9.1 hp;exact h q hq
def qCF(fresh:Bool)(ents:List MapEntry)(ck:Nat):Prop:=fresh=true->ck=ents.length/\∀(i:Nat) (e:MapEntry),ents[i]?=some e->e.born=i
def uW(H:Mem)(L:wO)(es:List (Nat×A))(tmps:Array Value):Prop:=∀p∈es,Rel H L p.2 (tmps.getD p.1 undef)
variable{es:List (Nat×A)}
theorem uW.mono{tmps:Array Value}(h:uW H L es tmps)(hh:HLe H H')(hl:LLe L L'):uW H' L' es tmps:=fun p hp=>Rel.mono hh hl _ (h p hp)
theorem uW.map{tmps:Array Value}(h:uW H L es tmps)(f:A->A)(hf:∀a v,Rel H L a v->Rel H' L' (f a) v):uW H' L' (es.map fun p=>(p.1,f p.2)) tmps:=by intro p hp;obtain⟨q,hq,rfl⟩:=jA9.1 hp;exact hf _ _ (h q hq)
abbrev St:=List AObj
def qB(H:Mem)(L:wO)(w:World)(l:LI):AObj->Prop
 | .dead=>True
 | .box cs=>l.isRow=false/\∃b,∃vs:wM,∃e,l.block=some b/\w.heap[b]?=some (.cells vs.toArray e (0,0))/\qE H L cs vs/\(∀u∈vs,one u)/\∀o,H b o=none
 | .row fz e sz n cs=>l.isRow=true/\l.len=n/\cs.length=n*sz/\((l.block=none/\n=0) \/
  ∃b cur,l.block=some b/\w.heap[b]?=some (.cells cur e (0,0))/\n<=l.cap/\l.cap<=maxLen/\cur.size=l.cap*sz/\qE H L cs (cur.toList.take (n*sz))/\(∀u∈cur.toList.take (n*sz),one u) /\
   match fz with
   |false=>∀o,H b o=none
   |true=>At H b 0 (cur.toList.take (n*sz))/\∀o,n*sz<=o->H b o=none)
 | .lp b r N es=>l.isRow=false/\l.block=some b/\∃tmps:Array Value,w.heap[b]?=some (.loop {r with tmps:=tmps})/\N<=tmps.size/\uW H L es tmps
 | .rsv=>l.block=none/\l.isRow=false
 | .mp fresh nk es=>l.isRow=false/\∃b,∃ents:Array MapEntry,∃ck,l.block=some b/\w.heap[b]?=some (.map ents ck)/\aV H L es ents.toList/\qCF fresh ents.toList ck/\∀p∈es,p.1.length=nk
 | .it m n met=>l.isRow=false/\∃b mb lm,l.block=some b/\L[m]?=some lm/\lm.block=some mb/\lm.isRow=false/\w.heap[b]?=some (.mapIter (some mb) n met.toArray n)
structure RelSt(H:Mem)(L:List LI) (U:St)(w:World):Prop where
 pers:∀b o v,H b o=some v->w.cell? ⟨b,o,none⟩=some v
 len:L.length = U.length
 obj:∀(i:Nat) l o,L[i]?=some l->U[i]?=some o->qB H L w l o
 inj:∀(i j:Nat) l l' b,L[i]?=some l->L[j]?=some l'->l.block=some b->l'.block=some b->i=j
 lt:∀(i:Nat) l b,L[i]?=some l->l.block=some b->b<w.heap.size
structure Step(O:Nat->Prop)(w0:World)(H0:Mem)(w:World)(H:Mem):Prop where
 os:w.os=w0.os
 tape:w.tape=w0.tape
 output:w.output=w0.output
 size:w0.heap.size<=w.heap.size
 keep:∀k,k<w0.heap.size->¬O k->w.heap[k]?=w0.heap[k]?
 hle:HLe H0 H
 hnew:∀b o v,H b o=some v->H0 b o=some v\/O b\/w0.heap.size<=b
 drawn:w0.drawn<=w.drawn
 dfr:∀(k:Nat) d,w0.heap[k]?=some (.deferred d)->w.heap[k]?=some (.deferred d)
theorem Step.refl(O:Nat->Prop)(w:World)(H:Mem):Step O w H w H :=
 ⟨rfl,rfl,rfl,jA _,fun _ _ _=>rfl,HLe.refl H,fun _ _ _ h=>.inl h,jA _,fun _ _ h=>h⟩
def zTe(L:wO)(b:Nat):Prop:=∃(i:Nat) (l:LI),L[i]?=some l/\l.block=some b
theorem Step.trans{O O':Nat->Prop}{w0 w1 w2:World}{H0 H1 H2:Mem}(h:Step O w0 H0 w1 H1)(k:Step O' w1 H1 w2 H2)
 (ho:∀b,O' b->O b\/w0.heap.size<=b):Step O w0 H0 w2 H2:=by
 refine⟨k.os.trans h.os,k.tape.trans h.tape,k.output.trans h.output,jAz h.size k.size,fun i hi hn=>?_,h.hle.trans k.hle,fun b o v e=>?_,jAz h.drawn k.drawn,fun i d e=>k.dfr i d (h.dfr i d e)⟩
 .rw[k.keep i (jCb hi h.size) (fun hO=>(ho i hO).elim hn (by omega)),h.keep i hi hn]
 .rcases k.hnew b o v e with h1|h1|h1
  .exact h.hnew b o v h1
  .exact .inr (ho b h1)
  .exact .inr (.inr (jAz h.size h1))
abbrev Env:=Nat->A
abbrev wK:=Env->St->Prop
def Env.put(env:Env)(d:wD)(a:A):Env:=match d with|none=>env|some d=>fun t=>if t=d then a else env t
def qL(H:Mem)(L:wO)(N:Nat)(env:Env)(tmps:Array Value):Prop:=N<=tmps.size/\∀t,Rel H L (env t) (tmps.getD t undef)
theorem qL.mono{N:Nat}{env:Env}{tmps:Array Value}(h:qL H L N env tmps)(hh:HLe H H')(hl:LLe L L'):qL H' L' N env tmps :=
 ⟨h.1,fun t=>Rel.mono hh hl _ (h.2 t)⟩
theorem qL.put{N:Nat}{env:Env}{a:Act}(h:qL H L N env a.tmps){d:wD}(hd:∀x,d=some x->x<N){r:A}{v:Value}(hr:Rel H L r v) :
 qL H L N (env.put d r) (a.put d v).tmps:=by
 cases d with
 |none=>exact h
 |some d =>
  have hlt:d<a.tmps.size:=jCb (hd d rfl) h.1;refine⟨by simpa[Act.put]using h.1,fun t=>?_⟩;simp only[Env.put,Act.put];by_cases ht:t=d
  .subst ht;simpa[hlt]using hr
  .have:=h.2 t
   simpa[ht,Array.getElem?_setIfInBounds_ne (Ne.symm ht)]using this
end Go.Abs
namespace Go.Abs
inductive SK where
 |b|i|s
 deriving DecidableEq,Inhabited
inductive MOp where
 |mk (nk:Nat)
 |get (nk:Nat) (z:Value) (ok:Bool)
 |set (nk:Nat)
 |del (nk:Nat)
 |rng
 |nxt
 |ent
 |clr (sz:Nat) (zs:List Value)   -- the cells of a row's part are made zero
 |mks (e:TypeId) (sz bytes:Nat) (zs:List Value)   -- a row of zeros
 |cvt (k:IntKind)   -- an integer as one of another kind
 |str   -- bytes as a string
 |boom      -- what is never reached
 deriving Inhabited
inductive KOp where
 |mov (d:Option Nat) (x:Operand)
 |pick (d:Option Nat) (c a b:Operand)
 |alloc (d:Option Nat) (zs:List Value)
 |box (d:Option Nat) (x:Operand)
 |build (d:Option Nat) (zero:List Value) (parts:List (Nat×Nat×Operand))
 |bslice (d:Option Nat) (e:TypeId) (sz n:Nat) (zero:List Value) (parts:List (Nat×Nat×Operand))
 |brow (d:Option Nat) (e:TypeId) (sz n:Nat) (zero:List Value) (parts:List (Nat×Nat×Operand))   -- a 'bslice' as a row that can be written
 |isn (d:Option Nat) (neg:Bool) (x:Operand)   -- a slice against nil
 |isz (d:Option Nat) (neg:Bool) (x:Operand)   -- an 'isn' of a slice that may be nil or empty
 |ld (d:Option Nat) (x:Operand) (n:Nat) (agg:Bool)
 |st (d:Option Nat) (x v:Operand) (n:Nat)
 |addr (d:Option Nat) (x:Operand) (off:Nat)
 |idx (d:Option Nat) (x i:Operand) (sz:Nat)
 |idxarr (d:Option Nat) (x i:Operand) (len sz:Nat)
 |fld (d:Option Nat) (x:Operand) (off n:Nat) (agg:Bool)
 |ix (d:Option Nat) (x i:Operand) (len sz:Nat) (agg:Bool)
 |bin (d:Option Nat) (op:BinOp) (x y:Operand)
 |eqv (d:Option Nat) (neg:Bool) (k:SK) (x y:Operand)
 |eqs (d:Option Nat) (neg:Bool) (ks:List SK) (x y:Operand)
 |neg (d:Option Nat) (x:Operand)
 |not (d:Option Nat) (x:Operand)
 |len (d:Option Nat) (str:Bool) (x:Operand)
 |mm (d:Option Nat) (max:Bool) (xs:List Operand)
 |app (d:Option Nat) (e:TypeId) (sz bytes:Nat) (x y:Operand)
 |slc (d:Option Nat) (x:Operand) (sz:Nat) (lo hi mx:Option Operand)
 |rslc (d:Option Nat) (x:Operand) (sz:Nat) (lo hi:Option Operand)   -- a 'slc' of a row
 |shr (d:Option Nat) (x:Operand) (sz:Nat) (h:Operand)   -- a row's beginning;its rest is let go
 |apq (d:Option Nat) (e:TypeId) (sz bytes:Nat) (x y:Operand)   -- an 'app' to the end of a row,of which a part is named
 |ext (d:Option Nat) (x:Operand) (i:Nat)
 |clo (d:Option Nat) (f:FuncId) (first cap:List Operand)
 |call (d:Option Nat) (f:Operand) (args:List Operand)
 |nilc (d:Option Nat) (x:Operand)
 |alr (d:Option Nat) (q:Nat) (zero:List Value)   -- 'alloc',at a level that is kept for it
 |isp (d:Option Nat) (neg:Bool) (x:Operand)   -- a pointer against nil
 |mki (d:Option Nat) (t:TypeId) (x:Operand)   -- a value as one of an interface
 |pan (d:Option Nat) (x:Operand)   -- a panic
 |mop (d:Option Nat) (m:MOp) (xs:List Operand)
 deriving Inhabited
structure KG where
 guard:Option (Nat×Bool)
 op:KOp
 deriving Inhabited
inductive K where
 |skip
 |seq (a b:K)
 |cond (c:Operand) (a b:K)
 |block (id:Nat) (b:K)
 |loop (b:K)
 |exit (id:Nat)
 |ret
 |ops (l:List KG)
 |dops (l:List (Nat×Nat×KG))   -- an operation's number in the text,its flag,itself
 |rng (f:Operand) (ps:List Nat) (a b:K)
 |wk (b:K)      -- a place where the state may be weakened;no code
 deriving Inhabited
def KOp.erase:KOp->KOp
 | .brow d e sz n zero parts=>.bslice d e sz n zero parts
 | .alr d _ zero=>.alloc d zero
 | .rslc d x sz lo hi=>.slc d x sz lo hi none
 | .shr d x sz h=>.slc d x sz none (some h) none
 | .apq d e sz bytes x y=>.app d e sz bytes x y
 | .isz d ng x=>.isn d ng x
 |k=>k
def KG.erase(g:KG):KG:=⟨g.guard,g.op.erase⟩
def K.erase:K->K
 | .seq a b=>.seq a.erase b.erase
 | .ops l=>.ops (l.map KG.erase)
 | .rng f ps a b=>.rng f ps a.erase b.erase
 | .cond c a b=>.cond c a.erase b.erase
 | .block id b=>.block id b.erase
 | .loop b=>.loop b.erase
 | .wk b=>b.erase
 |k=>k
def KOp.dst:KOp->wD
 | .mov d _ | .pick d _ _ _ | .alloc d _ | .box d _ | .build d _ _ | .bslice d _ _ _ _ _ | .brow d _ _ _ _ _ | .isn d _ _ | .isz d _ _ | .ld d _ _ _ | .st d _ _ _ | .addr d _ _ | .idx d _ _ _ | .idxarr d _ _ _ _
 | .fld d _ _ _ _ | .ix d _ _ _ _ _ | .bin d _ _ _ | .eqv d _ _ _ _ | .eqs d _ _ _ _ | .neg d _ | .not d _ | .len d _ _ | .mm d _ _ | .app d _ _ _ _ _ | .slc d _ _ _ _ _ | .rslc d _ _ _ _ | .shr d _ _ _ | .apq d _ _ _ _ _ | .ext d _ _ | .clo d _ _ _ | .call d _ _ | .nilc d _ | .mop d _ _ | .alr d _ _ | .mki d _ _ | .pan d _ | .isp d _ _=>d
def KOp.reads:KOp->List Operand
 | .mov _ x | .isn _ _ x | .isz _ _ x | .box _ x | .ld _ x _ _ | .addr _ x _ | .fld _ x _ _ _ | .neg _ x | .not _ x | .len _ _ x | .ext _ x _ | .nilc _ x | .mki _ _ x | .pan _ x | .isp _ _ x=>[x]
 | .pick _ a b c=>[a,b,c]
 | .alloc _ _ | .alr _ _ _=>[]
 | .build _ _ ps | .bslice _ _ _ _ _ ps | .brow _ _ _ _ _ ps=>ps.map fun p=>p.2.2
 | .st _ x v _=>[x,v]
 | .idx _ x i _ | .idxarr _ x i _ _ | .ix _ x i _ _ _ | .bin _ _ x i | .eqv _ _ _ x i | .eqs _ _ _ x i | .app _ _ _ _ x i | .apq _ _ _ _ x i=>[x,i]
 | .mm _ _ xs | .mop _ _ xs=>xs
 | .slc _ x _ lo hi mx=>x::(lo.toList++hi.toList++mx.toList)
 | .rslc _ x _ lo hi=>x::(lo.toList++hi.toList++(none:Option Operand).toList)
 | .shr _ x _ h=>[x,h]
 | .clo _ _ first cap=>first++cap
 | .call _ f args=>f::args
def KG.looks(g:KG):wA :=
 (g.op.reads.filterMap fun x=>match x with | .tmp t=>some t|_=>none)++(match g.guard with|some (s,_)=>[s]|none=>[])
def aY(l:wM):Bool:=l.all (·.oneCell')
def zB5:TypeDesc->Bool
 | .struct _ | .array _ _=>true
 |_=>false
def zA(P:Program)(f:FuncId):Bool :=
 match P.funcs[f]? with
 |some fn=>fn.body.isSome&&!(fn.name == "runtime.NumGoroutine")
 |none=>false
def xG(P:Program)(t:TypeId):Option SK :=
 match P.underlying t with
 |some .bool=>some .b
 |some (.int _)=>some .i
 |some .string=>some .s
 |_=>none
def sK(P:Program):Nat->List Field->Option (List SK)
 |_,[]=>some []
 |o,f::fs=>if f.offset=o/\f.name ≠ "_" then (match xG P f.type,sK P (o+1) fs with
  |some k,some ks=>some (k::ks)
  |_,_=>none)else none
def zIN(P:Program)(t:TypeId):Option (List SK) :=
 match P.underlying t with
 |some (.struct fs)=>if P.stoodInHeld t||P.eqGuardType P.depth t then none else sK P 0 fs.toList
 |_=>none
def skN(P:Program):Nat->List Field->Option (List SK)
 |_,[]=>some []
 |o,f::fs=>if f.offset=o/\f.name ≠ "_" then (match xG P f.type with
  |some k=>(skN P (o+1) fs).map fun ks=>k::ks
  |none=>match P.underlying f.type with
   |some (.struct gs)=>if P.stoodInHeld f.type then none else (match sK P 0 gs.toList,P.info? f.type with
    |some ks,some j=>if j.size=ks.length then (skN P (o+ks.length) fs).map fun ks'=>ks++ks' else none
    |_,_=>none)
   |_=>none)else none
def zJd(P:Program)(t:TypeId):Option (List SK) :=
 match P.underlying t with
 |some (.struct fs)=>if P.stoodInHeld t||P.eqGuardType P.depth t then none else skN P 0 fs.toList
 |some (.array n e)=>if P.eqGuardType P.depth t||!((P.info? e).map (·.size)==some 1)then none else (xG P e).map fun k=>List.replicate n k
 |_=>none
def rV(P:Program)(g:TypeId->wD):Nat->List Field->wD
 |o,[]=>some o
 |o,f::fs=>if f.offset=o/\f.name ≠ "_" then (match g f.type with
  |some n=>if (P.info? f.type).map (·.size)=some n then rV P g (o+n) fs else none
  |none=>none)else none
def mS(P:Program):Nat->TypeId->wD
 | 0,_=>none
 |d+1,t=>match P.underlying t with
  |some (.int .i64)=>some 1
  |some (.struct fs)=>if P.stoodInHeld t then none else rV P (mS P d) 0 fs.toList
  |_=>none
def zBe(P:Program)(t:TypeId):wD:=match P.underlying t with
 |some (.struct _)=>match mS P 20 t with
  |some n=>if n=1 then none else some n
  |none=>none
 |some (.int .i64)=>some 1
 |_=>none
def zQc(P:Program)(t:TypeId):wD:=match P.underlying t with
 |some (.map k _)=>zBe P k
 |_=>none
def zFP(P:Program)(t:TypeId)(y:Operand):Bool:=match P.underlying t,y with
 |some (.slice _),.const (.slice none 0 0)=>true
 |_,_=>false
def zO8(P:Program)(t:TypeId)(y:Operand):Bool:=match P.underlying t,y with
 |some (.pointer _),.const (.pointer none)=>true
 |_,_=>false
def eqX(P:Program)(t:TypeId)(d:wD)(neg:Bool)(x y:Operand):Option KOp:=if zO8 P t y then some (.isp d neg x)else match zIN P t with
 |some ks=>some (.eqs d neg ks x y)
 |none=>(zJd P t).map fun ks=>.eqs d neg ks x y
theorem zBI{P:Program}{t:TypeId}{d:wD}{neg:Bool}{x y:Operand}{k:KOp}(h:eqX P t d neg x y=some k):(zO8 P t y=true/\k=.isp d neg x)\/∃ks,(zIN P t=some ks\/zJd P t=some ks)/\k=.eqs d neg ks x y:=by
 unfold eqX at h;split at h
 .rename_i hp;cases h;exact .inl ⟨hp,rfl⟩
 .split at h
  .rename_i ks hk;cases h;exact .inr ⟨ks,.inl hk,rfl⟩
  .simp only[jAf]at h;obtain⟨ks,h1,rfl⟩:=h;exact .inr ⟨ks,.inr h1,rfl⟩
def nQ(place:Nat->Option (Nat×Nat))(parts:List (Nat×Operand)):Option (List (Nat×Nat×Operand)) :=
 parts.mapM fun(i,x)=>(place i).map fun(off,size)=>(off,size,x)
def pR(P:Program)(fs:List Field)(i:Nat):Option (Nat×Nat) :=
 match fs[i]? with
 |some f=>match P.info? f.type with
  |some j=>some (f.offset,j.size)
  |none=>none
 |none=>none
def aB(P:Program)(o:Oper):Option KOp :=
 match o.op with
 | .move x=>some (.mov o.dst x)
 | .assign x=>some (.mov o.dst x)
 | .pick c a b=>some (.pick o.dst c a b)
 | .alloc e=>do
  let z <-(<-P.info? e).zero
  if aY z.cells.toList then some (.alloc o.dst z.cells.toList)else none
 | .box _ x=>some (.box o.dst x)
 | .load t x=>do
  let u <-P.underlying t;let i <-P.info? t
  some (.ld o.dst x i.size (zB5 u))
 | .store t a x=>do
  let i <-P.info? t
  some (.st o.dst a x i.size)
 | .fieldAddr s x f =>
  match P.underlying s with
  |some (.struct fs)=>do
   let g <-fs[f]?;let i <-P.info? g.type
   if i.size=0 then none else some (.addr o.dst x g.offset)
  |_=>none
 | .indexAddr t x i =>
  match P.underlying t with
  |some (.slice e)=>do some (.idx o.dst x i (<-P.info? e).size)
  |some (.array n e)=>do some (.idxarr o.dst x i n (<-P.info? e).size)
  |_=>none
 | .field t x f =>
  match P.underlying t with
  |some (.struct fs)=>do
   let g <-fs[f]?;let u <-P.underlying g.type;let i <-P.info? g.type
   some (.fld o.dst x g.offset i.size (zB5 u))
  |_=>none
 | .index t x i =>
  match P.underlying t with
  |some (.array n e)=>do
   let u <-P.underlying e;let j <-P.info? e
   some (.ix o.dst x i n j.size (zB5 u))
  |_=>none
 | .binOp op t x y _ =>
  match op with
  | .add | .sub | .mul | .quo | .rem | .lss | .leq | .gtr | .geq=>some (.bin o.dst op x y)
  | .eql=>match xG P t with
   |some k=>some (.eqv o.dst false k x y)
   |none=>if zFP P t y then some (.isn o.dst false x)else eqX P t o.dst false x y
  | .neq=>match xG P t with
   |some k=>some (.eqv o.dst true k x y)
   |none=>if zFP P t y then some (.isn o.dst true x)else eqX P t o.dst true x y
  |_=>none
 | .unOp op _ x =>
  match op with
  | .neg=>some (.neg o.dst x)
  | .not=>some (.not o.dst x)
  |_=>none
 | .extract t i=>some (.ext o.dst t i)
 | .makeFunc (.func f) first cap=>some (.clo o.dst f first.toList cap.toList)
 | .slice t x lo hi mx =>
  match P.underlying t with
  |some (.slice e)=>do some (.slc o.dst x (<-P.info? e).size lo hi mx)
  |_=>none
 | .build t parts =>
  match P.underlying t with
  |some (.struct fs)=>do
   let z <-(<-P.info? t).zero
   if aY z.cells.toList&&fs.all (fun f=>(P.info? f.type).isSome)then some (.build o.dst z.cells.toList (<-nQ (pR P fs.toList) parts.toList))else none
  |some (.array _ e)=>do
   let z <-(<-P.info? t).zero;let j <-P.info? e
   if aY z.cells.toList then some (.build o.dst z.cells.toList (<-nQ (fun i=>some (i*j.size,j.size)) parts.toList))else none
  |_=>none
 | .buildSlice t len parts =>
  match P.underlying t with
  |some (.slice e)=>do
   let j <-P.info? e;let z <-j.zero
   if len*j.size<=4096&&0<j.size&&aY z.cells.toList&&z.cells.size==j.size then
    some (.bslice o.dst e j.size len ((List.replicate len z.cells.toList).flatten) (<-nQ (fun i=>some (i*j.size,j.size)) parts.toList))else none
  |_=>none
 | .call c =>
  match c.callee with
  | .value f =>
   match f with
   | .func g=>if zA P g then some (.call o.dst f c.args.toList)else none
   | .tmp _=>some (.call o.dst f c.args.toList)
   |_=>none
  | .builtin .len =>
   match c.args.toList,c.argTypes[0]? with
   |[x],some t =>
    match P.underlying t with
    |some (.slice _)=>some (.len o.dst false x)
    |some .string=>some (.len o.dst true x)
    |_=>none
   |_,_=>none
  | .builtin .delete =>
   match c.args.toList,c.argTypes[0]? with
   |[x,y],some t=>(zQc P t).map fun nk=>.mop o.dst (.del nk) [x,y]
   |_,_=>none
  | .builtin .clear =>
   match c.args.toList,c.argTypes[0]? with
   |[x],some t =>
    match P.underlying t with
    |some (.slice e)=>do
     let j <-P.info? e;let z <-j.zero
     if aY z.cells.toList&&z.cells.size==j.size&&0<j.size then some (.mop o.dst (.clr j.size z.cells.toList) [x])else none
    |_=>none
   |_,_=>none
  | .builtin .max=>some (.mm o.dst true c.args.toList)
  | .builtin .min=>some (.mm o.dst false c.args.toList)
  | .builtin .append =>
   match c.args.toList,c.argTypes.toList with
   |[x,y],[t,t'] =>
    if t=t' then
     match P.underlying t with
     |some (.slice e)=>do
      let j <-P.info? e;let z <-j.zero
      if aY z.cells.toList&&z.cells.size==j.size&&0<j.size then some (.app o.dst e j.size j.bytes x y)else none
     |_=>none
    else none
   |_,_=>none
  |_=>none
 | .nilCheck x=>some (.nilc o.dst x)
 | .makeMap t none=>(zQc P t).map fun nk=>.mop o.dst (.mk nk) []
 | .lookup t x k ok =>
  match P.underlying t with
  |some (.map kt e)=>do
   let nk <-zBe P kt;let j <-P.info? e
   some (.mop o.dst (.get nk (<-j.zero) ok) [x,k])
  |_=>none
 | .mapUpdate t m k v=>(zQc P t).map fun nk=>.mop o.dst (.set nk) [m,k,v]
 | .range t x =>
  match P.underlying t with
  |some (.map _ _)=>some (.mop o.dst .rng [x])
  |_=>none
 | .next x false=>some (.mop o.dst .nxt [x])
 | .entry x=>some (.mop o.dst .ent [x])
 | .makeInterface t x =>
  match P.underlying t with
  |some u=>match u with
   | .interface _=>none
   |_=>some (.mki o.dst t x)
  |none=>none
 | .panic x=>some (.pan o.dst x)
 | .makeSlice t x y =>
  match P.underlying t with
  |some (.slice e)=>do
   let j <-P.info? e;let z <-j.zero
   if aY z.cells.toList&&z.cells.size==j.size&&0<j.size then some (.mop o.dst (.mks e j.size j.bytes z.cells.toList) [x,y])else none
  |_=>none
 | .convert s d x =>
  match P.underlying d with
  |some (.int k)=>if (P.underlying s).isSome then some (.mop o.dst (.cvt k) [x])else none
  |some .string =>
   match P.underlying s with
   |some (.slice e)=>match P.underlying e with
    |some (.int .u8)=>some (.mop o.dst .str [x])
    |_=>none
   |_=>none
  |_=>none
 | .insert t m k v=>(zQc P t).map fun nk=>.mop o.dst (.set nk) [m,k,v]
 |_=>none
def zWW(N:Nat)(o:Oper):Bool:=match o.dst with|some d=>decide (d<N)|none=>true
def oK(P:Program)(N:Nat)(ops:Array Oper)(o:Oper):Option KG :=
 match aB P o with
 |none=>none
 |some k =>
  if zWW N o then
   match o.guard with
   |none=>some ⟨none,k⟩
   |some (j,want) =>
    match (ops[j]?).bind (·.dst)with
    |some s=>some ⟨some (s,want),k⟩
    |none=>none
  else none
def gS(P:Program)(N:Nat)(ops:Array Oper):List Oper->Option (List KG)
 |[]=>some []
 |o::rest=>match oK P N ops o,gS P N ops rest with
  |some g,some r=>some (g::r)
  |_,_=>none
def KOp.isCall:KOp->Bool
 | .call ..=>true
 |_=>false
def KOp.lite:KOp->Bool
 | .mov .. | .pick .. | .build .. | .bslice .. | .idxarr .. | .fld .. | .ix .. | .bin .. | .eqv .. | .eqs .. | .neg .. | .not .. | .len _ true _ | .mm .. | .slc .. | .ext .. | .clo .. | .isn .. | .nilc .. | .mki .. | .isp ..=>true
 |_=>false
def KOp.grows:KOp->Bool
 | .alloc .. | .box .. | .app .. | .brow .. | .alr ..=>true
 |_=>false
def KOp.keeps:KOp->Bool
 | .alloc .. | .box .. | .app .. | .st .. | .brow .. | .mop .. | .alr .. | .isz .. | .pan .. | .shr .. | .apq ..=>false
 |_=>true
def b8(f:Nat)(k:KOp):Bool:=k.lite||(f==2&&k.keeps&&!k.isCall)
def rC(f:Nat)(k:KOp):Bool:=k.grows||((f==3||f==7||f==8)&&k.isCall)
def yH(f:Nat)(k:KOp):Bool:=k.keeps&&!(k.isCall&&Nat.ble 3 f)
def pJ(ops:Array Oper)(i j:Nat):Bool:=match ops[j]? with
 |some o=>o.after.any fun e=>Region.binds .any e&&e.on==i
 |none=>false
def uZ(ops:Array Oper)(i:Nat):List Nat->List Nat->wA
 |[],acc=>acc
 |j::l,acc=>uZ ops i l (match ops[j]? with
  |some o=>if o.after.any (fun e=>Region.binds .any e&&(e.on==i||acc.contains e.on))then j::acc else acc
  |none=>acc)
def zAF(ops:Array Oper)(i:Nat):wA:=uZ ops i (List.range ops.size) []
def zOH(fi fj:Nat)(gi gj:KG):Bool:=fi==fj+1000&&Nat.ble 1000 fj&&Nat.blt fj 2000&&gj.guard.isNone&&(match gi.op,gj.op with
 | .ld ..,.st ..=>true
 | .ld ..,.call ..=>gi.guard.isNone
 |_,_=>false)
def zVL(fi fj:Nat)(gi gj:KG):Bool:=fi==fj+1000&&Nat.ble 3000 fj&&Nat.blt fj 4000&&gi.guard.isNone&&gj.guard.isNone&&(match gi.op,gj.op with
 | .ld ..,.call ..=>true
 | .idx ..,.call ..=>true
 | .addr ..,.call ..=>true
 |_,_=>false)
def zLy(fi fj:Nat)(gi gj:KG):Bool:=zOH fi fj gi gj||zVL fi fj gi gj
def zL1(gi gj:KG):Bool:=gi.guard.isNone&&gj.guard.isNone&&(match gi.op,gj.op with
 | .alr _ q _,.alr _ q' _=>q != q'
 |_,_=>false)
def zOI(fi:Nat)(gi gj:KG):Bool:=(fi==7||fi==11)&&gi.guard.isNone&&gj.guard.isNone&&(match gi.op,gj.op with
 | .call ..,.alr ..=>true
 |_,_=>false)
def zVK(gi gj:KG):Bool:=gi.guard.isNone&&gj.guard.isNone&&(match gi.op,gj.op with
 | .len _ false _,.alr ..=>true
 | .idx ..,.alr ..=>true
 | .ld ..,.alr ..=>true
 | .addr ..,.alr ..=>true
 |_,_=>false)
def zLz(fi:Nat)(gi gj:KG):Bool:=zOI fi gi gj||zVK gi gj
def zL0(fi fj:Nat)(gi gj:KG):Bool:=fi==6&&fj==5&&gi.guard.isNone&&gj.guard.isNone&&(match gi.op,gj.op with
 | .st ..,.st ..=>true
 | .idx ..,.st ..=>true
 |_,_=>false)
def tO(fi fj:Nat)(ki kj:KOp):Bool:=b8 fj kj||(yH fi ki&&(b8 fi ki||yH fj kj||(fi==1&&rC fj kj)))
def zZl(ops:Array Oper)(gs:List KG)(k:Nat)(g:KG):Nat :=
 if g.op.keeps&&!g.op.lite&&(List.range ops.size).any fun j=>Nat.blt k j&&(match gs[j]? with
  |some h=>h.op.grows&&!pJ ops k j&&!(zAF ops k).contains j
  |none=>false)then 1 else 0
def zBS(ops:Array Oper)(gs:List KG):Nat->List KG->List (Nat×Nat×KG)
 |_,[]=>[]
 |k,g::l=>(k,zZl ops gs k g,g)::zBS ops gs (k+1) l
def zFU:Nat->List KG->List (Nat×Nat×KG)
 |_,[]=>[]
 |k,g::l=>(k,0,g)::zFU (k+1) l
def zIM(ops:Array Oper)(gs:List KG):List (Nat×Nat×KG):=if gs.any (·.op.grows)then zBS ops gs 0 gs else zFU 0 gs
def zNN(f:Nat)(g:KG):KG:=match g.op with
 | .alloc d zs=>if Nat.ble 300 f&&Nat.blt f 1000 then ⟨g.guard,.alr d (f-300) zs⟩ else g
 | .bslice d e sz n zero parts=>if f==9 then ⟨g.guard,.brow d e sz n zero parts⟩ else g
 |_=>g
def zLb(gs:List KG):List (Nat×Nat)->Option (List (Nat×Nat×KG))
 |[]=>some []
 |(k,f)::l=>match gs[k]?,zLb gs l with
  |some g,some r=>some ((k,f,zNN f g)::r)
  |_,_=>none
def zTf(ops:Array Oper)(listed:Array Bool)(B:wA)(k f:Nat)(o:Oper)(g:KG)(x:Nat×Nat×KG):Bool :=
 x.1==k||listed.getD x.1 true||pJ ops k x.1||(match ops[x.1]? with
  |some p=>o.apart ops p&&(tO f x.2.1 g.op x.2.2.op||(zL0 f x.2.1 g x.2.2||(zLy f x.2.1 g x.2.2||(zL1 g x.2.2||zLz f g x.2.2))))
  |_=>false)||B.contains x.1
def zCx(ops:Array Oper)(all:List (Nat×Nat×KG))(listed:Array Bool)(B:wA)(k f:Nat)(g:KG):Bool:=B.all (fun j=>!listed.getD j true)&&match ops[k]? with
 |some o=>all.all fun x=>zTf ops listed B k f o g x
 |_=>false
def zT6(ops:Array Oper)(all:List (Nat×Nat×KG))(listed:Array Bool)(k f:Nat)(g:KG):Bool:=zCx ops all listed [] k f g||zCx ops all listed (zAF ops k) k f g
def zFp(ops:Array Oper)(all:List (Nat×Nat×KG)):List (Nat×Nat×KG)->Array Bool->Bool
 |[],listed=>(Region.ready .any ops listed).isEmpty
 |(k,f,g)::l,listed=>(Region.ready .any ops listed).contains k&&(if f==8||f==10 then g.guard.isNone&&g.op.isCall&&Region.ready .any ops listed==[k]else zT6 ops all listed k f g)&&zFp ops all l (listed.setIfInBounds k true)
def zFq(ops:Array Oper)(l:List (Nat×Nat×KG)):Bool:=zFp ops l l (Array.replicate ops.size false)&&l.length==ops.size&&(List.range ops.size).all fun j=>l.any fun x=>x.1==j
def pQ(ops:Array Oper):List Oper->List KG->Bool
 |[],[]=>true
 |o::os,g::gs=>g.looks.all (fun t=>(o.looksAt ops).contains t)&&pQ ops os gs
 |_,_=>false
def K.noRng:K->Bool
 | .seq a b | .cond _ a b=>a.noRng&&b.noRng
 | .block _ b | .loop b | .wk b=>b.noRng
 | .rng ..=>false
 |_=>true
def qK(P:Program)(N:Nat)(hint:Nat->Option wE):Code->Option K
 | .skip=>some .skip
 | .seq a b=>match qK P N hint a,qK P N hint b with
  |some x,some y=>some (.seq x y)
  |_,_=>none
 | .cond c a b=>match qK P N hint a,qK P N hint b with
  |some x,some y=>some (.cond c x y)
  |_,_=>none
 | .block id b=>(qK P N hint b).map (.block id)
 | .loop b=>(qK P N hint b).map .loop
 | .exit id=>some (.exit id)
 | .ret=>some .ret
 | .region id ops draw =>
  match gS P N ops ops.toList with
  |some l=>if draw then (match (match hint id with|some h=>zLb l h|none=>some (zIM ops l))with
   |some r=>if zFq ops r&&P.follows .mixedOrders&&pQ ops ops.toList l then some (.dops r)else none
   |none=>none)else some (.ops l)
  |none=>none
 | .rangeFunc f ps a b=>match qK P N hint a,qK P N hint b with
  |some x,some y=>if x.noRng&&y.noRng&&ps.all (fun p=>Nat.blt p N)then some (.rng f ps.toList x y)else none
  |_,_=>none
 |_=>none
def z7:Nat->Option wE:=fun _=>none
abbrev zP(P:Program)(N:Nat)(c:Code):Option K:=qK P N z7 c
section
variable(a b c n g:Nat)(i:Int)
@[simp]def M:KG:=⟨none,.mov (some a) (.tmp b)⟩
@[simp]def kMi:KG:=⟨none,.mov (some a) (.const (.int .i64 i))⟩
@[simp]def kMb(t:Bool):KG:=⟨none,.mov (some a) (.const (.bool t))⟩
@[simp]def kMn:KG:=⟨none,.mov (some a) (.const (.slice none 0 0))⟩
@[simp]def D:KG:=⟨none,.addr (some a) (.tmp b) n⟩
@[simp]def L:KG:=⟨none,.ld (some a) (.tmp b) n false⟩
@[simp]def J:KG:=⟨none,.ld (some a) (.tmp b) n true⟩
@[simp]def S:KG:=⟨none,.st none (.tmp a) (.tmp b) n⟩
@[simp]def kX:KG:=⟨none,.idx (some a) (.tmp b) (.tmp c) n⟩
@[simp]def kXi:KG:=⟨none,.idx (some a) (.tmp b) (.const (.int .i64 i)) n⟩
@[simp]def kB(o:BinOp):KG:=⟨none,.bin (some a) o (.tmp b) (.tmp c)⟩
@[simp]def kBi(o:BinOp):KG:=⟨none,.bin (some a) o (.tmp b) (.const (.int .i64 i))⟩
@[simp]def kQ(t:Bool):KG:=⟨none,.eqv (some a) t .i (.tmp b) (.tmp c)⟩
@[simp]def kQi(t:Bool):KG:=⟨none,.eqv (some a) t .i (.tmp b) (.const (.int .i64 i))⟩
@[simp]def kPf:KG:=⟨none,.pick (some a) (.tmp b) (.tmp c) (.const (.bool false))⟩
@[simp]def kPt:KG:=⟨none,.pick (some a) (.tmp b) (.const (.bool true)) (.tmp c)⟩
@[simp]def kN:KG:=⟨none,.len (some a) false (.tmp b)⟩
@[simp]def kC(f:FuncId)(l:List Operand):KG:=⟨none,.call (some a) (.func f) l⟩
@[simp]def kO:KG:=⟨none,.box (some a) (.tmp b)⟩
@[simp]def kP(e:TypeId)(s y p q:Nat):KG:=⟨none,.app (some a) e s y (.tmp p) (.tmp q)⟩
@[simp]def kE:KG:=⟨none,.ext (some a) (.tmp b) n⟩
@[simp]def kR:KG:=⟨none,.not (some a) (.tmp b)⟩
@[simp]def kU:KG:=⟨none,.nilc (some a) (.tmp b)⟩
@[simp]def kZ(l:wM):KG:=⟨none,.alloc (some a) l⟩
@[simp]def T(t:Bool)(k:KG):KG:=⟨some (g,t),k.op⟩
end
@[simp]def G(l:List KG)(k:K):K:=.seq (.ops l) k
@[simp]def Z(k j:K):K:=.seq k j
@[simp]def Y(n:Nat)(k j:K):K:=.cond (.tmp n) k j
@[simp]def ks:K:=.skip
@[simp]def kr:K:=.ret
@[simp]def ki:Value:=.int .i64 0
@[simp]def kl:Value:=.slice none 0 0
@[simp]def kt(n:Nat):Operand:=.tmp n
@[simp]def kc(n:Int):Operand:=.const (.int .i64 n)
@[simp]def kb(n:Nat)(l:wM)(m:List (Nat×Nat×Operand)):KG:=⟨none,.build (some n) l m⟩
@[simp]def kd(n a b c:Nat)(l:wM)(m:List (Nat×Nat×Operand)):KG:=⟨none,.bslice (some n) a b c l m⟩
@[simp]def kz0:wM:=[(.int .i64 0),(.int .i64 0),(.int .i64 0),(.int .i64 0),(.int .i64 0),(.int .i64 0),(.int .i64 0),(.string ⟨#[]⟩),(.slice none 0 0),(.int .i64 0),(.int .i64 0),(.int .i64 0),(.int .i64 0),(.slice none 0 0),(.int .i64 0),(.int .i64 0),(.int .i64 0),(.int .i64 0),(.int .i64 0),(.int .i64 0),(.int .i64 0),(.int .i64 0),(.int .i64 0),(.int .i64 0),(.int .i64 0),(.int .i64 0),(.slice none 0 0),(.slice none 0 0),(.slice none 0 0),(.int .i64 0),(.slice none 0 0)]
@[simp]def kz1:wM:=[(.int .i64 0),(.int .i64 0),(.int .i64 0),(.int .i64 0),(.int .i64 0),(.int .i64 0),(.int .i64 0),(.int .i64 0),(.int .i64 0),(.int .i64 0),(.int .i64 0),(.int .i64 0),(.slice none 0 0),(.slice none 0 0),(.slice none 0 0)]
@[simp]def kz2:wM:=[(.int .i64 0),(.int .i64 0),(.int .i64 0),(.int .i64 0),(.slice none 0 0)]
@[simp]def kz3:wM:=[(.int .i64 0),(.string ⟨#[]⟩),(.slice none 0 0),(.slice none 0 0),(.slice none 0 0),(.int .i64 0),(.int .i64 0),(.int .i64 0),(.int .i64 0),(.slice none 0 0),(.int .i64 0)]
@[simp]def kz4:wM:=[(.int .i64 0),(.int .i64 0),(.int .i64 0),(.int .i64 0),(.int .i64 0),(.int .i64 0),(.int .i64 0),(.int .i64 0),(.int .i64 0),(.int .i64 0),(.int .i64 0),(.int .i64 0),(.slice none 0 0),(.slice none 0 0),(.slice none 0 0),(.int .i64 0),(.int .i64 0),(.int .i64 0),(.int .i64 0),(.int .i64 0),(.int .i64 0),(.int .i64 0),(.int .i64 0),(.int .i64 0),(.int .i64 0),(.int .i64 0),(.int .i64 0),(.slice none 0 0),(.slice none 0 0),(.slice none 0 0),(.int .i64 0),(.int .i64 0),(.int .i64 0),(.int .i64 0),(.int .i64 0),(.int .i64 0),(.int .i64 0),(.int .i64 0),(.int .i64 0),(.int .i64 0),(.int .i64 0),(.int .i64 0),(.slice none 0 0),(.slice none 0 0),(.slice none 0 0)]
@[simp]def kz5:wM:=[(.int .i64 0),(.int .i64 0),(.int .i64 0),(.string ⟨#[]⟩),(.int .i64 0),(.int .i64 0),(.int .i64 0),(.int .i64 0),(.slice none 0 0),(.int .i64 0),(.int .i64 0)]
@[simp]def kz6:wM:=[(.int .i64 0),(.int .i64 0),(.int .i64 0),(.int .i64 0),(.int .i64 0),(.int .i64 0),(.int .i64 0),(.int .i64 0),(.int .i64 0),(.int .i64 0),(.int .i64 0),(.int .i64 0),(.slice none 0 0),(.slice none 0 0),(.slice none 0 0),(.int .i64 0),(.int .i64 0),(.int .i64 0),(.int .i64 0),(.int .i64 0),(.int .i64 0),(.int .i64 0),(.int .i64 0),(.int .i64 0),(.int .i64 0),(.int .i64 0),(.int .i64 0),(.slice none 0 0),(.slice none 0 0),(.slice none 0 0)]
@[simp]def kz7:wM:=[(.int .i64 0),(.int .i64 0),(.int .i64 0),(.int .i64 0),(.int .i64 0),(.int .i64 0),(.int .i64 0),(.int .i64 0),(.slice none 0 0)]
@[simp]def kz8:wM:=[(.int .i64 0),(.int .i64 0),(.int .i64 0),(.int .i64 0),(.int .i64 0),(.int .i64 0),(.int .i64 0),(.string ⟨#[]⟩),(.slice none 0 0),(.int .i64 0),(.int .i64 0),(.int .i64 0),(.int .i64 0),(.slice none 0 0),(.int .i64 0),(.int .i64 0),(.int .i64 0),(.int .i64 0),(.int .i64 0),(.int .i64 0),(.int .i64 0),(.int .i64 0),(.int .i64 0),(.int .i64 0),(.int .i64 0),(.int .i64 0),(.slice none 0 0),(.slice none 0 0),(.slice none 0 0),(.int .i64 0),(.slice none 0 0),(.int .i64 0),(.int .i64 0),(.int .i64 0),(.int .i64 0),(.int .i64 0),(.int .i64 0),(.int .i64 0),(.string ⟨#[]⟩),(.slice none 0 0),(.int .i64 0),(.int .i64 0),(.int .i64 0),(.int .i64 0),(.slice none 0 0),(.int .i64 0),(.int .i64 0),(.int .i64 0),(.int .i64 0),(.int .i64 0),(.int .i64 0),(.int .i64 0),(.int .i64 0),(.int .i64 0),(.int .i64 0),(.int .i64 0),(.int .i64 0),(.slice none 0 0),(.slice none 0 0),(.slice none 0 0),(.int .i64 0),(.slice none 0 0)]
@[simp]def kz9:wM:=[(.int .i64 0),(.int .i64 0),(.int .i64 0),(.string ⟨#[]⟩),(.slice none 0 0),(.slice none 0 0)]
@[simp]def qNQ:wM:=[(.int .i64 0),(.int .i64 0),(.int .i64 0),(.int .i64 0)]
@[simp]def qOI:wM:=[(.int .i64 0),(.int .i64 0),(.int .i64 0),(.int .i64 0),(.slice none 0 0),(.int .i64 0),(.int .i64 0),(.int .i64 0),(.int .i64 0),(.slice none 0 0),(.int .i64 0),(.int .i64 0),(.int .i64 0),(.int .i64 0),(.slice none 0 0),(.int .i64 0),(.int .i64 0),(.int .i64 0),(.int .i64 0),(.slice none 0 0),(.int .i64 0),(.int .i64 0),(.int .i64 0),(.int .i64 0),(.slice none 0 0),(.int .i64 0),(.int .i64 0),(.int .i64 0),(.int .i64 0),(.slice none 0 0)]
@[simp]def zVd:wM:=[(.string ⟨#[]⟩),(.string ⟨#[]⟩),(.string ⟨#[]⟩)]
@[simp]def qNR:wM:=[(.int .i64 0),(.int .i64 0),(.int .i64 0),(.int .i64 0),(.slice none 0 0),(.int .i64 0),(.int .i64 0),(.int .i64 0),(.int .i64 0),(.slice none 0 0),(.int .i64 0),(.int .i64 0),(.int .i64 0),(.int .i64 0),(.slice none 0 0)]
def jP:Value->A
 | .slice none 0 0=>.nil
 |v=>.lit v
def zAk:Value->A
 | .agg cs=>if aY cs.toList then .agg (cs.toList.map jP)else .any
 |v=>jP v
def ev(env:Env):Operand->A
 | .tmp t=>env t
 | .const v=>zAk v
 | .global g=>match zOq.lookup g with
  |some vs=>if vs.all (·.oneCell')then .rptr (vs.map zJl)else .any
  |none=>.any
 | .func f=>.clo f [] []
def cellsOf:A->Option wF
 | .any | .tup _=>none
 | .agg cs=>some cs
 | .lit v=>if v.oneCell' then some [.lit v]else none
 |a=>some [a]
def sub(cs:wF)(off n:Nat):Option wF:=if off+n<=cs.length then some ((cs.drop off).take n)else none
def ldA(U:St)(n:Nat):A->Option wF
 | .rptr cs=>sub cs 0 n
 | .ptr l off=>match U[l]? with
  |some (.box cs)=>sub cs off n
  |_=>none
 | .rwp l m off=>match U[l]? with
  |some (.row _ _ _ k cs)=>if m=k then sub cs off n else none
  |_=>none
 |_=>none
def gO(agg:Bool)(cs:wF):Option A :=
 match agg,cs with
 |true,cs=>some (.agg cs)
 |false,[c]=>some c
 |_,_=>none
def fO:List A->List (Nat×Nat×A)->Option wF
 |cs,[]=>some cs
 |cs,(off,size,a)::rest =>
  match cellsOf a with
  |some l=>if l.length=size/\off+size<=cs.length then fO (cs.take off++l++cs.drop (off+size)) rest else none
  |none=>none
def fX:SK->A->A->Option Prop
 | .i,.lit (.int k a),.lit (.int k' b)=>if k=k' then some (a=b)else none
 | .b,.lit (.bool a),.lit (.bool b)=>some (a=b)
 | .s,.lit (.string a),.lit (.string b)=>some (a=b)
 |_,_,_=>none
def yP:List SK->List A->List A->Option Prop
 |[],[],[]=>some True
 |k::ks,x::xs,y::ys=>match fX k x y,yP ks xs ys with
  |some p,some q=>some (p/\q)
  |_,_=>none
 |_,_,_=>none
def rU(op:BinOp)(k:IntKind)(a b:Int):Option (Prop×A) :=
 match op with
 | .add=>some (True,.lit (.int k (k.wrap (a+b))))
 | .sub=>some (True,.lit (.int k (k.wrap (a-b))))
 | .mul=>some (True,.lit (.int k (k.wrap (a*b))))
 | .quo=>some (b≠0,.lit (.int k (k.wrap (a.tdiv b))))
 | .rem=>some (b≠0,.lit (.int k (a.tmod b)))
 | .lss=>some (True,.lit (.bool (decide (a<b))))
 | .leq=>some (True,.lit (.bool (decide (a<=b))))
 | .gtr=>some (True,.lit (.bool (decide (b<a))))
 | .geq=>some (True,.lit (.bool (decide (b<=a))))
 |_=>none
def zA6:List A->Option wC
 |[]=>some []
 | .lit (.int .i64 n)::l=>(zA6 l).map (n::·)
 |_=>none
def vW:List A->Option wC
 |[]=>some []
 | .lit (.int .u8 n)::l=>(vW l).map (n::·)
 |_=>none
def zBd(nk:Nat):A->Option wC
 | .agg cs=>match zA6 cs with
  |some ks=>if ks.length=nk/\nk≠1 then some ks else none
  |none=>none
 | .lit (.int .i64 n)=>if nk=1 then some [n]else none
 |_=>none
def zBY:List Int->A
 |[n]=>.lit (.int .i64 n)
 |ks=>.agg (ks.map fun n=>.lit (.int .i64 n))
def bN(ks:wC):List (wC×A)->Option A
 |[]=>none
 |p::es=>if p.1=ks then some p.2 else bN ks es
def lS(ks:wC)(v:A):List (wC×A)->List (wC×A)
 |[]=>[(ks,v)]
 |p::es=>if p.1=ks then (ks,v)::es else p::lS ks v es
def zCR(ks:wC):List (wC×A)->List (wC×A)
 |[]=>[]
 |p::es=>if p.1=ks then es else p::zCR ks es
def uT(z:Value)(ok:Bool)(r:Option A):A:=if ok then .tup [r.getD (zAk z),.lit (.bool r.isSome)]else r.getD (zAk z)
def eL(m:MOp)(xs:wF)(K:A->St->Prop) (U:St):Prop:=match m,xs with
 | .mk nk,[]=>K (.map U.length) (U++[.mp true nk []])
 | .get nk z ok,[.map l,k]=>(match zBd nk k,U[l]? with
  |some ks,some (.mp _ nk' es)=>nk'=nk/\K (uT z ok (bN ks es)) U
  |_,_=>False)
 | .set nk,[.map l,k,v]=>(match zBd nk k,U[l]? with
  |some ks,some (.mp fr nk' es)=>nk'=nk/\K (.lit undef) (U.set l (.mp fr nk (lS ks v es)))
  |_,_=>False)
 | .del nk,[.map l,k]=>(match zBd nk k,U[l]? with
  |some ks,some (.mp _ nk' es)=>nk'=nk/\K (.tup []) (U.set l (.mp false nk (zCR ks es)))
  |_,_=>False)
 | .rng,[.map l]=>(match U[l]? with
  |some (.mp true _ es)=>K (.ptr U.length 0) (U++[.it l es.length []])
  |_=>False)
 | .nxt,[.ptr j 0]=>(match U[j]? with
  |some (.it l n met)=>(match U[l]? with
   |some (.mp true _ es)=>n=es.length/\(∀(i:Nat) (p:wC×A),i∉met->es[i]?=some p->K (.tup [.lit (.bool true),zBY p.1,p.2]) (U.set j (.it l n (met++[i])))) /\
    ((∀i,i<n->i∈met)->K (.tup [.lit (.bool false)]) U)
   |_=>False)
  |_=>False)
 | .clr sz zs,[.win l n o k c]=>(match U[l]? with
  |some (.row fz e s m cs)=>(n=m/\s=sz/\fz=false/\o+k*sz<=cs.length)/\K (.tup []) (U.set l (.row false e sz n (cs.take o++(List.replicate k (zs.map jP)).flatten++cs.drop (o+k*sz))))
  |_=>False)
 | .mks e sz bytes zs,[.lit (.int _ n),.lit (.int _ c)]=>(0<=n/\c=n/\n<=1000000000000/\bytes*n.toNat<=281474976710656)/\K (.row U.length n.toNat) (U++[.row false e sz n.toNat ((List.replicate n.toNat (zs.map jP)).flatten)])
 | .cvt k,[.lit (.int _ n)]=>K (.lit (.int k (k.wrap n))) U
 | .str,[.sl n cs]=>(match vW cs with
  |some xs=>(xs.length=n/\n≠0)/\K (.lit (.string (strOfNums xs))) U
  |none=>False)
 | .str,[.fsl n cs]=>(match vW cs with
  |some xs=>(xs.length=n/\n≠0)/\K (.lit (.string (strOfNums xs))) U
  |none=>False)
 | .ent,[.ptr j 0]=>(match U[j]? with
  |some (.it l n met)=>(match U[l]?,met.getLast? with
   |some (.mp true _ es),some i=>n=es.length/\(match es[i]? with
    |some p=>K (.tup [zBY p.1,p.2]) U
    |none=>False)
   |_,_=>False)
  |_=>False)
 |_,_=>False
def zQe(m:MOp)(xs:wF) (U:St):Option (A×St):=match m,xs with
 | .mk nk,[]=>some (.map U.length,U++[.mp true nk []])
 | .get nk z ok,[.map l,k]=>(match zBd nk k,U[l]? with
  |some ks,some (.mp _ nk' es)=>if nk'=nk then some (uT z ok (bN ks es),U)else none
  |_,_=>none)
 | .set nk,[.map l,k,v]=>(match zBd nk k,U[l]? with
  |some ks,some (.mp fr nk' es)=>if nk'=nk then some (.lit undef,U.set l (.mp fr nk (lS ks v es)))else none
  |_,_=>none)
 | .del nk,[.map l,k]=>(match zBd nk k,U[l]? with
  |some ks,some (.mp _ nk' es)=>if nk'=nk then some (.tup [],U.set l (.mp false nk (zCR ks es)))else none
  |_,_=>none)
 | .clr sz zs,[.win l n o k _]=>(match U[l]? with
  |some (.row fz e s m cs)=>if n=m/\s=sz/\fz=false/\o+k*sz<=cs.length then some (.tup [],U.set l (.row false e sz n (cs.take o++(List.replicate k (zs.map jP)).flatten++cs.drop (o+k*sz))))else none
  |_=>none)
 | .mks e sz bytes zs,[.lit (.int _ n),.lit (.int _ c)]=>if 0<=n/\c=n/\n<=1000000000000/\bytes*n.toNat<=281474976710656 then some (.row U.length n.toNat,U++[.row false e sz n.toNat ((List.replicate n.toNat (zs.map jP)).flatten)])else none
 | .cvt k,[.lit (.int _ n)]=>some (.lit (.int k (k.wrap n)),U)
 | .str,[.sl n cs]=>(match vW cs with
  |some xs=>if xs.length=n/\n≠0 then some (.lit (.string (strOfNums xs)),U)else none
  |none=>none)
 | .str,[.fsl n cs]=>(match vW cs with
  |some xs=>if xs.length=n/\n≠0 then some (.lit (.string (strOfNums xs)),U)else none
  |none=>none)
 |_,_=>none
noncomputable section
open Classical
def dE(neg:Bool)(p:Prop):A:=.lit (.bool (if neg then decide (¬p)else decide p))
def vY(max:Bool):Int->List A->IntKind->Option A
 |m,[],k=>some (.lit (.int k m))
 |m,.lit (.int k' b)::rest,k=>if k'=k then vY max (if max then (if b > m then b else m)else (if b<m then b else m)) rest k else none
 |_,_,_=>none
def jF(env:Env)(dflt:Nat):Option Operand->Option Int
 |none=>some dflt
 |some x=>match ev env x with
  | .lit (.int _ j)=>some j
  |_=>none
def zT7(op:BinOp)(a b:ByteArray):Option (Prop×A):=match op with
 | .add=>some (a.size+b.size<=1000000,.lit (.string (a++b)))
 |_=>none
def zW(env:Env) (U:St):KOp->Option (Prop×A)
 | .mov _ x=>some (True,ev env x)
 | .pick _ c a b=>match ev env c with
  | .lit (.bool t)=>some (True,if t then ev env a else ev env b)
  |_=>none
 | .ld _ x n agg=>((ldA U n (ev env x)).bind (gO agg)).map fun r=>(True,r)
 | .addr _ x off=>match ev env x with
  | .ptr l o=>some (True,.ptr l (o+off))
  | .rptr cs=>some (True,.rptr (cs.drop off))
  | .rwp l n o=>match U[l]? with
   |some (.row _ _ _ m _)=>if n=m then some (True,.rwp l n (o+off))else none
   |_=>none
  |_=>none
 | .idx _ x i sz=>match ev env x,ev env i with
  | .sl n cs,.lit (.int _ j)=>some ((0<=j/\j<n)/\j.toNat*sz<cs.length,.rptr (cs.drop (j.toNat*sz)))
  | .fsl n cs,.lit (.int _ j)=>some ((0<=j/\j<n)/\j.toNat*sz<cs.length,.rptr (cs.drop (j.toNat*sz)))
  | .row l n,.lit (.int _ j)=>match U[l]? with
   |some (.row _ _ s m _)=>if n=m/\s=sz then some (0<=j/\j<n,.rwp l n (j.toNat*sz))else none
   |_=>none
  | .win l n o k _,.lit (.int _ j)=>match U[l]? with
   |some (.row _ _ s m _)=>if n=m/\s=sz then some (0<=j/\j<k,.rwp l n (o+j.toNat*sz))else none
   |_=>none
  |_,_=>none
 | .idxarr _ x i len sz=>match ev env x,ev env i with
  | .ptr l o,.lit (.int _ j)=>some (0<=j/\j<len,.ptr l (o+j.toNat*sz))
  | .rptr cs,.lit (.int _ j)=>some ((0<=j/\j<len)/\j.toNat*sz<cs.length,.rptr (cs.drop (j.toNat*sz)))
  |_,_=>none
 | .fld _ x off n agg=>match ev env x with
  | .agg cs=>((sub cs off n).bind (gO agg)).map fun r=>(True,r)
  |_=>none
 | .ix _ x i len sz agg=>match ev env x,ev env i with
  | .agg cs,.lit (.int _ j)=>((sub cs (j.toNat*sz) sz).bind (gO agg)).map fun r=>(0<=j/\j<len,r)
  |_,_=>none
 | .bin _ op x y=>match ev env x,ev env y with
  | .lit (.int k a),.lit (.int k' b)=>if k=k' then rU op k a b else none
  | .lit (.string a),.lit (.string b)=>zT7 op a b
  |_,_=>none
 | .eqv _ neg k x y=>(fX k (ev env x) (ev env y)).map fun p=>(True,dE neg p)
 | .eqs _ neg ks x y=>match ev env x,ev env y with
  | .agg xs,.agg ys=>(yP ks xs ys).map fun p=>(True,dE neg p)
  |_,_=>none
 | .isn _ neg x=>match ev env x with
  | .nil=>some (True,.lit (.bool !neg))
  | .sl n _=>some (n≠0,.lit (.bool neg))
  | .fsl n _=>some (n≠0,.lit (.bool neg))
  |_=>none
 | .neg _ x=>match ev env x with
  | .lit (.int k a)=>some (True,.lit (.int k (k.wrap (0-a))))
  |_=>none
 | .not _ x=>match ev env x with
  | .lit (.bool b)=>some (True,.lit (.bool !b))
  |_=>none
 | .mm _ max xs=>match xs.map (ev env)with
  | .lit (.int k a)::rest=>(vY max a rest k).map fun r=>(True,r)
  |_=>none
 | .ext _ x i=>match ev env x with
  | .tup vs=>(vs[i]?).map fun r=>(True,r)
  |_=>none
 | .clo _ f first cap=>some (True,.clo f (first.map (ev env)) (cap.map (ev env)))
 | .isp _ neg x=>match ev env x with
  | .lit (.pointer none)=>some (True,.lit (.bool !neg))
  | .rptr _=>some (True,.lit (.bool neg))
  | .ptr _ _=>some (True,.lit (.bool neg))
  |_=>none
 | .mki _ t x=>some (True,match ev env x with
  | .lit v=>.lit (.iface t v)
  |_=>.any)
 | .nilc _ x=>match ev env x with
  | .ptr l o=>some (True,.ptr l o)
  | .rptr cs=>some (True,.rptr cs)
  |_=>none
 | .build _ zero parts=>(fO (zero.map jP) (parts.map fun(o,s,x)=>(o,s,ev env x))).map fun cs=>(True,.agg cs)
 | .len _ false x=>match ev env x with
  | .nil=>some (True,.lit (.int .i64 0))
  | .sl n _=>some (True,.lit (.int .i64 n))
  | .fsl n _=>some (True,.lit (.int .i64 n))
  | .row l n=>match U[l]? with
   |some (.row _ _ _ m _)=>if n=m then some (True,.lit (.int .i64 n))else none
   |_=>none
  | .win l n _ k _=>match U[l]? with
   |some (.row _ _ _ m _)=>if n=m then some (True,.lit (.int .i64 k))else none
   |_=>none
  |_=>none
 | .len _ true x=>match ev env x with
  | .lit (.string s)=>some (True,.lit (.int .i64 s.size))
  |_=>none
 | .rslc _ x sz lo hi=>match ev env x with
  | .row l n=>match U[l]? with
   |some (.row _ _ s m _)=>if n=m/\s=sz then (match jF env 0 lo,jF env n hi with
    |some l',some h=>some (0<=l'/\l'<=h/\h<=n,.win l n (l'.toNat*sz) (h-l').toNat sz)
    |_,_=>none)else none
   |_=>none
  | .win l n o k c=>match U[l]? with
   |some (.row _ _ s m _)=>if n=m/\s=sz then (match jF env 0 lo,jF env k hi with
    |some l',some h=>some ((0<=l'/\l'<=h/\h<=k)/\c=sz,.win l n (o+l'.toNat*sz) (h-l').toNat sz)
    |_,_=>none)else none
   |_=>none
  |_=>none
 | .slc _ x sz lo hi none=>match ev env x with
  | .sl n cs=>match jF env 0 lo,jF env n hi with
   |some l,some h=>some (0<=l/\l<=h/\h<=n,.sl (h-l).toNat ((cs.drop (l.toNat*sz)).take ((h-l).toNat*sz)))
   |_,_=>none
  | .fsl n cs=>match jF env 0 lo,jF env n hi with
   |some l,some h=>some (0<=l/\l<=h/\h<=n,.sl (h-l).toNat ((cs.drop (l.toNat*sz)).take ((h-l).toNat*sz)))
   |_,_=>none
  | .nil=>match jF env 0 lo,jF env 0 hi with
   |some l,some h=>some (l=0/\h=0,.nil)
   |_,_=>none
  |_=>none
 | .slc _ x sz lo (some hi) (some mx)=>match ev env x with
  | .sl n cs=>match jF env 0 lo,jF env n (some hi),jF env n (some mx)with
   |some l,some h,some m=>some ((0<=l/\l<=h/\h<=n)/\m=h,.fsl (h-l).toNat ((cs.drop (l.toNat*sz)).take ((h-l).toNat*sz)))
   |_,_,_=>none
  | .fsl n cs=>match jF env 0 lo,jF env n (some hi),jF env n (some mx)with
   |some l,some h,some m=>some ((0<=l/\l<=h/\h<=n)/\m=h,.fsl (h-l).toNat ((cs.drop (l.toNat*sz)).take ((h-l).toNat*sz)))
   |_,_,_=>none
  | .nil=>match jF env 0 lo,jF env 0 (some hi),jF env 0 (some mx)with
   |some l,some h,some m=>some ((l=0/\h=0)/\m=0,.nil)
   |_,_,_=>none
  |_=>none
 |_=>none
end
end Go.Abs
namespace Go.Proofs.YtolkhapmieigcaaGreatDoor
open Go Go.ChangeShapes Go.WideShapes Go.ChangeAt Go.RowKit Go.Abs
abbrev zCa:List (String×DataW Unit):=[("splicery/eval.numbers",Rows.laid_splicery_eval_numbers)]
def zC7(W:World):Prop:=∀b o v,zOr b o=some v->W.cell? ⟨b,o,none⟩=some v
theorem iY{W:World}(h:laidMetH Tryz.prog zCa W):zC7 W:=by
 obtain⟨g,t,cs,fuel,p,hg,ht,hv,hd⟩:=h.funcs (n := "splicery/eval.numbers") (jAm ..);obtain rfl:=jAy ((show Tryz.prog.globalNamed "splicery/eval.numbers" = some 0 by kernel_rfl).symm.trans hg);obtain rfl:=jAy ((show (Tryz.prog.globals[0]?).map (·.type)=some 289 by kernel_rfl).symm.trans ht);obtain⟨xs,m,_,ex,hcl,hl,hel⟩:=DataW.trod_array (n:=5) (e:=43) Tryz.underlying289 hd;rw[show Tryz.prog.cellsOf 289=5 by kernel_rfl]at hcl;simp only[show Tryz.prog.cellsOf 43=1 by kernel_rfl,Nat.mul_one]at hel;have hc:=fun i=>World.var?_cell hg hv i
 simp only[<-jD0]at hc;generalize cs.toList=l at hc hel hcl hd;obtain⟨v0,l,rfl⟩:=jC8 (by omega:0<l.length);obtain⟨v1,l,rfl⟩:=jC8 (by simp at hcl;omega:0<l.length);obtain⟨v2,l,rfl⟩:=jC8 (by simp at hcl;omega:0<l.length);obtain⟨v3,l,rfl⟩:=jC8 (by simp at hcl;omega:0<l.length);obtain⟨v4,l,rfl⟩:=jC8 (by simp at hcl;omega:0<l.length);obtain rfl:l=[]:=by simpa using hcl
 obtain⟨x0,xs,rfl⟩:=jC8 (by omega:0<xs.length);obtain⟨x1,xs,rfl⟩:=jC8 (by simp at hl;omega:0<xs.length);obtain⟨x2,xs,rfl⟩:=jC8 (by simp at hl;omega:0<xs.length);obtain⟨x3,xs,rfl⟩:=jC8 (by simp at hl;omega:0<xs.length);obtain⟨x4,xs,rfl⟩:=jC8 (by simp at hl;omega:0<xs.length);obtain rfl:xs=[]:=by simpa using hl
 obtain⟨d0,q0⟩:=x0;obtain⟨d1,q1⟩:=x1;obtain⟨d2,q2⟩:=x2;obtain⟨d3,q3⟩:=x3;obtain⟨d4,q4⟩:=x4;have ex:=(Prod.mk.inj ex).1;simp only[Rows.laid_splicery_eval_numbers,DataW.funcsOut,DataW.funcsOutAll,jAd,jBm,DataW.agg.injEq,jBd,and_true]at ex;obtain⟨rfl,rfl,rfl,rfl,rfl⟩:=ex;obtain rfl:=func_of_trod (f0:=255) Tryz.underlying43 (by kernel_rfl) (hel 0 (by omega));obtain rfl:=func_of_trod (f0:=256) Tryz.underlying43 (by kernel_rfl) (hel 1 (by omega));obtain rfl:=func_of_trod (f0:=257) Tryz.underlying43 (by kernel_rfl) (hel 2 (by omega));obtain rfl:=func_of_trod (f0:=258) Tryz.underlying43 (by kernel_rfl) (hel 3 (by omega));obtain rfl:=func_of_trod (f0:=259) Tryz.underlying43 (by kernel_rfl) (hel 4 (by omega));intro b o v hb;unfold zOr at hb;by_cases hb0:b=0
 .subst hb0;rw[hc];exact hb
 .rw[show zOq.lookup b=none by simp[zOq,List.lookup,beq_eq_false_iff_ne.2 hb0]]at hb;cases hb
end Go.Proofs.YtolkhapmieigcaaGreatDoor
namespace Go.Abs
section
variable{P:Program}{H:Mem}{L:wO} {U:St}{w:World}{N:Nat}{env:Env}{a:Act}
theorem zGi(v:Value):Rel H L (jP v) v:=by unfold jP;split<;>simp[Rel]
theorem dB:∀(vs:wM),qE H L (vs.map jP) vs
 |[]=>jR
 |v::vs=>qN (zGi v) (dB vs)
theorem xC(v:Value):Rel H L (zAk v) v:=by
 unfold zAk;split
 .rename_i cs;split
  .rename_i h;simp only[Rel];exact⟨cs.toList,by simp,dB _,fun u hu=>by simp only[aY,jB3]at h;exact h u hu⟩
  .simp[Rel]
 .exact zGi v
theorem zNk(v:Value):Rel H L (zJl v) v:=by
 unfold zJl;split
 .simp only[Rel];exact⟨[],[],rfl,jR,jR⟩
 .simp[Rel]
theorem zEn:∀vs:wM,qE H L (vs.map zJl) vs
 |[]=>jR
 |v::vs=>qN (zNk v) (zEn vs)
theorem qR(he:qL H L N env a.tmps)(x:Operand):Rel H L (ev env x) (a.eval x):=by
 cases x with
 |tmp t=>exact he.2 t
 |const v=>exact xC v
 |global g =>
  simp only[ev];split
  .rename_i vs hvs;split
   .rename_i hone;simp only[Rel];refine⟨g,0,vs,rfl,zEn vs,fun u hu=>by simp only[jB3]at hone;exact hone u hu,fun i u hi=>?_⟩;rw[jB1];exact H.2 g i u (by simp only[zOr,hvs];exact hi)
   .simp[Rel]
  .simp[Rel]
 |func f=>simp only[ev,Rel,Act.eval];exact⟨[],[],rfl,jR,jR⟩
theorem zV7{cs:Array Value}(h:one (.agg cs)):False:=by simp[one,Value.oneCell']at h
variable{v:Value}
theorem zIB(h:one v):v.cells.toList=[v]:=by cases v<;>first|rfl|(exact(zV7 h).elim)
variable{cs:wF}
theorem xB{x:A}(h:Rel H L x v)(hc:cellsOf x=some cs):qE H L cs v.cells.toList/\∀u∈v.cells.toList,one u:=by
 have sing:∀{x:A} {v:Value},Rel H L x v->one v->some [x]=some cs->qE H L cs v.cells.toList/\∀u∈v.cells.toList,one u:=by intro x v hx ho hs;rw[zIB ho];cases hs;exact⟨qN hx jR,by simpa using ho⟩
 cases x<;>simp only[cellsOf]at hc<;>try(cases hc;done)
 case nil=>exact sing h (by simp only[Rel]at h;subst h;rfl) hc
 case lit u =>
  split at hc
  .rename_i ho;exact sing h (by simp only[Rel]at h;subst h;exact ho) hc
  .cases hc
 case agg ds =>
  simp only[jA3]at hc;subst hc;simp only[Rel]at h;obtain⟨vs,rfl,h1,h2⟩:=h
  simpa[Value.cells]using ⟨h1,h2⟩
 case sl n ds=>exact sing h (by simp only[Rel]at h;obtain⟨_,_,rfl,_⟩:=h;rfl) hc
 case fsl n ds=>exact sing h (by simp only[Rel]at h;obtain⟨_,rfl,_⟩:=h;rfl) hc
 case ptr l o=>exact sing h (by simp only[Rel]at h;obtain⟨_,_,_,_,_,rfl⟩:=h;rfl) hc
 case rptr ds=>exact sing h (by simp only[Rel]at h;obtain⟨_,_,_,rfl,_⟩:=h;rfl) hc
 case row l n=>exact sing h (by simp only[Rel]at h;exact h.1) hc
 case rwp l n o=>exact sing h (by simp only[Rel]at h;exact h.1) hc
 case win l n o k c=>exact sing h (by simp only[Rel]at h;exact h.1) hc
 case map l=>exact sing h (by simp only[Rel]at h;obtain⟨_,_,_,_,_,rfl⟩:=h;rfl) hc
 case clo f fs cs'=>exact sing h (by simp only[Rel]at h;obtain⟨_,_,rfl,_⟩:=h;rfl) hc
variable{t:TypeId}{u:TypeDesc}
theorem oG(hu:P.underlying t=some u):(isAgg t).run P w=.ok (zB5 u) w:=by unfold isAgg;rw[Sem.run_bind,run_underlying hu,Result.andThen_ok];cases u<;>rfl
variable{i:TypeInfo}
theorem yM(hi:P.info? t=some i):(sizeOf t).run P w=.ok i.size w:=by simp[sizeOf,typeInfo,hi]
theorem zEr(hu:P.underlying t=some u)(hi:P.info? t=some i){b o:Nat}{us:wM}
 (hc:∀j v,us[j]?=some v->w.cell? ⟨b,o+j,none⟩=some v)(hl:us.length=i.size){r:A}(hr:qE H L cs us)(h1:∀u∈us,one u)
 (hp:gO (zB5 u) cs=some r):∃v,(loadVar t ⟨b,o,none⟩).run P w=.ok v w/\Rel H L r v:=by
 unfold loadVar;rw[Sem.run_bind,oG hu,Result.andThen_ok];cases hag:zB5 u with
 |true =>
  rw[hag]at hp;simp only[gO,jA3]at hp;subst hp;refine⟨.agg us.toArray,?_,?_⟩
  .simp only[if_true,Sem.run_bind,yM hi,Result.andThen_ok,<-hl];rw[run_loadCells_list w ⟨b,o,none⟩ us (fun j v hv=>by rw[Addr.add_lit];exact hc j v hv)];rfl
  .simp only[Rel];exact⟨us,rfl,hr,h1⟩
 |false =>
  rw[hag]at hp;cases cs with
  |nil=>simp[gO]at hp
  |cons c cs =>
   cases cs with
   |cons c' cs=>simp[gO]at hp
   |nil =>
    simp only[gO,jA3]at hp;subst hp;obtain⟨u',us',rfl,h2,h3⟩:=z8 hr;have h4:=jL h3;subst h4;refine⟨u',?_,h2⟩;have:=hc 0 u' (by simp);simp only[jCj]at this;simp[this]
theorem zEF{cs':wF}{us:wM}{off n:Nat}(h:sub cs off n=some cs')(hr:qE H L cs us) :
 qE H L cs' ((us.drop off).take n)/\((us.drop off).take n).length=n:=by
 unfold sub at h;split at h
 .cases h;refine⟨(hr.drop off).take n,?_⟩;have:=hr.length;simp only[jAv,jCk];omega
 .cases h
theorem mF{α:Type}{us:List α}{off n j:Nat}{v : α}(h:((us.drop off).take n)[j]?=some v):us[off+j]?=some v:=by
 rw[jBg]at h;split at h
 .rwa[jCt]at h
 .cases h
theorem dL{α:Type}{us:List α}{off n:Nat}{p : α->Prop}(h:∀u∈us,p u):∀u∈(us.drop off).take n,p u :=
 fun u hu=>h u (jC1 (jBu hu))
theorem zHK(hs:RelSt H L U w){x:A}{n:Nat}(hx:Rel H L x v)(hl:ldA U n x=some cs) :
 ∃b o,∃us:wM,v=.pointer (some ⟨b,o,none⟩)/\qE H L cs us/\us.length=n/\(∀u∈us,one u)/\∀j u,us[j]?=some u->w.cell? ⟨b,o+j,none⟩=some u:=by
 cases x<;>simp only[ldA]at hl<;>try(cases hl;done)
 case rptr ds =>
  simp only[Rel]at hx;obtain⟨b,o,us,rfl,h1,h2,h3⟩:=hx;obtain⟨h4,h5⟩:=zEF hl h1;refine⟨b,o,_,rfl,h4,h5,dL h2,fun j u hu=>?_⟩;have:=mF hu;simp only[jB1]at this;exact hs.pers _ _ _ (h3 j u this)
 case ptr l off =>
  simp only[Rel]at hx;obtain⟨li,b,e1,e2,e3,rfl⟩:=hx;split at hl<;>try(cases hl;done)
  rename_i ds hds;have ho:=hs.obj l li _ e1 hds;simp only[qB]at ho;obtain⟨_,b',vs,e,hb',hh,hr,h1,_⟩:=ho;rw[e2]at hb';cases hb';obtain⟨h4,h5⟩:=zEF hl hr;refine⟨b,off,_,rfl,h4,h5,dL h1,fun j u hu=>?_⟩;rw[cell_of_row w b _ _ _ _ hh]
  simpa using mF hu
 case rwp l m off =>
  simp only[Rel]at hx;obtain⟨_,li,e1,e2,e3,e4⟩:=hx;split at hl<;>try(cases hl;done)
  rename_i fz e sz k ds hds;split at hl<;>try(cases hl;done)
  rename_i hk;subst hk;have ho:=hs.obj l li _ e1 hds;simp only[qB]at ho;obtain⟨_,hlen,_,ho⟩:=ho;obtain⟨b,hb,rfl⟩:=e4 hlen.symm;rcases ho with ⟨h0,_⟩|⟨b',cur,hb',hh,_,_,_,hr,h1,_⟩
  .rw[hb]at h0;cases h0
  .rw[hb]at hb';cases hb';obtain⟨h4,h5⟩:=zEF hl hr;refine⟨b,off,_,rfl,h4,h5,dL h1,fun j u hu=>?_⟩;rw[cell_of_row w b _ _ _ _ hh];have:=mF hu;rw[jBg]at this;split at this
   .simpa using this
   .cases this
end
end Go.Abs
namespace Go.Abs
section
variable{P:Program}{H:Mem}{L:wO} {U:St}{w:World}{N:Nat}{env:Env}{a:Act}
def bE(P:Program)(H:Mem)(L:wO)(w:World)(a:Act)(o:Oper)(r:A):Prop :=
 ∃v,(execOp a.eval o).run P w=.ok (.value v) w/\Rel H L r v
theorem qS{s:Sem Value}{v:Value}{w':World}(h:s.run P w=.ok v w'):(do pure (Next.value (<-s)):Sem Next).run P w=.ok (.value v) w':=by simp[h]
variable{o:Oper}{t:TypeId}{x:Operand}{u:TypeDesc}{i:TypeInfo}{r:A}
theorem zSx(ho:o.op=.load t x)(hu:P.underlying t=some u)(hi:P.info? t=some i)
 (he:qL H L N env a.tmps)(hs:RelSt H L U w)(h:((ldA U i.size (ev env x)).bind (gO (zB5 u)))=some r):bE P H L w a o r:=by
 rw[jAa]at h;obtain⟨cs,h1,h2⟩:=h;obtain⟨b,off,us,hv,hr,hl,ho1,hc⟩:=zHK hs (qR he x) h1;obtain⟨v,hrun,hrel⟩:=zEr (w:=w) hu hi hc hl hr ho1 h2;refine⟨v,?_,hrel⟩;unfold execOp;simp only[ho];exact qS (by simp[Instr.loadAt,hv,Instr.sureAddr,hrun])
theorem zHC(ho:o.op=.move x\/o.op=.assign x)(he:qL H L N env a.tmps):bE P H L w a o (ev env x):=by refine⟨a.eval x,?_,qR he x⟩;unfold execOp;rcases ho with ho|ho<;>simp[ho]
variable{y:Operand}
theorem zMD{c:Operand}{t:Bool}(ho:o.op=.pick c x y)(he:qL H L N env a.tmps)(hc:ev env c=.lit (.bool t)) :
 bE P H L w a o (if t then ev env x else ev env y):=by
 have h:=qR he c;rw[hc]at h;simp only[Rel]at h;refine⟨if t then a.eval x else a.eval y,?_,?_⟩
 .unfold execOp;simp[ho,h,asBool]
 .cases t
  .exact qR he y
  .exact qR he x
variable{fs:Array Field}
theorem zMA{s:TypeId}{f:Nat}{g:Field}(ho:o.op=.fieldAddr s x f)
 (hu:P.underlying s=some (.struct fs))(hg:fs[f]?=some g)(hi:P.info? g.type=some i)(h0:i.size≠0)(he:qL H L N env a.tmps)(hs:RelSt H L U w){p:Prop}
 (h:zW env U (.addr o.dst x g.offset)=some (p,r)):bE P H L w a o r:=by
 have hx:=qR he x;have fin:∀b off,a.eval x=.pointer (some ⟨b,off,none⟩)->Rel H L r (.pointer (some ⟨b,off+g.offset,none⟩))->bE P H L w a o r:=by intro b off hv hr;refine⟨_,?_,hr⟩;unfold execOp;simp only[ho];refine qS ?_;simp[Instr.fieldAt,run_underlying hu,hg,hv,Instr.sureAddr,fieldPlace,yM hi,h0,Addr.add_lit]
 simp only[zW]at h;split at h<;>try(cases h;done)
 .rename_i l off hxe;cases h;rw[hxe]at hx;simp only[Rel]at hx;obtain⟨li,b,e1,e2,e3,hv⟩:=hx;exact fin b off hv (by simp only[Rel];exact⟨li,b,e1,e2,e3,rfl⟩)
 .rename_i cs hxe;cases h;rw[hxe]at hx;simp only[Rel]at hx;obtain⟨b,off,us,hv,h1,h2,h3⟩:=hx;exact fin b off hv (by simp only[Rel];exact⟨b,off+g.offset,us.drop g.offset,rfl,h1.drop _,fun u hu=>h2 u (jC1 hu),h3.drop _⟩)
 .rename_i l n off hxe;rw[hxe]at hx;simp only[Rel]at hx;obtain⟨ho1,li,e1,e2,e3,hv⟩:=hx;split at h<;>try(cases h;done)
  rename_i fz e sz m ds hds;split at h<;>try(cases h;done)
  rename_i hn;cases h;have hob:=hs.obj l li _ e1 hds;simp only[qB]at hob;obtain⟨b,hb,hv⟩:=hv (by rw[hn,hob.2.1]);exact fin b off hv (by simp only[Rel];exact⟨rfl,li,e1,e2,e3,fun _=>⟨b,hb,rfl⟩⟩)
theorem pA(k:IntKind)(j:Int):(asIntOf (.int k j)).run P w=.ok (k,j) w:=rfl
variable{e:TypeId}{ti:TypeInfo}
theorem zPA{i:Operand}(ho:o.op=.indexAddr t x i)
 (hu:P.underlying t=some (.slice e))(hi:P.info? e=some ti)(he:qL H L N env a.tmps)(hs:RelSt H L U w){p:Prop}
 (h:zW env U (.idx o.dst x i ti.size)=some (p,r))(hp:p):bE P H L w a o r:=by
 have hx:=qR he x;have hy:=qR he i;have fin:∀b off n cap (k:IntKind) (j:Int),a.eval x=.slice (some ⟨b,off,none⟩) n cap->a.eval i=.int k j->0<=j->j<n ->
  Rel H L r (.pointer (some ⟨b,off+j.toNat*ti.size,none⟩))->bE P H L w a o r:=by
  intro b off n cap k j hv hj h0 h1 hr;refine⟨_,?_,hr⟩;unfold execOp;simp only[ho];refine qS ?_;simp[Instr.indexAt,run_underlying hu,hv,hj,pA,yM hi,Addr.add_lit,h0,h1]
 simp only[zW]at h;split at h<;>try(cases h;done)
 .rename_i n cs k j hxe hye;cases h;rw[hxe]at hx;rw[hye]at hy;simp only[Rel]at hx hy;obtain⟨ad,cap,hv,h1,h2,h3⟩:=hx;obtain⟨⟨h4,h5⟩,h6⟩:=hp;rcases h3 with ⟨rfl,rfl⟩|⟨b,off,us,rfl,g1,g2,g3⟩
  .simp at h6
  .exact fin b off n cap k j hv hy h4 h5 (by simp only[Rel];exact⟨b,_,us.drop _,rfl,g1.drop _,fun u hu=>g2 u (jC1 hu),g3.drop _⟩)
 .rename_i n cs k j hxe hye;cases h;rw[hxe]at hx;rw[hye]at hy;simp only[Rel]at hx hy;obtain⟨ad,hv,h2,h3⟩:=hx;obtain⟨⟨h4,h5⟩,h6⟩:=hp;rcases h3 with ⟨rfl,rfl⟩|⟨b,off,us,rfl,g1,g2,g3⟩
  .simp at h6
  .exact fin b off n n k j hv hy h4 h5 (by simp only[Rel];exact⟨b,_,us.drop _,rfl,g1.drop _,fun u hu=>g2 u (jC1 hu),g3.drop _⟩)
 .rename_i l n k j hxe hye;split at h<;>try(cases h;done)
  rename_i fz e' sz m ds hds;split at h<;>try(cases h;done)
  rename_i hn;obtain⟨hn,rfl⟩:=hn;cases h;rw[hxe]at hx;rw[hye]at hy;simp only[Rel]at hx hy;obtain⟨ho1,li,e1,e2,e3,hv⟩:=hx;have hob:=hs.obj l li _ e1 hds;simp only[qB]at hob;obtain⟨_,hlen,_,hob⟩:=hob;have hv:=hv (by rw[hn,hlen]);rcases hob with ⟨_,h0⟩|⟨b,cur,hb,_⟩
  .exfalso;have:=hp.1;have:=hp.2;omega
  .rw[hb]at hv;simp only at hv;have:=fin b 0 n li.cap k j hv hy hp.1 hp.2 (by simp only[Rel];exact⟨rfl,li,e1,e2,e3,fun _=>⟨b,hb,by simp⟩⟩);exact this
 .rename_i l n off k' _ k j hxe hye;split at h<;>try(cases h;done)
  rename_i fz e' sz m ds hds;split at h<;>try(cases h;done)
  rename_i hn;obtain⟨hn,rfl⟩:=hn;cases h;rw[hxe]at hx;rw[hye]at hy;simp only[Rel]at hx hy;obtain⟨ho1,li,e1,e2,e3,hv⟩:=hx;have hob:=hs.obj l li _ e1 hds;simp only[qB]at hob;obtain⟨_,hlen,_,hob⟩:=hob;obtain⟨_,ad,cap,hv,_,_,g3⟩:=hv (by rw[hn,hlen]);rcases g3 with g3|⟨b,hb,rfl,_⟩
  .exfalso;have:=hp.1;have:=hp.2;omega
  .exact fin b off k' cap k j hv hy hp.1 hp.2 (by simp only[Rel];exact⟨rfl,li,e1,e2,e3,fun _=>⟨b,hb,rfl⟩⟩)
theorem zIO{i:Operand}{n:Nat}(ho:o.op=.indexAddr t x i)
 (hu:P.underlying t=some (.array n e))(hi:P.info? e=some ti)(he:qL H L N env a.tmps){p:Prop}
 (h:zW env U (.idxarr o.dst x i n ti.size)=some (p,r))(hp:p):bE P H L w a o r:=by
 have hx:=qR he x;have hy:=qR he i;simp only[zW]at h;split at h<;>try(cases h;done)
 rotate_left
 .rename_i cs k j hxe hye;cases h;rw[hxe]at hx;rw[hye]at hy;simp only[Rel]at hx hy;obtain⟨b,off,us,hv,g1,g2,g3⟩:=hx;refine⟨.pointer (some ⟨b,off+j.toNat*ti.size,none⟩),?_,by simp only[Rel];exact⟨b,_,_,rfl,g1.drop _,fun u hu=>g2 u (jC1 hu),g3.drop _⟩⟩;unfold execOp;simp only[ho];refine qS ?_;simp[Instr.indexAt,Instr.sureAddr,run_underlying hu,hv,hy,pA,yM hi,Addr.add_lit,hp.1.1,hp.1.2]
 rename_i l off k j hxe hye;cases h;rw[hxe]at hx;rw[hye]at hy;simp only[Rel]at hx hy;obtain⟨li,b,e1,e2,e3,hv⟩:=hx;refine⟨.pointer (some ⟨b,off+j.toNat*ti.size,none⟩),?_,by simp only[Rel];exact⟨li,b,e1,e2,e3,rfl⟩⟩;unfold execOp;simp only[ho];refine qS ?_;simp[Instr.indexAt,Instr.sureAddr,run_underlying hu,hv,hy,pA,yM hi,Addr.add_lit,hp.1,hp.2]
theorem zLo(hu:P.underlying t=some u)(hi:P.info? t=some i){vs:wM}{cs:wF}(hr:qE H L cs vs)(h1:∀x∈vs,one x)
 {off:Nat}(h:(sub cs off i.size).bind (gO (zB5 u))=some r):∃v,(part t vs.toArray off).run P w=.ok v w/\Rel H L r v:=by
 rw[jAa]at h;obtain⟨ds,g1,g2⟩:=h;obtain⟨g3,g4⟩:=zEF g1 hr;unfold part;rw[Sem.run_bind,oG hu,Result.andThen_ok];cases hag:zB5 u with
 |true =>
  rw[hag]at g2;simp only[gO,jA3]at g2;subst g2;refine⟨.agg ((vs.drop off).take i.size).toArray,?_,by simp only[Rel];exact⟨_,rfl,g3,dL h1⟩⟩;simp only[if_true,Sem.run_bind,yM hi,Result.andThen_ok,Sem.run_pure]
  congr 2
  apply jC9;simp[List.extract_eq_take_drop]
 |false =>
  rw[hag]at g2;cases ds with
  |nil=>simp[gO]at g2
  |cons c ds =>
   cases ds with
   |cons c' ds=>simp[gO]at g2
   |nil =>
    simp only[gO,jA3]at g2;subst g2;obtain⟨v,us,e,k1,k2⟩:=z8 g3;have hv:vs[off]?=some v:=by
     have:((vs.drop off).take i.size)[0]?=some v:=by rw[e];rfl
     simpa using mF this
    refine⟨v,?_,k1⟩;simp[hv]
theorem zP9{f:Nat}{g:Field}(ho:o.op=.field t x f)
 (hut:P.underlying t=some (.struct fs))(hg:fs[f]?=some g)(hu:P.underlying g.type=some u)(hi:P.info? g.type=some i)(he:qL H L N env a.tmps){p:Prop}
 (h:zW env U (.fld o.dst x g.offset i.size (zB5 u))=some (p,r)):bE P H L w a o r:=by
 have hx:=qR he x;simp only[zW]at h;split at h<;>try(cases h;done)
 rename_i cs hxe;rw[hxe]at hx;simp only[Rel]at hx;obtain⟨vs,hv,h1,h2⟩:=hx;simp only[jAf,jBh]at h;obtain⟨r',h3,_,rfl⟩:=h;obtain⟨v,hrun,hrel⟩:=zLo (w:=w) hu hi h1 h2 h3;refine⟨v,?_,hrel⟩;unfold execOp;simp only[ho];refine qS ?_;simp[Instr.field,run_underlying hut,hg,hv,asAgg,hrun]
theorem zSw{n:Nat}(ho:o.op=.index t x y)
 (hut:P.underlying t=some (.array n e))(hu:P.underlying e=some u)(hi:P.info? e=some i)(he:qL H L N env a.tmps){p:Prop}
 (h:zW env U (.ix o.dst x y n i.size (zB5 u))=some (p,r))(hp:p):bE P H L w a o r:=by
 have hx:=qR he x;have hy:=qR he y;simp only[zW]at h;split at h<;>try(cases h;done)
 rename_i cs k j hxe hye;rw[hxe]at hx;rw[hye]at hy;simp only[Rel]at hx hy;obtain⟨vs,hv,h1,h2⟩:=hx;simp only[jAf,jBh]at h;obtain⟨r',h3,rfl,rfl⟩:=h;obtain⟨v,hrun,hrel⟩:=zLo (w:=w) hu hi h1 h2 h3;refine⟨v,?_,hrel⟩;unfold execOp;simp only[ho];refine qS ?_;simp[Instr.index,run_underlying hut,hv,hy,pA,hp.1,hp.2,yM hi,hrun]
theorem zDQ(op:BinOp)(t:TypeId)(x y:Operand)(k k':IntKind)(m n:Int):(eqGuard op t x y (.int k m) (.int k' n)).run P w=.ok () w:=by unfold eqGuard;cases op<;>rfl
theorem zP6{op:BinOp}{t':TypeId}(ho:o.op=.binOp op t x y t')(he:qL H L N env a.tmps){p:Prop}
 (h:zW env U (.bin o.dst op x y)=some (p,r))(hp:p):bE P H L w a o r:=by
 have hx:=qR he x;have hy:=qR he y;simp only[zW]at h;split at h<;>try(cases h;done)
 case h_2 sa sb hxe hye =>
  rw[hxe]at hx;rw[hye]at hy;simp only[Rel]at hx hy;cases op<;>simp only[zT7]at h<;>try(cases h;done)
  simp only[jA3,jBh]at h;obtain⟨rfl,rfl⟩:=h;refine⟨.string (sa++sb),?_,by simp[Rel]⟩;unfold execOp;simp only[ho];refine qS ?_;have e2:IntKind.i64.max=9223372036854775807:=by decide
  have hle:¬((sa.size+sb.size:Nat):Int) > IntKind.i64.max:=by rw[e2];omega
  rw[hx,hy];simp only[eqGuard,binOp,Op.stringOp];rw[if_neg hle];rfl
 rename_i k m k' n hxe hye;split at h<;>try(cases h;done)
 rename_i hk;subst hk;rw[hxe]at hx;rw[hye]at hy;simp only[Rel]at hx hy;have fin:∀v,(binOp op t (.int k m) (.int k n)).run P w=.ok v w->Rel H L r v->bE P H L w a o r:=by intro v hr hrel;refine⟨v,?_,hrel⟩;unfold execOp;simp only[ho];refine qS ?_;rw[Sem.run_bind,hx,hy,zDQ,Result.andThen_ok,hr]
 cases op<;>simp only[rU]at h<;>try(cases h;done)
 all_goals (simp only[jA3,jBh]at h;obtain⟨hpp,hrr⟩:=h;subst hrr;subst hpp)
 case h_1.isTrue.add=>exact fin (.int k (k.wrap (m+n))) (by simp[binOp,Op.intArith]) (by simp[Rel])
 case h_1.isTrue.sub=>exact fin (.int k (k.wrap (m-n))) (by simp[binOp,Op.intArith]) (by simp[Rel])
 case h_1.isTrue.mul=>exact fin (.int k (k.wrap (m*n))) (by simp[binOp,Op.intArith]) (by simp[Rel])
 case h_1.isTrue.quo=>exact fin (.int k (k.wrap (m.tdiv n))) (by simp[binOp,Op.intDiv,hp]) (by simp[Rel])
 case h_1.isTrue.rem=>exact fin (.int k (m.tmod n)) (by simp[binOp,Op.intDiv,hp]) (by simp[Rel])
 case h_1.isTrue.lss=>exact fin (.bool (decide (m<n))) (by simp[binOp,Op.intCmp]) (by simp[Rel])
 case h_1.isTrue.leq=>exact fin (.bool (decide (m<=n))) (by simp[binOp,Op.intCmp]) (by simp[Rel])
 case h_1.isTrue.gtr=>exact fin (.bool (decide (n<m))) (by simp[binOp,Op.intCmp]) (by simp[Rel])
 case h_1.isTrue.geq=>exact fin (.bool (decide (n<=m))) (by simp[binOp,Op.intCmp]) (by simp[Rel])
theorem zPC(ho:o.op=.makeInterface t x)(hu:P.underlying t=some u)(hn:∀ms,u≠.interface ms)(he:qL H L N env a.tmps){p:Prop}
 (h:zW env U (.mki o.dst t x)=some (p,r)):bE P H L w a o r:=by
 have hx:=qR he x;simp only[zW,jA3,jBh]at h;obtain⟨_,rfl⟩:=h;refine⟨.iface t (a.eval x),?_,?_⟩
 .unfold execOp;simp only[ho];refine qS ?_;simp only[Instr.makeInterface,Sem.run_bind,run_underlying hu,Result.andThen_ok];cases u<;>first|rfl|exact(hn _ rfl).elim
 .split
  .rename_i v hv;rw[hv]at hx;simp only[Rel]at hx;simp[Rel,hx]
  .simp[Rel]
theorem zPD(ho:o.op=.unOp .neg t x)(he:qL H L N env a.tmps){p:Prop}
 (h:zW env U (.neg o.dst x)=some (p,r)):bE P H L w a o r:=by
 have hx:=qR he x;simp only[zW]at h;split at h<;>try(cases h;done)
 rename_i k m hxe;cases h;rw[hxe]at hx;simp only[Rel]at hx;refine⟨.int k (k.wrap (0-m)),?_,by simp[Rel]⟩;unfold execOp;simp[ho,hx,Op.unary,Op.intArith]
theorem zPE(ho:o.op=.unOp .not t x)(he:qL H L N env a.tmps){p:Prop}
 (h:zW env U (.not o.dst x)=some (p,r)):bE P H L w a o r:=by
 have hx:=qR he x;simp only[zW]at h;split at h<;>try(cases h;done)
 rename_i b hxe;cases h;rw[hxe]at hx;simp only[Rel]at hx;refine⟨.bool !b,?_,by simp[Rel]⟩;unfold execOp;simp[ho,hx,Op.unary]
theorem zP8{i:Nat}(ho:o.op=.extract x i)(he:qL H L N env a.tmps){p:Prop}
 (h:zW env U (.ext o.dst x i)=some (p,r)):bE P H L w a o r:=by
 have hx:=qR he x;simp only[zW]at h;split at h<;>try(cases h;done)
 rename_i cs hxe;rw[hxe]at hx;simp only[Rel]at hx;obtain⟨vs,hv,h1⟩:=hx;simp only[jAf,jBh]at h;obtain⟨r',h3,_,rfl⟩:=h;obtain⟨v,hg,hrel⟩:=h1.get h3;refine⟨v,?_,hrel⟩;unfold execOp;simp[ho,hv,Instr.extract,hg]
theorem zMC(ho:o.op=.nilCheck x)(he:qL H L N env a.tmps){p:Prop}
 (h:zW env U (.nilc o.dst x)=some (p,r)):bE P H L w a o r:=by
 have hx:=qR he x;simp only[zW]at h;split at h<;>try(cases h;done)
 all_goals
  rename_i hxe;cases h;rw[hxe]at hx;have hx':=hx;simp only[Rel]at hx'
 .obtain⟨li,b,_,_,_,hv⟩:=hx';refine⟨_,?_,hx⟩;unfold execOp;simp only[ho,hv];rfl
 .obtain⟨b,o',us,hv,_⟩:=hx';refine⟨_,?_,hx⟩;unfold execOp;simp only[ho,hv];rfl
theorem zAl(he:qL H L N env a.tmps):∀(xs:List Operand),qE H L (xs.map (ev env)) (xs.map a.eval)
 |[]=>jR
 |x::xs=>qN (qR he x) (zAl he xs)
theorem zP7{f:FuncId}{first cap:Array Operand}(ho:o.op=.makeFunc (.func f) first cap)(he:qL H L N env a.tmps) :
 bE P H L w a o (.clo f (first.toList.map (ev env)) (cap.toList.map (ev env))):=by
 refine⟨.func (.func f) (first.map a.eval) (cap.map a.eval),?_,?_⟩
 .unfold execOp;simp[ho,Instr.makeFunc]
 .simp only[Rel];refine⟨first.toList.map a.eval,cap.toList.map a.eval,?_,zAl he _,zAl he _⟩
  congr 1<;>exact jC9 (by simp)
variable{c:Call}
theorem zPB(ho:o.op=.call c)(hc:c.callee=.builtin .len)(ha:c.args.toList=[x])(ht:c.argTypes[0]?=some t)
 (hu:P.underlying t=some (.slice e))(he:qL H L N env a.tmps)(hs:RelSt H L U w){p:Prop}
 (h:zW env U (.len o.dst false x)=some (p,r)):bE P H L w a o r:=by
 have hx:=qR he x;have ha':c.args = #[x]:=by cases hh:c.args;simp_all
 have fin:∀(n:Nat) ad cap,a.eval x=.slice ad n cap->r=.lit (.int .i64 n)->bE P H L w a o r:=by rintro n ad cap hv rfl;refine⟨.int .i64 n,?_,by simp[Rel]⟩;unfold execOp;simp[ho,resolve,hc,invoke,builtin,ha',hv,Builtin.len_,ht,run_underlying hu,goInt]
 simp only[zW]at h;split at h<;>try(cases h;done)
 .rename_i hxe;rw[hxe]at hx;simp only[Rel]at hx;cases h;exact fin 0 _ _ hx rfl
 .rename_i n cs hxe;rw[hxe]at hx;simp only[Rel]at hx;obtain⟨ad,cap,hv,_⟩:=hx;cases h;exact fin n _ _ hv rfl
 .rename_i n cs hxe;rw[hxe]at hx;simp only[Rel]at hx;obtain⟨ad,hv,_⟩:=hx;cases h;exact fin n _ _ hv rfl
 .rename_i l n hxe;rw[hxe]at hx;simp only[Rel]at hx;split at h<;>try(cases h;done)
  rename_i fz e' sz m ds hds;split at h<;>try(cases h;done)
  rename_i hn;cases h;obtain⟨_,li,e1,e2,e3,hv⟩:=hx;have hob:=hs.obj l li _ e1 hds;simp only[qB]at hob;have hv:=hv (by rw[hn,hob.2.1]);cases hb:li.block with
  |none =>
   rw[hb]at hv;rcases hob.2.2.2 with ⟨_,h0⟩|⟨b,cur,hb',_⟩
   .subst hn;subst h0;exact fin _ _ _ hv rfl
   .rw[hb]at hb';cases hb'
  |some b=>rw[hb]at hv;exact fin _ _ _ hv rfl
 .rename_i l n off k' _ hxe;rw[hxe]at hx;simp only[Rel]at hx;split at h<;>try(cases h;done)
  rename_i fz e' sz m ds hds;split at h<;>try(cases h;done)
  rename_i hn;cases h;obtain⟨_,li,e1,e2,e3,hv⟩:=hx;have hob:=hs.obj l li _ e1 hds;simp only[qB]at hob;obtain⟨_,ad,cap,hv,_⟩:=hv (by rw[hn,hob.2.1]);exact fin _ _ _ hv rfl
theorem zMB(ho:o.op=.call c)(hc:c.callee=.builtin .len)(ha:c.args.toList=[x])(ht:c.argTypes[0]?=some t)
 (hu:P.underlying t=some .string)(he:qL H L N env a.tmps){p:Prop}
 (h:zW env U (.len o.dst true x)=some (p,r)):bE P H L w a o r:=by
 have hx:=qR he x;have ha':c.args = #[x]:=by cases hh:c.args;simp_all
 simp only[zW]at h;split at h<;>try(cases h;done)
 rename_i s hxe;rw[hxe]at hx;simp only[Rel]at hx;cases h;refine⟨.int .i64 s.size,?_,by simp[Rel]⟩;unfold execOp;simp[ho,resolve,hc,invoke,builtin,ha',hx,Builtin.len_,ht,run_underlying hu,goInt]
theorem zFI(mx:Bool):∀(xs:wF) (vs:wM) (k:IntKind) (m:Int) (r:A),qE H L xs vs->vY mx m xs k=some r ->
 ∃v,(vs.foldlM (if mx then Builtin.max2 else Builtin.min2) (.int k m)).run P w=.ok v w/\Rel H L r v
 |[],vs,k,m,r,hr,h=>by have:=jL hr;subst this;simp only[vY,jA3]at h;subst h;exact⟨.int k m,by simp,by simp[Rel]⟩
 |x::xs,vs,k,m,r,hr,h=>by
  obtain⟨u,us,rfl,h1,h2⟩:=z8 hr;unfold vY at h;split at h<;>try(cases h;done)
  .rename_i heq;cases heq
  .rename_i k' b rest heq;cases heq;split at h<;>try(cases h;done)
   rename_i hk;subst hk;simp only[Rel]at h1;subst h1;obtain⟨v,hrun,hrel⟩:=zFI mx xs us k' _ r h2 h;refine⟨v,?_,hrel⟩;rw[List.foldlM_cons,Sem.run_bind];cases mx
   .simpa[Builtin.min2]using hrun
   .simpa[Builtin.max2]using hrun
theorem zKx{mx:Bool}(ho:o.op=.call c)(hc:c.callee=.builtin (if mx then .max else .min))(he:qL H L N env a.tmps){p:Prop}
 (h:zW env U (.mm o.dst mx c.args.toList)=some (p,r)):bE P H L w a o r:=by
 have hx:=zAl he c.args.toList;simp only[zW]at h;split at h<;>try(cases h;done)
 rename_i k m rest hm;simp only[jAf,jBh]at h;obtain⟨r',h3,_,rfl⟩:=h;rw[hm]at hx;obtain⟨u,us,e,h1,h2⟩:=z8 hx;simp only[Rel]at h1;subst h1;obtain⟨v,hrun,hrel⟩:=zFI (P:=P) (w:=w) mx rest us k m r' h2 h3;refine⟨v,?_,hrel⟩;unfold execOp;cases mx
 .simp only[jAg,if_false]at hc hrun;simp[ho,resolve,hc,invoke,builtin,Builtin.min_,e,hrun]
 .simp only[if_true]at hc hrun;simp[ho,resolve,hc,invoke,builtin,Builtin.max_,e,hrun]
end
end Go.Abs
